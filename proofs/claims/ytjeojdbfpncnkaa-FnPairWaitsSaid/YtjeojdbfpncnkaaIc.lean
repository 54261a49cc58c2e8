/- One and those that wait: the program's. -/
import Derived.Test.YtjeojdbfpncnkaaIb
import Derived.Test.YtjeojdbfpncnkaaCg
import Derived.Deep.RegionHeld3
set_option linter.unusedVariables false
set_option linter.unusedSimpArgs false
namespace Go.Proofs.Ytjeojdbfpncnkaa.Ic
open Go.RowKit Go.Proofs.YtjeojdbfpncnkaaW.PrintWords Go.Proofs.Ytjeojdbfpncnkaa.Wd Go.Proofs.Ytjeojdbfpncnkaa.Pu Go.Proofs.Ytjeojdbfpncnkaa.Pv Go.Proofs.Ytjeojdbfpncnkaa.Ca Go.Proofs.Ytjeojdbfpncnkaa.Cc Go.Proofs.Ytjeojdbfpncnkaa.Cp Go.Proofs.Ytjeojdbfpncnkaa.Cd Go.Proofs.Ytjeojdbfpncnkaa.Ci Go.Proofs.Ytjeojdbfpncnkaa.Ce Go.Proofs.Ytjeojdbfpncnkaa.Cf Go.Proofs.Ytjeojdbfpncnkaa.Cg Go.Proofs.Ytjeojdbfpncnkaa.Ia Go.Proofs.Ytjeojdbfpncnkaa.Ib

theorem okIds_len : ∀ {l : List Int} {last : Int}, last ≤ 23 → okIds last l = true → (l.length : Int) ≤ 23 - last
  | [], _, h, _ => by simp; omega
  | z :: l, last, h, hk => by
    simp only [okIds, inb, Bool.and_eq_true, decide_eq_true_eq] at hk
    have := okIds_len hk.1.2 hk.2
    simp only [List.length_cons]
    omega
theorem isOk_24 {o : Occ} (h : IsOk o) : o.f2.length ≤ 24 := by
  have h2 := okO_iff.2 h
  unfold okO at h2
  simp only [Bool.and_eq_true] at h2
  have := okIds_len (by omega) h2.1
  omega
theorem isOk_big {o : Occ} (h : IsOk o) : o.f2.length ≤ 1048576 := by have := isOk_24 h; omega
theorem add0 (ad : Addr) : ad.add 0 = ad := by cases ad; unfold Addr.add; split <;> simp_all
theorem one_L {w : World} {B : Nat} {t : TypeId} {o : Occ} {A : Option Addr} {c : Nat} (hB : w.heap[B]? = some (.cells #[.int .i64 o.f0, .int .i64 o.f1, .slice A o.f2.length c] t (0, 0))) (ho : IsO w o A c) : IsL w [o] (some ⟨B, 0, none⟩) 1 := by
  refine ⟨by simp, ⟨rfl, by simp, fun _ => ⟨_, rfl, fun j q hj => ?_⟩⟩⟩
  obtain ⟨rfl, rfl⟩ : j = 0 ∧ q = o := by
    rcases j with _ | j
    · exact ⟨rfl, by simpa using hj.symm⟩
    · simp at hj
  refine ⟨_, rfl, kO_mk w q ho.1 ho.2, fun i u hi => ?_⟩
  rw [add_plain, Nat.zero_mul, Nat.zero_add, blk_cell hB i]
  simpa using hi
theorem take_any (ad : Addr) (n c m : Nat) (hm : m ≤ c) (W : World) : (Instr.slice 27 (.slice (some ad) n c) none (some (.int .i64 (m : Int))) none).run Try.prog W = .ok (.slice (some ad) m c) W := by
  have hel : Try.prog.elem 27 = 25 := by simp [Program.elem, Try.underlying27]
  have hu : Try.prog.underlying 27 = some (.slice (Try.prog.elem 27)) := by rw [hel]; exact Try.underlying27
  obtain ⟨i, hi, hi2⟩ := Option.map_eq_some_iff.1 sizeO
  rw [run_slice_h W _ (some ad) n c hu .i64 (m : Int) (Int.natCast_nonneg _) (by omega), hel]
  simp [sizeOf, typeInfo, hi, hi2, sliced, Result.andThen, add0]
theorem IsL.take {w : World} {l : List Occ} {ad : Addr} {c m : Nat} (h : IsL w l (some ad) c) (hm : m ≤ l.length) : IsL w (l.take m) (some ad) c := by
  refine ⟨by rw [List.length_take]; have := h.cap; omega, ⟨rfl, by rw [List.length_take]; have := h.rd.2.1; omega, fun h0 => ?_⟩⟩
  obtain ⟨ad', e, hc⟩ := h.rd.2.2 (by rw [List.length_take] at h0; omega)
  exact ⟨ad', e, fun j q hj => hc j q (by rw [List.getElem?_take] at hj; split at hj; exact hj; cases hj)⟩
theorem IsL.nil (w : World) : IsL w [] none 0 := ⟨Nat.le_refl _, ⟨rfl, by decide, fun h => by simp at h⟩⟩

def CombOut (w w' : World) (mode : Int) (o : Occ) (l : List Occ) (e : Ending) : Prop :=
  ∃ A1 c1 A2 c2, e = .returned (.tuple #[.slice A1 (combine mode o l).1.length c1, .slice A2 (combine mode o l).2.length c2]) ∧ IsL w' (combine mode o l).1 A1 c1 ∧ IsL w' (combine mode o l).2 A2 c2 ∧ Below w.heap.size w w'
theorem combOut {w w' : World} {mode : Int} {o : Occ} {l r1 r2 : List Occ} {A1 A2 : Option Addr} {n1 n2 c1 c2 : Nat} (h : combine mode o l = (r1, r2)) (h1 : n1 = r1.length) (h2 : n2 = r2.length) (h3 : IsL w' r1 A1 c1) (h4 : IsL w' r2 A2 c2) (hb : Below w.heap.size w w') :
    CombOut w w' mode o l (.returned (.tuple #[.slice A1 n1 c1, .slice A2 n2 c2])) := by
  subst h1 h2
  exact ⟨A1, c1, A2, c2, by rw [h], by rw [h]; exact h3, by rw [h]; exact h4, hb⟩

set_option maxHeartbeats 2000000 in
set_option maxRecDepth 100000 in
theorem combine_any (mode : Int) (hm : 0 ≤ mode ∧ mode ≤ 4) (o : Occ) (B : Option Addr) (cb : Nat) (A : Option Addr) (c : Nat) (l : List Occ) (w : World) (ho : IsO w o B cb) (hok : IsOk o) (hls : ∀ x ∈ l, IsOk x) (hl : l.length ≤ 1048576) (hL : IsL w l A c) :
    Calls Try.prog 85 #[.int .i64 mode, .agg #[.int .i64 o.f0, .int .i64 o.f1, .slice B o.f2.length cb], .slice A l.length c] w fun e w' => CombOut w w' mode o l e := by
  have hbx := box3 w (.int .i64 o.f0) (.int .i64 o.f1) (.slice B o.f2.length cb) 25
  have bx : (w.alloc (.cells #[.int .i64 o.f0, .int .i64 o.f1, .slice B o.f2.length cb] 25)).heap[w.heap.size]? = some (.cells #[.int .i64 o.f0, .int .i64 o.f1, .slice B o.f2.length cb] 25 (0, 0)) := blk_new _ _
  by_cases h0 : l.length = 0
  · obtain rfl : l = [] := List.eq_nil_of_length_eq_zero h0
    have HP := Aside0.mk (show CombOut w (w.alloc (.cells #[.int .i64 o.f0, .int .i64 o.f1, .slice B o.f2.length cb] 25)) mode o [] (.returned (.tuple #[.slice none 0 0, .slice none 0 0])) from combOut (r1 := []) (r2 := []) rfl rfl rfl (IsL.nil _) (IsL.nil _) hbx.1)
    go_enter Try.func85, Try.ntmps85
    go_wp2
    go_ret2
    exact HP.out
  have hlz : ((l.length : Int) == 0) = false := by rw [beq_eq_false_iff_ne]; omega
  have hlz2 : ¬ ((l.length : Int) = 0) := by omega
  have hpos : 0 < l.length := by omega
  obtain ⟨ad, A2, c2, rfl, qa, qb, qc, ql, qC⟩ := atO hL.rd 0 hpos
  have HL := Aside0.mk hL
  have HO := Aside0.mk ho
  have HK := Aside0.mk hok
  have HS := Aside0.mk hls
  obtain rfl | rfl | rfl | hm03 : mode = 1 ∨ mode = 2 ∨ mode = 4 ∨ (mode = 0 ∨ mode = 3) := by omega
  · -- the last one
    obtain ⟨ad', A3, c3, e3, pa, pb, pc, pl, pC⟩ := atO hL.rd (l.length - 1) (by omega)
    cases e3
    obtain ⟨n, hn⟩ : ∃ n, l.length = n + 1 := ⟨l.length - 1, by omega⟩
    have hIy : IsO w (l.getD (l.length - 1) zO) A3 c3 := ⟨pl, pC⟩
    have hy := hls _ (getD_mem (l := l) (i := l.length - 1) (by omega))
    have HE := Aside0.mk (show combine 1 o l = ([join o (l.getD (l.length - 1) zO)], []) by unfold combine; rw [if_neg h0]; simp)
    generalize l.getD (l.length - 1) zO = y at pa pb pc hIy hy HE
    have HY := Aside0.mk hy
    have HN := Aside0.mk hn
    rw [hn] at pa pb pc
    rw [Nat.add_sub_cancel] at pa pb pc
    have i0 : (0 : Int) ≤ (n : Int) := by omega
    have i1 : (n : Int) < n + 1 := by omega
    have i2 : n < n + 1 := by omega
    have w1' : IntKind.i64.wrap (n : Int) = n := by rw [IntKind.wrap_i64]; omega
    have w2' : IntKind.i64.wrap ((n : Int) + 1 - 1) = n := by rw [IntKind.wrap_i64]; have := hn; omega
    have w3' : IntKind.i64.wrap ((n : Int) + 1) = (n : Int) + 1 := by rw [IntKind.wrap_i64]; omega
    rw [hn] at hlz hlz2
    rw [hn]
    clear hn pl pC ql qC qa qb qc hy hls hok ho hL h0 hpos
    go_enter Try.func85, Try.ntmps85
    go_wp2
    generalize w.alloc (.cells #[.int .i64 o.f0, .int .i64 o.f1, .slice B o.f2.length cb] 25) = W at hbx bx ⊢
    have HIy := Aside0.mk (hIy.below hbx.1)
    have HIo := Aside0.mk (HO.out.below hbx.1)
    have HBW := Aside0.mk hbx.1
    have F : ∀ w', Below W.heap.size W w' → w'.cell? ⟨w.heap.size, 0, none⟩ = some (.int .i64 o.f0) ∧ w'.cell? ⟨w.heap.size, 1, none⟩ = some (.int .i64 o.f1) ∧ w'.cell? ⟨w.heap.size, 2, none⟩ = some (.slice B o.f2.length cb) ∧ w'.cell? (ad.add (n * 3)) = some (.int .i64 y.f0) ∧ w'.cell? ⟨(ad.add (n * 3)).block, (ad.add (n * 3)).off + 1, none⟩ = some (.int .i64 y.f1) ∧ w'.cell? ⟨(ad.add (n * 3)).block, (ad.add (n * 3)).off + 2, none⟩ = some (.slice A3 y.f2.length c3) :=
      fun w' h => ⟨pw_cell_below h hbx.2.1, pw_cell_below h hbx.2.2.1, pw_cell_below h hbx.2.2.2, pw_cell_below (below_then hbx.1 hbx.1.size h) pa, pw_cell_below (below_then hbx.1 hbx.1.size h) pb, pw_cell_below (below_then hbx.1 hbx.1.size h) pc⟩
    clear pa pb pc hbx bx hIy
    go_region_held3 (fun w' => w'.cell? ⟨w.heap.size, 0, none⟩ = some (.int .i64 o.f0) ∧ w'.cell? ⟨w.heap.size, 1, none⟩ = some (.int .i64 o.f1) ∧ w'.cell? ⟨w.heap.size, 2, none⟩ = some (.slice B o.f2.length cb) ∧ w'.cell? (ad.add (n * 3)) = some (.int .i64 y.f0) ∧ w'.cell? ⟨(ad.add (n * 3)).block, (ad.add (n * 3)).off + 1, none⟩ = some (.int .i64 y.f1) ∧ w'.cell? ⟨(ad.add (n * 3)).block, (ad.add (n * 3)).off + 2, none⟩ = some (.slice A3 y.f2.length c3))
      (first | (with_reducible exact F _ (Below.refl _ _)) | (with_reducible exact F _ (below_drew (Below.refl _ _))) | (with_reducible exact F _ HJ) | (with_reducible exact F _ (below_alloc HJ _)))
      (first
        | (go_at_call 40; refine (join_any o y B A3 cb c3 _ (HIo.out.below (below_drew (Below.refl _ _))) (HIy.out.below (below_drew (Below.refl _ _))) HK.out.asc HY.out.asc (isOk_big HK.out) (isOk_big HY.out)).mono ?_; rintro e wj ⟨vj, rfl, hj, hbj⟩; obtain ⟨Aj, cj, rfl⟩ := Kd.R_slice hj; have HJ : Below W.heap.size W wj := keepD hbj; have hjq := Kd.R_reads' hj; have HIj : Aside0 (IsO wj (join o y) Aj cj) := ⟨⟨hjq.2.1, hjq.2.2⟩⟩; clear hj hjq hbj))
    have HP := Aside0.mk (show CombOut w _ 1 o l (.returned (.tuple #[.slice (some ⟨wj.heap.size, 0, none⟩) 1 1, .slice none 0 0])) from combOut (w' := wj.alloc (.cells #[.int .i64 (join o y).f0, .int .i64 (join o y).f1, .slice Aj (join o y).f2.length cj] 25)) HE.out rfl rfl (one_L (blk_new _ _) (HIj.out.below (below_alloc (Below.refl _ _) _))) (IsL.nil _) (below_then HBW.out HBW.out.size (below_alloc HJ _)))
    go_wp2
    go_ret2
    exact HP.out
  · -- the first one
    have hIy : IsO w (l.getD 0 zO) A2 c2 := ⟨ql, qC⟩
    have hy := hls _ (getD_mem (l := l) (i := 0) hpos)
    have HE := Aside0.mk (show combine 2 o l = ([join o (l.getD 0 zO)], l.take 1) by unfold combine; rw [if_neg h0]; simp)
    have hTL := IsL.take hL (m := 1) hpos
    generalize l.getD 0 zO = y at qa qb qc hIy hy HE
    have HY := Aside0.mk hy
    have HTL := Aside0.mk hTL
    have htl : (l.take 1).length = 1 := by rw [List.length_take]; omega
    rw [Nat.zero_mul, add0] at qa qb qc
    have htk : ∀ W, (Instr.slice 27 (.slice (some ad) l.length c) none (some (.int .i64 1)) none).run Try.prog W = .ok (.slice (some ad) 1 c) W := fun W => take_any ad l.length c 1 (by have := hL.cap; omega) W
    have i1 : (0 : Int) < l.length := by omega
    have HT := Aside0.mk htl
    clear ql qC hy hls hok ho hL h0 hTL htl
    go_enter Try.func85, Try.ntmps85
    go_wp2
    generalize w.alloc (.cells #[.int .i64 o.f0, .int .i64 o.f1, .slice B o.f2.length cb] 25) = W at hbx bx ⊢
    have HIy := Aside0.mk (hIy.below hbx.1)
    have HIo := Aside0.mk (HO.out.below hbx.1)
    have HBW := Aside0.mk hbx.1
    have F : ∀ w', Below W.heap.size W w' → w'.cell? ⟨w.heap.size, 0, none⟩ = some (.int .i64 o.f0) ∧ w'.cell? ⟨w.heap.size, 1, none⟩ = some (.int .i64 o.f1) ∧ w'.cell? ⟨w.heap.size, 2, none⟩ = some (.slice B o.f2.length cb) ∧ w'.cell? ad = some (.int .i64 y.f0) ∧ w'.cell? ⟨ad.block, ad.off + 1, none⟩ = some (.int .i64 y.f1) ∧ w'.cell? ⟨ad.block, ad.off + 2, none⟩ = some (.slice A2 y.f2.length c2) :=
      fun w' h => ⟨pw_cell_below h hbx.2.1, pw_cell_below h hbx.2.2.1, pw_cell_below h hbx.2.2.2, pw_cell_below (below_then hbx.1 hbx.1.size h) qa, pw_cell_below (below_then hbx.1 hbx.1.size h) qb, pw_cell_below (below_then hbx.1 hbx.1.size h) qc⟩
    clear qa qb qc hbx bx hIy
    go_region_held3 (fun w' => w'.cell? ⟨w.heap.size, 0, none⟩ = some (.int .i64 o.f0) ∧ w'.cell? ⟨w.heap.size, 1, none⟩ = some (.int .i64 o.f1) ∧ w'.cell? ⟨w.heap.size, 2, none⟩ = some (.slice B o.f2.length cb) ∧ w'.cell? ad = some (.int .i64 y.f0) ∧ w'.cell? ⟨ad.block, ad.off + 1, none⟩ = some (.int .i64 y.f1) ∧ w'.cell? ⟨ad.block, ad.off + 2, none⟩ = some (.slice A2 y.f2.length c2))
      (first | (with_reducible exact F _ (Below.refl _ _)) | (with_reducible exact F _ (below_drew (Below.refl _ _))) | (with_reducible exact F _ HJ) | (with_reducible exact F _ (below_alloc HJ _)))
      (first
        | (go_at_call 40; refine (join_any o y B A2 cb c2 _ (HIo.out.below (below_drew (Below.refl _ _))) (HIy.out.below (below_drew (Below.refl _ _))) HK.out.asc HY.out.asc (isOk_big HK.out) (isOk_big HY.out)).mono ?_; rintro e wj ⟨vj, rfl, hj, hbj⟩; obtain ⟨Aj, cj, rfl⟩ := Kd.R_slice hj; have HJ : Below W.heap.size W wj := keepD hbj; have hjq := Kd.R_reads' hj; have HIj : Aside0 (IsO wj (join o y) Aj cj) := ⟨⟨hjq.2.1, hjq.2.2⟩⟩; clear hj hjq hbj))
    all_goals
      have HP := Aside0.mk (show CombOut w _ 2 o l (.returned (.tuple #[.slice (some ⟨wj.heap.size, 0, none⟩) 1 1, .slice (some ad) 1 c])) from combOut (w' := wj.alloc (.cells #[.int .i64 (join o y).f0, .int .i64 (join o y).f1, .slice Aj (join o y).f2.length cj] 25)) HE.out rfl HT.out.symm (one_L (blk_new _ _) (HIj.out.below (below_alloc (Below.refl _ _) _))) (HTL.out.below (below_then HBW.out HBW.out.size (below_alloc HJ _))) (below_then HBW.out HBW.out.size (below_alloc HJ _)))
      go_wp2
      go_ret2
      exact HP.out
  · -- the sum
    have HE := Aside0.mk (show combine 4 o l = ([l.foldl join o], l) by unfold combine; rw [if_neg h0]; simp)
    clear qa qb qc ql qC hls hok ho h0
    go_enter Try.func85, Try.ntmps85
    go_wp2
    have HW := Aside0.mk hbx.1
    clear hbx
    go_loopw [41] (fun vi wr => ∃ (k : Nat) (x : Occ) (Ax : Option Addr) (cx : Nat), k ≤ l.length ∧ vi = .int .i64 k ∧ Aside0 (x = (l.take k).foldl join o ∧ IsOk x) ∧ Aside0 (IsO wr x Ax cx) ∧ wr.heap[w.heap.size]? = some (.cells #[.int .i64 x.f0, .int .i64 x.f1, .slice Ax x.f2.length cx] 25 (0, 0)) ∧ Aside0 (Below w.heap.size w wr)) (fun vi _ => l.length - (intOf vi).toNat)
    case atStart => exact ⟨0, o, B, cb, Nat.zero_le _, rfl, ⟨by simp, HK.out⟩, ⟨HO.out.below HW.out⟩, bx, HW⟩
    case round =>
      obtain ⟨k, x, Ax, cx, hk, rfl, HX, HI, hb1, HB⟩ := hrel
      clear bx
      have b0 := (blk_cell hb1 0).trans rfl
      have b1 := (blk_cell hb1 1).trans rfl
      have b2 := (blk_cell hb1 2).trans rfl
      have z0 := blk_frozen hb1 0
      have z1 := blk_frozen hb1 1
      have z2 := blk_frozen hb1 2
      have hgw : w.heap.size < wr.heap.size := blk_lt hb1
      by_cases hlt : k < l.length
      · obtain ⟨ad', A3, c3, e3, pa, pb, pc, pl, pC⟩ := atO (HL.out.below HB.out).rd k hlt
        cases e3
        have hT := take_succ_getD l k zO hlt
        have hIy : IsO wr (l.getD k zO) A3 c3 := ⟨pl, pC⟩
        have hy := HS.out _ (getD_mem (l := l) (i := k) hlt)
        generalize l.getD k zO = y at pa pb pc hIy hy hT
        have HT := Aside0.mk hT
        have HY := Aside0.mk hy
        clear pl pC hy hT
        have hb3 := box3 wr (.int .i64 y.f0) (.int .i64 y.f1) (.slice A3 y.f2.length c3) 25
        have HIx := Aside0.mk (HI.out.below hb3.1)
        have HIy := Aside0.mk (hIy.below hb3.1)
        have bo := blk_alloc hb1 (.cells #[.int .i64 y.f0, .int .i64 y.f1, .slice A3 y.f2.length c3] 25)
        have HB3 := Aside0.mk hb3.1
        go_wp2_with (go_at_call 40; refine (join_any x y Ax A3 cx c3 _ HIx.out HIy.out HX.out.2.asc HY.out.asc (isOk_big HX.out.2) (isOk_big HY.out)).mono ?_; rintro e wj ⟨vj, rfl, hj, hbj⟩; obtain ⟨Aj, cj, rfl⟩ := Kd.R_slice hj; have bj := blk_below bo hbj; have q0 := (blk_cell bj 0).trans rfl; have q1 := (blk_cell bj 1).trans rfl; have q2 := (blk_cell bj 2).trans rfl; have g0 := blk_frozen bj 0; have g1 := blk_frozen bj 1; have g2 := blk_frozen bj 2; have HJ := Aside0.mk (below_then HB3.out HB3.out.size hbj); have HR := Aside0.mk hj; clear hj hbj)
        have r3 := set3_R HR.out bj (by decide) (.int .i64 (join x y).f0) (.int .i64 (join x y).f1) (.slice Aj (join x y).f2.length cj)
        have b3 := set3_blk (.int .i64 (join x y).f0) (.int .i64 (join x y).f1) (.slice Aj (join x y).f2.length cj) bj
        have hq := Kd.R_reads' r3
        have HB4 := Aside0.mk (set3_below (below_then HB.out HB.out.size HJ.out) (Nat.le_refl _) (.int .i64 (join x y).f0) (.int .i64 (join x y).f1) (.slice Aj (join x y).f2.length cj))
        go_roundw
        case rel => exact ⟨k + 1, join x y, Aj, cj, by omega, by go_num, ⟨by rw [HT.out, List.foldl_append, ← HX.out.1]; rfl, isOk_join HX.out.2 HY.out⟩, ⟨⟨hq.2.1, hq.2.2⟩⟩, b3, HB4⟩
        case measure => simp [intOf]; omega
      · have hke : k = l.length := by omega
        subst hke
        have hX := HX.out.1
        rw [List.take_length] at hX
        have HP := Aside0.mk (show CombOut w _ 4 o l (.returned (.tuple #[.slice (some ⟨wr.heap.size, 0, none⟩) 1 1, .slice (some ad) l.length c])) from combOut (w' := wr.alloc (.cells #[.int .i64 x.f0, .int .i64 x.f1, .slice Ax x.f2.length cx] 25)) (by rw [HE.out, hX]) rfl rfl (one_L (blk_new _ _) (HI.out.below (below_alloc (Below.refl _ _) _))) (HL.out.below (below_alloc HB.out _)) (below_alloc HB.out _))
        clear hX
        go_wp2
        go_ret2
        exact HP.out
  · -- all, or each
    have HE : Aside0 (combine mode o l = (putAll [] (l.map (join o)), if mode = 3 then l else [])) := ⟨by unfold combine; rw [if_neg h0, if_neg (by omega), if_neg (by omega), if_neg (by omega)]⟩
    clear qa qb qc ql qC hls hok ho h0
    have m1 : (mode == 1) = false := by rw [beq_eq_false_iff_ne]; omega
    have m2 : (mode == 2) = false := by rw [beq_eq_false_iff_ne]; omega
    have m4 : (mode == 4) = false := by rw [beq_eq_false_iff_ne]; omega
    go_enter Try.func85, Try.ntmps85
    go_wp2
    have HW := Aside0.mk hbx.1
    clear hbx
    generalize w.alloc (.cells #[.int .i64 o.f0, .int .i64 o.f1, .slice B o.f2.length cb] 25) = W at HW bx ⊢
    go_loopw [6, 54] (fun v6 vi wr => ∃ (k : Nat) (A' : Option Addr) (n c' : Nat), k ≤ l.length ∧ vi = .int .i64 k ∧ v6 = .slice A' n c' ∧ Aside0 (n = (putAll [] ((l.take k).map (join o))).length ∧ IsL wr (putAll [] ((l.take k).map (join o))) A' c') ∧ Aside0 (Below W.heap.size W wr)) (fun _ vi _ => l.length - (intOf vi).toNat)
    case atStart => exact ⟨0, none, 0, 0, Nat.zero_le _, rfl, rfl, ⟨by simp [putAll], by simpa [putAll] using IsL.nil _⟩, ⟨Below.refl _ _⟩⟩
    case round =>
      obtain ⟨k, A1, n, c1, hk, rfl, rfl, HI, HB⟩ := hrel
      have hb1 := blk_below bx HB.out
      have hgw : w.heap.size < wr.heap.size := blk_lt hb1
      have b0 := (blk_cell hb1 0).trans rfl
      have b1 := (blk_cell hb1 1).trans rfl
      have b2 := (blk_cell hb1 2).trans rfl
      by_cases hlt : k < l.length
      · have HBw := below_then HW.out HW.out.size HB.out
        obtain ⟨ad', A3, c3, e3, pa, pb, pc, pl, pC⟩ := atO (HL.out.below HBw).rd k hlt
        cases e3
        have hT := take_succ_getD l k zO hlt
        have hIy : IsO wr (l.getD k zO) A3 c3 := ⟨pl, pC⟩
        have hy := HS.out _ (getD_mem (l := l) (i := k) hlt)
        have hln := len_putAll [] ((l.take k).map (join o))
        rw [List.length_map, List.length_take] at hln
        generalize l.getD k zO = y at pa pb pc hIy hy hT
        have HT := Aside0.mk (show putAll [] ((l.take (k + 1)).map (join o)) = put (putAll [] ((l.take k).map (join o))) (join o y) by rw [hT, List.map_append, putAll_append]; rfl)
        have HY := Aside0.mk hy
        have hsp : Sorted (putAll [] ((l.take k).map (join o))) := sorted_putAll List.Pairwise.nil
        obtain ⟨hn, hL1⟩ := HI.out
        have HL1 := Aside0.mk hL1
        clear pl pC hy hT HI hL1
        generalize putAll [] ((l.take k).map (join o)) = L at *
        subst hn
        have hb3 := box3 wr (.int .i64 y.f0) (.int .i64 y.f1) (.slice A3 y.f2.length c3) 25
        have HIx := Aside0.mk ((HO.out.below HBw).below hb3.1)
        have HIy := Aside0.mk (hIy.below hb3.1)
        have HB3 := Aside0.mk hb3.1
        have hsp2 := isOk_big (isOk_join HK.out HY.out)
        go_wp2_with (first
          | (go_at_call 42; refine (put_any A1 Aj c1 cj L (join o y) _ hsp (by simp at hln; omega) HL1.out.cap (HL1.out.below (below_then HB3.out HB3.out.size HJ.out)).rd HIj.out).mono ?_; rintro e w3 ⟨A4, c4, rfl, h1, h2, h3⟩; have HB5 := Aside0.mk (below_then HB.out HB.out.size (below_then HB3.out HB3.out.size (below_then HJ.out HJ.out.size h3))); have HL5 := Aside0.mk (IsL.mk h1 h2); clear h1 h2 h3)
          | (go_at_call 40; refine (join_any o y B A3 cb c3 _ HIx.out HIy.out HK.out.asc HY.out.asc (isOk_big HK.out) (isOk_big HY.out)).mono ?_; rintro e wj ⟨vj, rfl, hj, hbj⟩; obtain ⟨Aj, cj, rfl⟩ := Kd.R_slice hj; have hjq := Kd.R_reads' hj; have HIj : Aside0 (IsO wj (join o y) Aj cj) := ⟨⟨hjq.2.1, hjq.2.2⟩⟩; have HJ := Aside0.mk hbj; clear hj hbj hjq))
        go_roundw
        case rel => exact ⟨k + 1, A4, _, c4, by omega, by go_num, rfl, ⟨by rw [HT.out], by rw [HT.out]; exact HL5.out⟩, HB5⟩
        case measure => simp [intOf]; omega
      · have hke : k = l.length := by omega
        subst hke
        have hI := HI.out
        rw [List.take_length] at hI
        have hbW := below_then HW.out HW.out.size HB.out
        by_cases hm3 : mode = 3
        · subst hm3
          have HP := Aside0.mk (show CombOut w wr 3 o l (.returned (.tuple #[.slice A1 n c1, .slice (some ad) l.length c])) from combOut HE.out hI.1 rfl hI.2 (HL.out.below hbW) hbW)
          clear hI hbW
          go_wp2
          go_ret2
          exact HP.out
        · have hm0 : mode = 0 := by omega
          subst hm0
          have HP := Aside0.mk (show CombOut w wr 0 o l (.returned (.tuple #[.slice A1 n c1, .slice none 0 0])) from combOut HE.out hI.1 rfl hI.2 (IsL.nil _) hbW)
          clear hI hbW
          go_wp2
          go_ret2
          exact HP.out
end Go.Proofs.Ytjeojdbfpncnkaa.Ic
