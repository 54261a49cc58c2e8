
import Derived.Test.YtccenpmaooailaaGreatKB1
import Derived.Test.YtccenpmaooailaaGreatKB0
import Derived.Deep.RegionHeld3
/- Lists without some, lists of those that hold: the program's. -/
set_option linter.unusedVariables false
set_option linter.unusedSimpArgs false
namespace Go.Proofs.YtccenpmaooailaaGreat.Ia
open Go.RowKit Go.Proofs.YtccenpmaooailaaGreatW.PrintWords Go.Proofs.YtccenpmaooailaaGreat.Wd Go.Proofs.YtccenpmaooailaaGreat.Pu Go.Proofs.YtccenpmaooailaaGreat.Pv Go.Proofs.YtccenpmaooailaaGreat.Ca Go.Proofs.YtccenpmaooailaaGreat.Cp Go.Proofs.YtccenpmaooailaaGreat.Cd Go.Proofs.YtccenpmaooailaaGreat.Ci Go.Proofs.YtccenpmaooailaaGreat.Ce Go.Proofs.YtccenpmaooailaaGreat.Cf

/-- a list of one's own whose occurrences came in by w -/
abbrev Fx (w wr : World) (v : Value) (l : List Occ) : Prop := (Kd.fixed kO w).R 43 wr w.heap.size (fun _ => True) v l
theorem Fx.isL {w wr : World} {A : Option Addr} {n c : Nat} {l : List Occ} (h : Fx w wr (.slice A n c) l) (hb : Below w.heap.size w wr) : n = l.length ∧ IsL wr l A c := by
  have hq := Kd.R_reads' h
  refine ⟨hq.1, ⟨by have := hq.2.1; omega, C_fixed hq.2.2 hb⟩⟩
theorem Fx.nil (w wr : World) : Fx w wr (.slice none 0 0) [] := Kd.R_nil _ _ _ _ _
theorem filter_snoc (p : Occ → Bool) (l : List Occ) (o : Occ) : (l ++ [o]).filter p = if p o then l.filter p ++ [o] else l.filter p := by
  rw [List.filter_append]
  cases h : p o <;> simp [h]
theorem hit_mem {l : List Occ} {o : Occ} {p : Nat} (hs : Sorted l) (h : At l o p) : hit l o p = decide (o ∈ l) := by
  cases hh : hit l o p with
  | true =>
    unfold hit at hh
    simp only [Bool.and_eq_true, decide_eq_true_eq] at hh
    have e := (cmpO_eq _ _).1 hh.2
    rw [eq_comm, decide_eq_true_eq, ← e]
    exact getD_mem hh.1
  | false =>
    rw [eq_comm, decide_eq_false_iff_not]
    intro hm
    obtain ⟨j, hj, e⟩ := List.mem_iff_getElem.1 hm
    have e2 : l.getD j zO = o := by rw [List.getD_eq_getElem?_getD, List.getElem?_eq_getElem hj]; exact e
    by_cases h1 : j < p
    · have := h.lo j h1
      rw [e2] at this
      exact lt_irrefl _ this
    · by_cases h2 : j = p
      · have hc : hit l o p = true := by unfold hit; rw [← h2, e2, cmpO_refl]; simp; omega
        rw [hc] at hh; cases hh
      · have h3 := sorted_getD hs (i := p) (j := j) (by omega) hj
        rw [e2] at h3
        exact h.hi p (Nat.le_refl _) (by omega) h3

set_option maxHeartbeats 1000000 in
set_option maxRecDepth 100000 in
theorem without_any (A B : Option Addr) (c c2 : Nat) (l m : List Occ) (w : World) (hs : Sorted m) (hm : m.length ≤ 1048576) (hl : l.length ≤ 1048576) (hL : IsL w l A c) (hM : IsL w m B c2) :
    Calls Tryz.prog 85 #[.slice A l.length c, .slice B m.length c2] w fun e w' =>
      ∃ A' c', e = .returned (.slice A' (without l m).length c') ∧ IsL w' (without l m) A' c' ∧ Below w.heap.size w w' := by
  go_enter Tryz.func85, Tryz.ntmps85
  go_wp2
  go_loopw [5, 12] (fun v5 vi wr => ∃ (k : Nat) (v : Value), k ≤ l.length ∧ vi = .int .i64 k ∧ v = v5 ∧ Aside0 (Fx w wr v (without (l.take k) m)) ∧ Aside0 (Below w.heap.size w wr)) (fun _ vi _ => l.length - (intOf vi).toNat)
  case atStart => exact ⟨0, _, Nat.zero_le _, rfl, rfl, ⟨by simpa [without] using Fx.nil w w⟩, ⟨Below.refl _ _⟩⟩
  case round =>
    obtain ⟨k, v, hk, rfl, rfl, HF, HB⟩ := hrel
    by_cases hlt : k < l.length
    · obtain ⟨ad, A2, c3, rfl, ha, hb, hc, hl2, hC2⟩ := atO (hL.below HB.out).rd k hlt
      obtain ⟨ad0, A20, c30, e0, ha0, hb0, hc0, hl20, hC20⟩ := atO hL.rd k hlt
      cases e0
      have hsame : A20 = A2 ∧ c30 = c3 := by have := pw_cell_below HB.out hc0; rw [hc] at this; injection this with this; injection this with h1 h2 h3; exact ⟨h1.symm, h3.symm⟩
      obtain ⟨rfl, rfl⟩ := hsame
      have hT := take_succ_getD l k zO hlt
      have hIs : IsO wr (l.getD k zO) A20 c30 := ⟨hl2, hC2⟩
      have hIw : IsO w (l.getD k zO) A20 c30 := ⟨hl20, hC20⟩
      have hln : (without (l.take k) m).length ≤ k := by unfold without; exact Nat.le_trans (List.length_filter_le _ _) (by rw [List.length_take]; omega)
      clear hl2 hC2 hl20 hC20 ha0 hb0 hc0
      generalize l.getD k zO = o at ha hb hc hIs hIw hT
      have HT := Aside0.mk (show without (l.take (k + 1)) m = if (!decide (o ∈ m)) then without (l.take k) m ++ [o] else without (l.take k) m by rw [hT]; exact filter_snoc _ _ _)
      clear hT
      have hbx := (box3 wr (.int .i64 o.f0) (.int .i64 o.f1) (.slice A20 o.f2.length c30) 43).1
      have hown : ∀ j, v.ownBlock = some j → j < wr.heap.size := Kd.R_lt HF.out
      go_wp2_with (first
        | (go_at_call 103; refine (bs_any B A20 c2 c30 m o _ hs hm (hM.below (below_then HB.out HB.out.size hbx)).rd (hIs.below hbx)).mono ?_; rintro e w1 ⟨p, hAt, rfl, hb1⟩; rw [hit_mem hs hAt]; have HB1 := Aside0.mk (below_then hbx hbx.size hb1); have q0 := pw_cell_below hb1 (box3 wr (.int .i64 o.f0) (.int .i64 o.f1) (.slice A20 o.f2.length c30) 43).2.1; have q1 := pw_cell_below hb1 (box3 wr (.int .i64 o.f0) (.int .i64 o.f1) (.slice A20 o.f2.length c30) 43).2.2.1; have q2 := pw_cell_below hb1 (box3 wr (.int .i64 o.f0) (.int .i64 o.f1) (.slice A20 o.f2.length c30) 43).2.2.2; clear hb1 hAt; cases hd : decide (o ∈ m))
        | ((with_reducible refine gate_dst (N := 27) rfl ?_); refine Kd.R_append (Kd.fixed kO w) (w0 := w) w.heap.size rfl _ _ 23 43 (.agg #[.int .i64 0, .int .i64 0, .slice none 0 0]) 40 rfl Tryz.underlying23 infoO rfl (szO w) (by decide) v (without (l.take k) m) o [.int .i64 o.f0, .int .i64 o.f1, .slice A20 o.f2.length c30] (fun _ => True) (fun _ => False) rfl rfl (kO_mk w o hIw.1 hIw.2) (fun _ h => h.elim) (fun _ _ => trivial) (Kd.R_below HF.out HB1.out) (below_then HB.out HB.out.size HB1.out) (Nat.le_trans HB.out.size HB1.out.size) (by omega) ?_; intro v3 w3 hs3 hb3 _ _; have HS3 := Aside0.mk hs3; have HB3 := Aside0.mk hb3; clear hs3 hb3))
      · go_roundw
        case rel => exact ⟨k + 1, _, by omega, by go_num, rfl, ⟨by rw [HT.out, hd]; exact HS3.out⟩, HB3⟩
        case measure => simp [intOf]; omega
      · go_roundw
        case rel => exact ⟨k + 1, _, by omega, by go_num, rfl, ⟨by rw [HT.out, hd]; exact Kd.R_below HF.out HB1.out⟩, ⟨below_then HB.out HB.out.size HB1.out⟩⟩
        case measure => simp [intOf]; omega
    · have hke : k = l.length := by omega
      subst hke
      have HL := HF.out
      rw [List.take_length] at HL
      obtain ⟨A9, c9, rfl⟩ := Kd.R_slice HL
      have HX := Aside0.mk (Fx.isL HL HB.out)
      clear HL
      go_wp2
      go_ret
      exact ⟨A9, c9, rfl, HX.out.2, HB.out⟩
end Go.Proofs.YtccenpmaooailaaGreat.Ia

/- Lists of those that hold: the program's. -/
set_option linter.unusedVariables false
set_option linter.unusedSimpArgs false
namespace Go.Proofs.YtccenpmaooailaaGreat.Ib
open Go.RowKit Go.Proofs.YtccenpmaooailaaGreatW.PrintWords Go.Proofs.YtccenpmaooailaaGreat.Wd Go.Proofs.YtccenpmaooailaaGreat.Pu Go.Proofs.YtccenpmaooailaaGreat.Pv Go.Proofs.YtccenpmaooailaaGreat.Ca Go.Proofs.YtccenpmaooailaaGreat.Cp Go.Proofs.YtccenpmaooailaaGreat.Cd Go.Proofs.YtccenpmaooailaaGreat.Ci Go.Proofs.YtccenpmaooailaaGreat.Ce Go.Proofs.YtccenpmaooailaaGreat.Cf Go.Proofs.YtccenpmaooailaaGreat.Ia

end Go.Proofs.YtccenpmaooailaaGreat.Ib

/- One and those that wait: the program's. -/
set_option linter.unusedVariables false
set_option linter.unusedSimpArgs false
namespace Go.Proofs.YtccenpmaooailaaGreat.Ic
open Go.RowKit Go.Proofs.YtccenpmaooailaaGreatW.PrintWords Go.Proofs.YtccenpmaooailaaGreat.Wd Go.Proofs.YtccenpmaooailaaGreat.Pu Go.Proofs.YtccenpmaooailaaGreat.Pv Go.Proofs.YtccenpmaooailaaGreat.Ca Go.Proofs.YtccenpmaooailaaGreat.Cc Go.Proofs.YtccenpmaooailaaGreat.Cp Go.Proofs.YtccenpmaooailaaGreat.Cd Go.Proofs.YtccenpmaooailaaGreat.Ci Go.Proofs.YtccenpmaooailaaGreat.Ce Go.Proofs.YtccenpmaooailaaGreat.Cf Go.Proofs.YtccenpmaooailaaGreat.Cg Go.Proofs.YtccenpmaooailaaGreat.Ia Go.Proofs.YtccenpmaooailaaGreat.Ib

theorem okIds_len : ∀ {l : List Int} {last : Int}, last ≤ 23 → okIds last l = true → (l.length : Int) ≤ 23 - last
  | [], _, h, _ => by simp; omega
  | z :: l, last, h, hk => by
    simp only [okIds, inb, Bool.and_eq_true, decide_eq_true_eq] at hk
    have := okIds_len hk.1.2 hk.2
    simp only [List.length_cons]
    omega
theorem isOk_24 {o : Occ} (h : IsOk o) : o.f2.length ≤ 24 := by
  have h2 := okO_iff.2 h
  unfold okO at h2
  simp only [Bool.and_eq_true] at h2
  have := okIds_len (by omega) h2.1
  omega
theorem isOk_big {o : Occ} (h : IsOk o) : o.f2.length ≤ 1048576 := by have := isOk_24 h; omega
theorem add0 (ad : Addr) : ad.add 0 = ad := by cases ad; unfold Addr.add; split <;> simp_all
theorem one_L {w : World} {B : Nat} {t : TypeId} {o : Occ} {A : Option Addr} {c : Nat} (hB : w.heap[B]? = some (.cells #[.int .i64 o.f0, .int .i64 o.f1, .slice A o.f2.length c] t (0, 0))) (ho : IsO w o A c) : IsL w [o] (some ⟨B, 0, none⟩) 1 := by
  refine ⟨by simp, ⟨rfl, by simp, fun _ => ⟨_, rfl, fun j q hj => ?_⟩⟩⟩
  obtain ⟨rfl, rfl⟩ : j = 0 ∧ q = o := by
    rcases j with _ | j
    · exact ⟨rfl, by simpa using hj.symm⟩
    · simp at hj
  refine ⟨_, rfl, kO_mk w q ho.1 ho.2, fun i u hi => ?_⟩
  rw [add_plain, Nat.zero_mul, Nat.zero_add, blk_cell hB i]
  simpa using hi
theorem take_any (ad : Addr) (n c m : Nat) (hm : m ≤ c) (W : World) : (Instr.slice 23 (.slice (some ad) n c) none (some (.int .i64 (m : Int))) none).run Tryz.prog W = .ok (.slice (some ad) m c) W := by
  have hel : Tryz.prog.elem 23 = 43 := by simp [Program.elem, Tryz.underlying23]
  have hu : Tryz.prog.underlying 23 = some (.slice (Tryz.prog.elem 23)) := by rw [hel]; exact Tryz.underlying23
  obtain ⟨i, hi, hi2⟩ := Option.map_eq_some_iff.1 sizeO
  rw [run_slice_h W _ (some ad) n c hu .i64 (m : Int) (Int.natCast_nonneg _) (by omega), hel]
  simp [sizeOf, typeInfo, hi, hi2, sliced, Result.andThen, add0]
theorem IsL.take {w : World} {l : List Occ} {ad : Addr} {c m : Nat} (h : IsL w l (some ad) c) (hm : m ≤ l.length) : IsL w (l.take m) (some ad) c := by
  refine ⟨by rw [List.length_take]; have := h.cap; omega, ⟨rfl, by rw [List.length_take]; have := h.rd.2.1; omega, fun h0 => ?_⟩⟩
  obtain ⟨ad', e, hc⟩ := h.rd.2.2 (by rw [List.length_take] at h0; omega)
  exact ⟨ad', e, fun j q hj => hc j q (by rw [List.getElem?_take] at hj; split at hj; exact hj; cases hj)⟩
theorem IsL.nil (w : World) : IsL w [] none 0 := ⟨Nat.le_refl _, ⟨rfl, by decide, fun h => by simp at h⟩⟩

def CombOut (w w' : World) (mode : Int) (o : Occ) (l : List Occ) (e : Ending) : Prop :=
  ∃ A1 c1 A2 c2, e = .returned (.tuple #[.slice A1 (combine mode o l).1.length c1, .slice A2 (combine mode o l).2.length c2]) ∧ IsL w' (combine mode o l).1 A1 c1 ∧ IsL w' (combine mode o l).2 A2 c2 ∧ Below w.heap.size w w'
theorem combOut {w w' : World} {mode : Int} {o : Occ} {l r1 r2 : List Occ} {A1 A2 : Option Addr} {n1 n2 c1 c2 : Nat} (h : combine mode o l = (r1, r2)) (h1 : n1 = r1.length) (h2 : n2 = r2.length) (h3 : IsL w' r1 A1 c1) (h4 : IsL w' r2 A2 c2) (hb : Below w.heap.size w w') :
    CombOut w w' mode o l (.returned (.tuple #[.slice A1 n1 c1, .slice A2 n2 c2])) := by
  subst h1 h2
  exact ⟨A1, c1, A2, c2, by rw [h], by rw [h]; exact h3, by rw [h]; exact h4, hb⟩

set_option maxHeartbeats 2000000 in
set_option maxRecDepth 100000 in
theorem combine_any (mode : Int) (hm : 0 ≤ mode ∧ mode ≤ 4) (o : Occ) (B : Option Addr) (cb : Nat) (A : Option Addr) (c : Nat) (l : List Occ) (w : World) (ho : IsO w o B cb) (hok : IsOk o) (hls : ∀ x ∈ l, IsOk x) (hl : l.length ≤ 1048576) (hL : IsL w l A c) :
    Calls Tryz.prog 83 #[.int .i64 mode, .agg #[.int .i64 o.f0, .int .i64 o.f1, .slice B o.f2.length cb], .slice A l.length c] w fun e w' => CombOut w w' mode o l e := by
  have hbx := box3 w (.int .i64 o.f0) (.int .i64 o.f1) (.slice B o.f2.length cb) 43
  have bx : (w.alloc (.cells #[.int .i64 o.f0, .int .i64 o.f1, .slice B o.f2.length cb] 43)).heap[w.heap.size]? = some (.cells #[.int .i64 o.f0, .int .i64 o.f1, .slice B o.f2.length cb] 43 (0, 0)) := blk_new _ _
  by_cases h0 : l.length = 0
  · obtain rfl : l = [] := List.eq_nil_of_length_eq_zero h0
    have HP := Aside0.mk (show CombOut w (w.alloc (.cells #[.int .i64 o.f0, .int .i64 o.f1, .slice B o.f2.length cb] 43)) mode o [] (.returned (.tuple #[.slice none 0 0, .slice none 0 0])) from combOut (r1 := []) (r2 := []) rfl rfl rfl (IsL.nil _) (IsL.nil _) hbx.1)
    go_enter Tryz.func83, Tryz.ntmps83
    go_wp2
    go_ret2
    exact HP.out
  have hlz : ((l.length : Int) == 0) = false := by rw [beq_eq_false_iff_ne]; omega
  have hlz2 : ¬ ((l.length : Int) = 0) := by omega
  have hpos : 0 < l.length := by omega
  obtain ⟨ad, A2, c2, rfl, qa, qb, qc, ql, qC⟩ := atO hL.rd 0 hpos
  have HL := Aside0.mk hL
  have HO := Aside0.mk ho
  have HK := Aside0.mk hok
  have HS := Aside0.mk hls
  obtain rfl | rfl | rfl | hm03 : mode = 1 ∨ mode = 2 ∨ mode = 4 ∨ (mode = 0 ∨ mode = 3) := by omega
  · -- the last one
    obtain ⟨ad', A3, c3, e3, pa, pb, pc, pl, pC⟩ := atO hL.rd (l.length - 1) (by omega)
    cases e3
    obtain ⟨n, hn⟩ : ∃ n, l.length = n + 1 := ⟨l.length - 1, by omega⟩
    have hIy : IsO w (l.getD (l.length - 1) zO) A3 c3 := ⟨pl, pC⟩
    have hy := hls _ (getD_mem (l := l) (i := l.length - 1) (by omega))
    have HE := Aside0.mk (show combine 1 o l = ([join o (l.getD (l.length - 1) zO)], []) by unfold combine; rw [if_neg h0]; simp)
    generalize l.getD (l.length - 1) zO = y at pa pb pc hIy hy HE
    have HY := Aside0.mk hy
    have HN := Aside0.mk hn
    rw [hn] at pa pb pc
    rw [Nat.add_sub_cancel] at pa pb pc
    have i0 : (0 : Int) ≤ (n : Int) := by omega
    have i1 : (n : Int) < n + 1 := by omega
    have i2 : n < n + 1 := by omega
    have w1' : IntKind.i64.wrap (n : Int) = n := by rw [IntKind.wrap_i64]; omega
    have w2' : IntKind.i64.wrap ((n : Int) + 1 - 1) = n := by rw [IntKind.wrap_i64]; have := hn; omega
    have w3' : IntKind.i64.wrap ((n : Int) + 1) = (n : Int) + 1 := by rw [IntKind.wrap_i64]; omega
    rw [hn] at hlz hlz2
    rw [hn]
    clear hn pl pC ql qC qa qb qc hy hls hok ho hL h0 hpos
    go_enter Tryz.func83, Tryz.ntmps83
    go_wp2
    generalize w.alloc (.cells #[.int .i64 o.f0, .int .i64 o.f1, .slice B o.f2.length cb] 43) = W at hbx bx ⊢
    have HIy := Aside0.mk (hIy.below hbx.1)
    have HIo := Aside0.mk (HO.out.below hbx.1)
    have HBW := Aside0.mk hbx.1
    have F : ∀ w', Below W.heap.size W w' → w'.cell? ⟨w.heap.size, 0, none⟩ = some (.int .i64 o.f0) ∧ w'.cell? ⟨w.heap.size, 1, none⟩ = some (.int .i64 o.f1) ∧ w'.cell? ⟨w.heap.size, 2, none⟩ = some (.slice B o.f2.length cb) ∧ w'.cell? (ad.add (n * 3)) = some (.int .i64 y.f0) ∧ w'.cell? ⟨(ad.add (n * 3)).block, (ad.add (n * 3)).off + 1, none⟩ = some (.int .i64 y.f1) ∧ w'.cell? ⟨(ad.add (n * 3)).block, (ad.add (n * 3)).off + 2, none⟩ = some (.slice A3 y.f2.length c3) :=
      fun w' h => ⟨pw_cell_below h hbx.2.1, pw_cell_below h hbx.2.2.1, pw_cell_below h hbx.2.2.2, pw_cell_below (below_then hbx.1 hbx.1.size h) pa, pw_cell_below (below_then hbx.1 hbx.1.size h) pb, pw_cell_below (below_then hbx.1 hbx.1.size h) pc⟩
    clear pa pb pc hbx bx hIy
    go_region_held3 (fun w' => w'.cell? ⟨w.heap.size, 0, none⟩ = some (.int .i64 o.f0) ∧ w'.cell? ⟨w.heap.size, 1, none⟩ = some (.int .i64 o.f1) ∧ w'.cell? ⟨w.heap.size, 2, none⟩ = some (.slice B o.f2.length cb) ∧ w'.cell? (ad.add (n * 3)) = some (.int .i64 y.f0) ∧ w'.cell? ⟨(ad.add (n * 3)).block, (ad.add (n * 3)).off + 1, none⟩ = some (.int .i64 y.f1) ∧ w'.cell? ⟨(ad.add (n * 3)).block, (ad.add (n * 3)).off + 2, none⟩ = some (.slice A3 y.f2.length c3))
      (first | (with_reducible exact F _ (Below.refl _ _)) | (with_reducible exact F _ (below_drew (Below.refl _ _))) | (with_reducible exact F _ HJ) | (with_reducible exact F _ (below_alloc HJ _)))
      (first
        | (go_at_call 66; refine (join_any o y B A3 cb c3 _ (HIo.out.below (below_drew (Below.refl _ _))) (HIy.out.below (below_drew (Below.refl _ _))) HK.out.asc HY.out.asc (isOk_big HK.out) (isOk_big HY.out)).mono ?_; rintro e wj ⟨vj, rfl, hj, hbj⟩; obtain ⟨Aj, cj, rfl⟩ := Kd.R_slice hj; have HJ : Below W.heap.size W wj := keepD hbj; have hjq := Kd.R_reads' hj; have HIj : Aside0 (IsO wj (join o y) Aj cj) := ⟨⟨hjq.2.1, hjq.2.2⟩⟩; clear hj hjq hbj))
    have HP := Aside0.mk (show CombOut w _ 1 o l (.returned (.tuple #[.slice (some ⟨wj.heap.size, 0, none⟩) 1 1, .slice none 0 0])) from combOut (w' := wj.alloc (.cells #[.int .i64 (join o y).f0, .int .i64 (join o y).f1, .slice Aj (join o y).f2.length cj] 43)) HE.out rfl rfl (one_L (blk_new _ _) (HIj.out.below (below_alloc (Below.refl _ _) _))) (IsL.nil _) (below_then HBW.out HBW.out.size (below_alloc HJ _)))
    go_wp2
    go_ret2
    exact HP.out
  · -- the first one
    have hIy : IsO w (l.getD 0 zO) A2 c2 := ⟨ql, qC⟩
    have hy := hls _ (getD_mem (l := l) (i := 0) hpos)
    have HE := Aside0.mk (show combine 2 o l = ([join o (l.getD 0 zO)], l.take 1) by unfold combine; rw [if_neg h0]; simp)
    have hTL := IsL.take hL (m := 1) hpos
    generalize l.getD 0 zO = y at qa qb qc hIy hy HE
    have HY := Aside0.mk hy
    have HTL := Aside0.mk hTL
    have htl : (l.take 1).length = 1 := by rw [List.length_take]; omega
    rw [Nat.zero_mul, add0] at qa qb qc
    have htk : ∀ W, (Instr.slice 23 (.slice (some ad) l.length c) none (some (.int .i64 1)) none).run Tryz.prog W = .ok (.slice (some ad) 1 c) W := fun W => take_any ad l.length c 1 (by have := hL.cap; omega) W
    have i1 : (0 : Int) < l.length := by omega
    have HT := Aside0.mk htl
    clear ql qC hy hls hok ho hL h0 hTL htl
    go_enter Tryz.func83, Tryz.ntmps83
    go_wp2
    generalize w.alloc (.cells #[.int .i64 o.f0, .int .i64 o.f1, .slice B o.f2.length cb] 43) = W at hbx bx ⊢
    have HIy := Aside0.mk (hIy.below hbx.1)
    have HIo := Aside0.mk (HO.out.below hbx.1)
    have HBW := Aside0.mk hbx.1
    have F : ∀ w', Below W.heap.size W w' → w'.cell? ⟨w.heap.size, 0, none⟩ = some (.int .i64 o.f0) ∧ w'.cell? ⟨w.heap.size, 1, none⟩ = some (.int .i64 o.f1) ∧ w'.cell? ⟨w.heap.size, 2, none⟩ = some (.slice B o.f2.length cb) ∧ w'.cell? ad = some (.int .i64 y.f0) ∧ w'.cell? ⟨ad.block, ad.off + 1, none⟩ = some (.int .i64 y.f1) ∧ w'.cell? ⟨ad.block, ad.off + 2, none⟩ = some (.slice A2 y.f2.length c2) :=
      fun w' h => ⟨pw_cell_below h hbx.2.1, pw_cell_below h hbx.2.2.1, pw_cell_below h hbx.2.2.2, pw_cell_below (below_then hbx.1 hbx.1.size h) qa, pw_cell_below (below_then hbx.1 hbx.1.size h) qb, pw_cell_below (below_then hbx.1 hbx.1.size h) qc⟩
    clear qa qb qc hbx bx hIy
    go_region_held3 (fun w' => w'.cell? ⟨w.heap.size, 0, none⟩ = some (.int .i64 o.f0) ∧ w'.cell? ⟨w.heap.size, 1, none⟩ = some (.int .i64 o.f1) ∧ w'.cell? ⟨w.heap.size, 2, none⟩ = some (.slice B o.f2.length cb) ∧ w'.cell? ad = some (.int .i64 y.f0) ∧ w'.cell? ⟨ad.block, ad.off + 1, none⟩ = some (.int .i64 y.f1) ∧ w'.cell? ⟨ad.block, ad.off + 2, none⟩ = some (.slice A2 y.f2.length c2))
      (first | (with_reducible exact F _ (Below.refl _ _)) | (with_reducible exact F _ (below_drew (Below.refl _ _))) | (with_reducible exact F _ HJ) | (with_reducible exact F _ (below_alloc HJ _)))
      (first
        | (go_at_call 66; refine (join_any o y B A2 cb c2 _ (HIo.out.below (below_drew (Below.refl _ _))) (HIy.out.below (below_drew (Below.refl _ _))) HK.out.asc HY.out.asc (isOk_big HK.out) (isOk_big HY.out)).mono ?_; rintro e wj ⟨vj, rfl, hj, hbj⟩; obtain ⟨Aj, cj, rfl⟩ := Kd.R_slice hj; have HJ : Below W.heap.size W wj := keepD hbj; have hjq := Kd.R_reads' hj; have HIj : Aside0 (IsO wj (join o y) Aj cj) := ⟨⟨hjq.2.1, hjq.2.2⟩⟩; clear hj hjq hbj))
    all_goals
      have HP := Aside0.mk (show CombOut w _ 2 o l (.returned (.tuple #[.slice (some ⟨wj.heap.size, 0, none⟩) 1 1, .slice (some ad) 1 c])) from combOut (w' := wj.alloc (.cells #[.int .i64 (join o y).f0, .int .i64 (join o y).f1, .slice Aj (join o y).f2.length cj] 43)) HE.out rfl HT.out.symm (one_L (blk_new _ _) (HIj.out.below (below_alloc (Below.refl _ _) _))) (HTL.out.below (below_then HBW.out HBW.out.size (below_alloc HJ _))) (below_then HBW.out HBW.out.size (below_alloc HJ _)))
      go_wp2
      go_ret2
      exact HP.out
  · -- the sum
    have HE := Aside0.mk (show combine 4 o l = ([l.foldl join o], l) by unfold combine; rw [if_neg h0]; simp)
    clear qa qb qc ql qC hls hok ho h0
    go_enter Tryz.func83, Tryz.ntmps83
    go_wp2
    have HW := Aside0.mk hbx.1
    clear hbx
    go_loopw [41] (fun vi wr => ∃ (k : Nat) (x : Occ) (Ax : Option Addr) (cx : Nat), k ≤ l.length ∧ vi = .int .i64 k ∧ Aside0 (x = (l.take k).foldl join o ∧ IsOk x) ∧ Aside0 (IsO wr x Ax cx) ∧ wr.heap[w.heap.size]? = some (.cells #[.int .i64 x.f0, .int .i64 x.f1, .slice Ax x.f2.length cx] 43 (0, 0)) ∧ Aside0 (Below w.heap.size w wr)) (fun vi _ => l.length - (intOf vi).toNat)
    case atStart => exact ⟨0, o, B, cb, Nat.zero_le _, rfl, ⟨by simp, HK.out⟩, ⟨HO.out.below HW.out⟩, bx, HW⟩
    case round =>
      obtain ⟨k, x, Ax, cx, hk, rfl, HX, HI, hb1, HB⟩ := hrel
      clear bx
      have b0 := (blk_cell hb1 0).trans rfl
      have b1 := (blk_cell hb1 1).trans rfl
      have b2 := (blk_cell hb1 2).trans rfl
      have z0 := blk_frozen hb1 0
      have z1 := blk_frozen hb1 1
      have z2 := blk_frozen hb1 2
      have hgw : w.heap.size < wr.heap.size := blk_lt hb1
      by_cases hlt : k < l.length
      · obtain ⟨ad', A3, c3, e3, pa, pb, pc, pl, pC⟩ := atO (HL.out.below HB.out).rd k hlt
        cases e3
        have hT := take_succ_getD l k zO hlt
        have hIy : IsO wr (l.getD k zO) A3 c3 := ⟨pl, pC⟩
        have hy := HS.out _ (getD_mem (l := l) (i := k) hlt)
        generalize l.getD k zO = y at pa pb pc hIy hy hT
        have HT := Aside0.mk hT
        have HY := Aside0.mk hy
        clear pl pC hy hT
        have hb3 := box3 wr (.int .i64 y.f0) (.int .i64 y.f1) (.slice A3 y.f2.length c3) 43
        have HIx := Aside0.mk (HI.out.below hb3.1)
        have HIy := Aside0.mk (hIy.below hb3.1)
        have bo := blk_alloc hb1 (.cells #[.int .i64 y.f0, .int .i64 y.f1, .slice A3 y.f2.length c3] 43)
        have HB3 := Aside0.mk hb3.1
        go_wp2_with (go_at_call 66; refine (join_any x y Ax A3 cx c3 _ HIx.out HIy.out HX.out.2.asc HY.out.asc (isOk_big HX.out.2) (isOk_big HY.out)).mono ?_; rintro e wj ⟨vj, rfl, hj, hbj⟩; obtain ⟨Aj, cj, rfl⟩ := Kd.R_slice hj; have bj := blk_below bo hbj; have q0 := (blk_cell bj 0).trans rfl; have q1 := (blk_cell bj 1).trans rfl; have q2 := (blk_cell bj 2).trans rfl; have g0 := blk_frozen bj 0; have g1 := blk_frozen bj 1; have g2 := blk_frozen bj 2; have HJ := Aside0.mk (below_then HB3.out HB3.out.size hbj); have HR := Aside0.mk hj; clear hj hbj)
        have r3 := set3_R HR.out bj (by decide) (.int .i64 (join x y).f0) (.int .i64 (join x y).f1) (.slice Aj (join x y).f2.length cj)
        have b3 := set3_blk (.int .i64 (join x y).f0) (.int .i64 (join x y).f1) (.slice Aj (join x y).f2.length cj) bj
        have hq := Kd.R_reads' r3
        have HB4 := Aside0.mk (set3_below (below_then HB.out HB.out.size HJ.out) (Nat.le_refl _) (.int .i64 (join x y).f0) (.int .i64 (join x y).f1) (.slice Aj (join x y).f2.length cj))
        go_roundw
        case rel => exact ⟨k + 1, join x y, Aj, cj, by omega, by go_num, ⟨by rw [HT.out, List.foldl_append, ← HX.out.1]; rfl, isOk_join HX.out.2 HY.out⟩, ⟨⟨hq.2.1, hq.2.2⟩⟩, b3, HB4⟩
        case measure => simp [intOf]; omega
      · have hke : k = l.length := by omega
        subst hke
        have hX := HX.out.1
        rw [List.take_length] at hX
        have HP := Aside0.mk (show CombOut w _ 4 o l (.returned (.tuple #[.slice (some ⟨wr.heap.size, 0, none⟩) 1 1, .slice (some ad) l.length c])) from combOut (w' := wr.alloc (.cells #[.int .i64 x.f0, .int .i64 x.f1, .slice Ax x.f2.length cx] 43)) (by rw [HE.out, hX]) rfl rfl (one_L (blk_new _ _) (HI.out.below (below_alloc (Below.refl _ _) _))) (HL.out.below (below_alloc HB.out _)) (below_alloc HB.out _))
        clear hX
        go_wp2
        go_ret2
        exact HP.out
  · -- all, or each
    have HE : Aside0 (combine mode o l = (putAll [] (l.map (join o)), if mode = 3 then l else [])) := ⟨by unfold combine; rw [if_neg h0, if_neg (by omega), if_neg (by omega), if_neg (by omega)]⟩
    clear qa qb qc ql qC hls hok ho h0
    have m1 : (mode == 1) = false := by rw [beq_eq_false_iff_ne]; omega
    have m2 : (mode == 2) = false := by rw [beq_eq_false_iff_ne]; omega
    have m4 : (mode == 4) = false := by rw [beq_eq_false_iff_ne]; omega
    go_enter Tryz.func83, Tryz.ntmps83
    go_wp2
    have HW := Aside0.mk hbx.1
    clear hbx
    generalize w.alloc (.cells #[.int .i64 o.f0, .int .i64 o.f1, .slice B o.f2.length cb] 43) = W at HW bx ⊢
    go_loopw [6, 54] (fun v6 vi wr => ∃ (k : Nat) (A' : Option Addr) (n c' : Nat), k ≤ l.length ∧ vi = .int .i64 k ∧ v6 = .slice A' n c' ∧ Aside0 (n = (putAll [] ((l.take k).map (join o))).length ∧ IsL wr (putAll [] ((l.take k).map (join o))) A' c') ∧ Aside0 (Below W.heap.size W wr)) (fun _ vi _ => l.length - (intOf vi).toNat)
    case atStart => exact ⟨0, none, 0, 0, Nat.zero_le _, rfl, rfl, ⟨by simp [putAll], by simpa [putAll] using IsL.nil _⟩, ⟨Below.refl _ _⟩⟩
    case round =>
      obtain ⟨k, A1, n, c1, hk, rfl, rfl, HI, HB⟩ := hrel
      have hb1 := blk_below bx HB.out
      have hgw : w.heap.size < wr.heap.size := blk_lt hb1
      have b0 := (blk_cell hb1 0).trans rfl
      have b1 := (blk_cell hb1 1).trans rfl
      have b2 := (blk_cell hb1 2).trans rfl
      by_cases hlt : k < l.length
      · have HBw := below_then HW.out HW.out.size HB.out
        obtain ⟨ad', A3, c3, e3, pa, pb, pc, pl, pC⟩ := atO (HL.out.below HBw).rd k hlt
        cases e3
        have hT := take_succ_getD l k zO hlt
        have hIy : IsO wr (l.getD k zO) A3 c3 := ⟨pl, pC⟩
        have hy := HS.out _ (getD_mem (l := l) (i := k) hlt)
        have hln := len_putAll [] ((l.take k).map (join o))
        rw [List.length_map, List.length_take] at hln
        generalize l.getD k zO = y at pa pb pc hIy hy hT
        have HT := Aside0.mk (show putAll [] ((l.take (k + 1)).map (join o)) = put (putAll [] ((l.take k).map (join o))) (join o y) by rw [hT, List.map_append, putAll_append]; rfl)
        have HY := Aside0.mk hy
        have hsp : Sorted (putAll [] ((l.take k).map (join o))) := sorted_putAll List.Pairwise.nil
        obtain ⟨hn, hL1⟩ := HI.out
        have HL1 := Aside0.mk hL1
        clear pl pC hy hT HI hL1
        generalize putAll [] ((l.take k).map (join o)) = L at *
        subst hn
        have hb3 := box3 wr (.int .i64 y.f0) (.int .i64 y.f1) (.slice A3 y.f2.length c3) 43
        have HIx := Aside0.mk ((HO.out.below HBw).below hb3.1)
        have HIy := Aside0.mk (hIy.below hb3.1)
        have HB3 := Aside0.mk hb3.1
        have hsp2 := isOk_big (isOk_join HK.out HY.out)
        go_wp2_with (first
          | (go_at_call 65; refine (put_any A1 Aj c1 cj L (join o y) _ hsp (by simp at hln; omega) HL1.out.cap (HL1.out.below (below_then HB3.out HB3.out.size HJ.out)).rd HIj.out).mono ?_; rintro e w3 ⟨A4, c4, rfl, h1, h2, h3⟩; have HB5 := Aside0.mk (below_then HB.out HB.out.size (below_then HB3.out HB3.out.size (below_then HJ.out HJ.out.size h3))); have HL5 := Aside0.mk (IsL.mk h1 h2); clear h1 h2 h3)
          | (go_at_call 66; refine (join_any o y B A3 cb c3 _ HIx.out HIy.out HK.out.asc HY.out.asc (isOk_big HK.out) (isOk_big HY.out)).mono ?_; rintro e wj ⟨vj, rfl, hj, hbj⟩; obtain ⟨Aj, cj, rfl⟩ := Kd.R_slice hj; have hjq := Kd.R_reads' hj; have HIj : Aside0 (IsO wj (join o y) Aj cj) := ⟨⟨hjq.2.1, hjq.2.2⟩⟩; have HJ := Aside0.mk hbj; clear hj hbj hjq))
        go_roundw
        case rel => exact ⟨k + 1, A4, _, c4, by omega, by go_num, rfl, ⟨by rw [HT.out], by rw [HT.out]; exact HL5.out⟩, HB5⟩
        case measure => simp [intOf]; omega
      · have hke : k = l.length := by omega
        subst hke
        have hI := HI.out
        rw [List.take_length] at hI
        have hbW := below_then HW.out HW.out.size HB.out
        by_cases hm3 : mode = 3
        · subst hm3
          have HP := Aside0.mk (show CombOut w wr 3 o l (.returned (.tuple #[.slice A1 n c1, .slice (some ad) l.length c])) from combOut HE.out hI.1 rfl hI.2 (HL.out.below hbW) hbW)
          clear hI hbW
          go_wp2
          go_ret2
          exact HP.out
        · have hm0 : mode = 0 := by omega
          subst hm0
          have HP := Aside0.mk (show CombOut w wr 0 o l (.returned (.tuple #[.slice A1 n c1, .slice none 0 0])) from combOut HE.out hI.1 rfl hI.2 (IsL.nil _) hbW)
          clear hI hbW
          go_wp2
          go_ret2
          exact HP.out
end Go.Proofs.YtccenpmaooailaaGreat.Ic

/- A conjunction at one point in time: the program's. -/
set_option linter.unusedVariables false
set_option linter.unusedSimpArgs false
namespace Go.Proofs.YtccenpmaooailaaGreat.Id
open Go.RowKit Go.Proofs.YtccenpmaooailaaGreatW.PrintWords Go.Proofs.YtccenpmaooailaaGreat.Wd Go.Proofs.YtccenpmaooailaaGreat.Pu Go.Proofs.YtccenpmaooailaaGreat.Pv Go.Proofs.YtccenpmaooailaaGreat.Ca Go.Proofs.YtccenpmaooailaaGreat.Cc Go.Proofs.YtccenpmaooailaaGreat.Cp Go.Proofs.YtccenpmaooailaaGreat.Cd Go.Proofs.YtccenpmaooailaaGreat.Ci Go.Proofs.YtccenpmaooailaaGreat.Ce Go.Proofs.YtccenpmaooailaaGreat.Cf Go.Proofs.YtccenpmaooailaaGreat.Cg Go.Proofs.YtccenpmaooailaaGreat.Ia Go.Proofs.YtccenpmaooailaaGreat.Ib Go.Proofs.YtccenpmaooailaaGreat.Ic

/-! what is read keeps where a block without numbers is written -/
def NI (w : World) (g : Nat) : Prop := ∀ o k z, w.cell? ⟨g, o, none⟩ ≠ some (.int k z)
theorem ni_ne {w : World} {g : Nat} (h : NI w g) {p : Addr} {k : IntKind} {z : Int} (hp : w.cell? p = some (.int k z)) : p.block ≠ g := by
  intro e
  obtain ⟨b, o, s⟩ := p
  simp only at e
  subst e
  cases s with
  | none => exact h o k z hp
  | some s =>
    unfold World.cell? at hp
    simp at hp
    split at hp <;> simp at hp
theorem ni_two {w : World} {g : Nat} {A B : Option Addr} {n m c d : Nat} {t : TypeId} {fr : Nat × Nat} (h : w.heap[g]? = some (.cells #[.slice A n c, .slice B m d] t fr)) : NI w g := by
  intro o k z he
  unfold World.cell? at he
  simp only [h] at he
  rcases o with _ | _ | o <;> simp at he
theorem add_block (ad : Addr) (n : Nat) : (ad.add n).block = ad.block := by unfold Addr.add; split <;> rfl
section
variable {w w' : World} {g : Nat}
theorem ints_far (hni : NI w g) (hk : ∀ b, b ≠ g → b < w.heap.size → w'.heap[b]? = w.heap[b]?) {A : Option Addr} {n : Nat} {xs : List Int} (h : (Kd.int .i64).C w A n xs) : (Kd.int .i64).C w' A n xs :=
  ⟨h.1, h.2.1, fun h0 => by
    obtain ⟨ad, e, hc⟩ := h.2.2 h0
    refine ⟨ad, e, fun j p hj => ?_⟩
    obtain ⟨c, h1, h2, h3⟩ := hc j p hj
    refine ⟨c, h1, h2, fun i u hi => ?_⟩
    have h4 := h3 i u hi
    have h2' : c = [.int .i64 p] := h2
    have hu : u = .int .i64 p := by
      rw [h2'] at hi
      rcases i with _ | i
      · simpa using hi.symm
      · simp at hi
    have hne := ni_ne hni (by rw [hu] at h4; exact h4)
    exact (World.cell?_of_block (hk _ hne (World.block_lt_of_cell? w _ h4))).trans h4⟩
theorem IsO.away {x : Occ} {A : Option Addr} {c : Nat} (hni : NI w g) (hk : ∀ b, b ≠ g → b < w.heap.size → w'.heap[b]? = w.heap[b]?) (h : IsO w x A c) : IsO w' x A c := ⟨h.1, ints_far hni hk h.2⟩
theorem IsL.away {l : List Occ} {A : Option Addr} {c : Nat} (hni : NI w g) (hk : ∀ b, b ≠ g → b < w.heap.size → w'.heap[b]? = w.heap[b]?) (h : IsL w l A c) : IsL w' l A c :=
  ⟨h.cap, ⟨h.rd.1, h.rd.2.1, fun h0 => by
    obtain ⟨ad, e, hc⟩ := h.rd.2.2 h0
    refine ⟨ad, e, fun j p hj => ?_⟩
    obtain ⟨cs, h1, h2, h3⟩ := hc j p hj
    obtain ⟨A2, c2, rfl, l2, g2⟩ := kO_open h2
    refine ⟨_, h1, kO_mk w' p l2 (ints_far hni hk g2), fun i u hi => ?_⟩
    have h4 := h3 0 _ rfl
    have hne := ni_ne hni h4
    rw [add_block] at hne
    have h5 := h3 i u hi
    exact (World.cell?_of_block (hk _ (by rw [add_block]; exact hne) (World.block_lt_of_cell? w _ h5))).trans h5⟩⟩
theorem keep_set (w : World) (g j : Nat) (u : Value) : ∀ b, b ≠ g → b < w.heap.size → (w.setCell ⟨g, j, none⟩ u).heap[b]? = w.heap[b]? := fun b hb _ => Below.heap_setCell w ⟨g, j, none⟩ u b hb
end
def set2 (w : World) (G : Nat) (u0 u1 : Value) : World := (w.setCell ⟨G, 0, none⟩ u0).setCell ⟨G, 1, none⟩ u1
theorem set2_blk {w : World} {G : Nat} {t : TypeId} {z0 z1 : Value} (u0 u1 : Value) (b : w.heap[G]? = some (.cells #[z0, z1] t (0, 0))) : (set2 w G u0 u1).heap[G]? = some (.cells #[u0, u1] t (0, 0)) :=
  blk_put (cs := #[u0, z1]) (blk_put b 0 _ rfl) 1 _ rfl
theorem set2_below {w0 w : World} {B G : Nat} (h : Below B w0 w) (hG : B ≤ G) (u0 u1 : Value) : Below B w0 (set2 w G u0 u1) := (h.setCell (p := ⟨G, 0, none⟩) hG _).setCell (p := ⟨G, 1, none⟩) hG _
end Go.Proofs.YtccenpmaooailaaGreat.Id

/- A conjunction at one point in time: the walk. -/
set_option linter.unusedVariables false
set_option linter.unusedSimpArgs false
namespace Go.Proofs.YtccenpmaooailaaGreat.Ie
open Go.RowKit Go.Proofs.YtccenpmaooailaaGreatW.PrintWords Go.Proofs.YtccenpmaooailaaGreat.Wd Go.Proofs.YtccenpmaooailaaGreat.Pu Go.Proofs.YtccenpmaooailaaGreat.Pv Go.Proofs.YtccenpmaooailaaGreat.Ca Go.Proofs.YtccenpmaooailaaGreat.Cc Go.Proofs.YtccenpmaooailaaGreat.Cp Go.Proofs.YtccenpmaooailaaGreat.Cd Go.Proofs.YtccenpmaooailaaGreat.Ci Go.Proofs.YtccenpmaooailaaGreat.Ce Go.Proofs.YtccenpmaooailaaGreat.Cf Go.Proofs.YtccenpmaooailaaGreat.Cg Go.Proofs.YtccenpmaooailaaGreat.Ia Go.Proofs.YtccenpmaooailaaGreat.Ib Go.Proofs.YtccenpmaooailaaGreat.Ic Go.Proofs.YtccenpmaooailaaGreat.Id

theorem pair_set {w : World} {P : Nat} {A B : Option Addr} {n m c d : Nat} {t : TypeId} (h : w.heap[P]? = some (.cells #[.slice A n c, .slice B m d] t (0, 0))) (A' : Option Addr) (n' c' : Nat) :
    (w.setCell ⟨P, 0, none⟩ (.slice A' n' c')).heap[P]? = some (.cells #[.slice A' n' c', .slice B m d] t (0, 0)) ∧ (w.setCell ⟨P, 1, none⟩ (.slice A' n' c')).heap[P]? = some (.cells #[.slice A n c, .slice A' n' c'] t (0, 0)) :=
  ⟨blk_put h 0 _ rfl, blk_put h 1 _ rfl⟩
end Go.Proofs.YtccenpmaooailaaGreat.Ie

/- A sequence at one point in time: the walk. -/
set_option linter.unusedVariables false
set_option linter.unusedSimpArgs false
namespace Go.Proofs.YtccenpmaooailaaGreat.If
open Go.RowKit Go.Proofs.YtccenpmaooailaaGreatW.PrintWords Go.Proofs.YtccenpmaooailaaGreat.Wd Go.Proofs.YtccenpmaooailaaGreat.Pu Go.Proofs.YtccenpmaooailaaGreat.Pv Go.Proofs.YtccenpmaooailaaGreat.Ca Go.Proofs.YtccenpmaooailaaGreat.Cc Go.Proofs.YtccenpmaooailaaGreat.Cp Go.Proofs.YtccenpmaooailaaGreat.Cd Go.Proofs.YtccenpmaooailaaGreat.Ci Go.Proofs.YtccenpmaooailaaGreat.Ce Go.Proofs.YtccenpmaooailaaGreat.Cf Go.Proofs.YtccenpmaooailaaGreat.Cg Go.Proofs.YtccenpmaooailaaGreat.Ia Go.Proofs.YtccenpmaooailaaGreat.Ib Go.Proofs.YtccenpmaooailaaGreat.Ic Go.Proofs.YtccenpmaooailaaGreat.Id Go.Proofs.YtccenpmaooailaaGreat.Ie

structure SeqLen (st : List Occ × List Occ) (a c : Nat) : Prop where
  ok1 : AreOk st.1
  ok2 : AreOk st.2
  own : st.1.length ≤ a
  out : st.2.length ≤ c
def SeqOut (w w' : World) (l r out : List Occ) (e : Ending) : Prop :=
  ∃ Al cl Ar cr Ao co, e = .returned (.tuple #[.agg #[.slice Al l.length cl, .slice Ar r.length cr], .slice Ao out.length co]) ∧ IsL w' l Al cl ∧ IsL w' r Ar cr ∧ IsL w' out Ao co ∧ Below w.heap.size w w'
end Go.Proofs.YtccenpmaooailaaGreat.If

/- PairSeq, PairAnd: the program's. -/
set_option linter.unusedVariables false
set_option linter.unusedSimpArgs false
namespace Go.Proofs.YtccenpmaooailaaGreat.Ig
open Go.RowKit Go.Proofs.YtccenpmaooailaaGreatW.PrintWords Go.Proofs.YtccenpmaooailaaGreat.Wd Go.Proofs.YtccenpmaooailaaGreat.Pu Go.Proofs.YtccenpmaooailaaGreat.Pv Go.Proofs.YtccenpmaooailaaGreat.Ca Go.Proofs.YtccenpmaooailaaGreat.Cb Go.Proofs.YtccenpmaooailaaGreat.Cc Go.Proofs.YtccenpmaooailaaGreat.Cp Go.Proofs.YtccenpmaooailaaGreat.Cd Go.Proofs.YtccenpmaooailaaGreat.Ci Go.Proofs.YtccenpmaooailaaGreat.Ce Go.Proofs.YtccenpmaooailaaGreat.Cf Go.Proofs.YtccenpmaooailaaGreat.Cg Go.Proofs.YtccenpmaooailaaGreat.Ia Go.Proofs.YtccenpmaooailaaGreat.Ib Go.Proofs.YtccenpmaooailaaGreat.Ic Go.Proofs.YtccenpmaooailaaGreat.Id Go.Proofs.YtccenpmaooailaaGreat.Ie Go.Proofs.YtccenpmaooailaaGreat.If

theorem isMode_any (m : Int) (w : World) : Calls Tryz.prog 82 #[.int .i64 m] w fun e w' => e = .returned (.bool (inb m 0 4)) ∧ w' = w := by
  go_enter Tryz.func82, Tryz.ntmps82
  go_wp2_with (go_at_call 102; refine (in_any m 0 4 _).mono ?_; rintro e w' ⟨rfl, rfl⟩)
  go_ret
  exact ⟨rfl, rfl⟩
abbrev SS (w : World) (base : Nat) (ok : Nat → Prop) (v : Value) (l : List Occ) : Prop := Kd.S kO 43 w base ok v l
def ne1 (u : Value) : Nat → Prop := fun k => some k ≠ u.ownBlock
theorem SS.two {w w1 w2 : World} {u v : Value} {l m : List Occ} (h : SS w1 w.heap.size (fun _ => True) u l) (g : SS w2 w1.heap.size (fun _ => True) v m) (hb : Below w1.heap.size w1 w2) (hs : w.heap.size ≤ w1.heap.size) :
    SS w2 w.heap.size (ne1 v) u l ∧ SS w2 w.heap.size (ne1 u) v m :=
  ⟨Kd.S_mono (Kd.S_elder' h (Kd.S_base g) hb) (fun _ hk => hk.2), Kd.S_lower (Kd.S_mono (Kd.S_new' g (Kd.S_lt h)) (fun _ hk => hk.2)) hs⟩
theorem SS.set2 {w : World} {base G : Nat} {ok : Nat → Prop} {v : Value} {xs : List Occ} {t : TypeId} {cs : Array Value} (h : SS w base ok v xs) (b : w.heap[G]? = some (.cells cs t (0, 0))) (ht : ∀ q, q ∈ 43 :: kO.E → q ≠ t) (u0 u1 : Value) : SS (Id.set2 w G u0 u1) base ok v xs :=
  Kd.S_set (Kd.S_set h b ht 0 u0) (blk_set b 0 u0) ht 1 u1
def CloneOut (w w' : World) (l r : List Occ) (e : Ending) : Prop := ∃ v0 v1, e = .returned (.agg #[v0, v1]) ∧ SS w' w.heap.size (ne1 v1) v0 l ∧ SS w' w.heap.size (ne1 v0) v1 r ∧ Below w.heap.size w w'
end Go.Proofs.YtccenpmaooailaaGreat.Ig

/- PairSeq, PairAnd: the program's. -/
set_option linter.unusedVariables false
set_option linter.unusedSimpArgs false
namespace Go.Proofs.YtccenpmaooailaaGreat.Ih
open Go.RowKit Go.Proofs.YtccenpmaooailaaGreatW.PrintWords Go.Proofs.YtccenpmaooailaaGreat.Wd Go.Proofs.YtccenpmaooailaaGreat.Pu Go.Proofs.YtccenpmaooailaaGreat.Pv Go.Proofs.YtccenpmaooailaaGreat.Ca Go.Proofs.YtccenpmaooailaaGreat.Cb Go.Proofs.YtccenpmaooailaaGreat.Cc Go.Proofs.YtccenpmaooailaaGreat.Cp Go.Proofs.YtccenpmaooailaaGreat.Cd Go.Proofs.YtccenpmaooailaaGreat.Ci Go.Proofs.YtccenpmaooailaaGreat.Ce Go.Proofs.YtccenpmaooailaaGreat.Cf Go.Proofs.YtccenpmaooailaaGreat.Cg Go.Proofs.YtccenpmaooailaaGreat.Ia Go.Proofs.YtccenpmaooailaaGreat.Ib Go.Proofs.YtccenpmaooailaaGreat.Ic Go.Proofs.YtccenpmaooailaaGreat.Id Go.Proofs.YtccenpmaooailaaGreat.Ie Go.Proofs.YtccenpmaooailaaGreat.If Go.Proofs.YtccenpmaooailaaGreat.Ig

/-- what a pair comes to at one time: its two lists, what is found -/
structure P3 where
  a : List Occ
  b : List Occ
  c : List Occ
def and3 (mode : Int) (l r left right : List Occ) : P3 := ⟨(andI mode l r left right).own, (andI mode l r left right).oth, (andI mode l r left right).out⟩
structure Ok3 (p : P3) : Prop where
  a : AreOk p.a
  b : AreOk p.b
  c : AreOk p.c
  la : p.a.length ≤ 1048576
  lb : p.b.length ≤ 1048576
  lc : p.c.length ≤ 1048576
theorem mul_le {a b c d : Nat} (h : a ≤ c) (h2 : b ≤ d) : a * b ≤ c * d := Nat.mul_le_mul h h2
def Out3 (w w' : World) (p : P3) (e : Ending) : Prop := ∃ v0 v1 v2, e = .returned (.tuple #[.agg #[v0, v1], v2]) ∧
  SS w' w.heap.size (fun k_ => some k_ ≠ (v1 : Value).ownBlock ∧ some k_ ≠ (v2 : Value).ownBlock) v0 p.a ∧ SS w' w.heap.size (fun k_ => some k_ ≠ (v0 : Value).ownBlock ∧ some k_ ≠ (v2 : Value).ownBlock) v1 p.b ∧
  SS w' w.heap.size (fun k_ => some k_ ≠ (v0 : Value).ownBlock ∧ some k_ ≠ (v1 : Value).ownBlock) v2 p.c ∧ Below w.heap.size w w'
theorem SS.three {w1 w2 : World} {v0 v1 v2 : Value} {a b c : List Occ} {B : Nat} (h0 : SS w1 B (ne1 v1) v0 a) (h1 : SS w1 B (ne1 v0) v1 b) (h2 : SS w2 w1.heap.size (fun _ => True) v2 c) (hb : Below w1.heap.size w1 w2) (hB : B ≤ w1.heap.size) :
    SS w2 B (fun k_ => some k_ ≠ (v1 : Value).ownBlock ∧ some k_ ≠ (v2 : Value).ownBlock) v0 a ∧ SS w2 B (fun k_ => some k_ ≠ (v0 : Value).ownBlock ∧ some k_ ≠ (v2 : Value).ownBlock) v1 b ∧ SS w2 B (fun k_ => some k_ ≠ (v0 : Value).ownBlock ∧ some k_ ≠ (v1 : Value).ownBlock) v2 c := by
  refine ⟨Kd.S_elder' h0 (Kd.S_base h2) hb, Kd.S_elder' h1 (Kd.S_base h2) hb, ?_⟩
  have e0 := Kd.S_new' h2 (Kd.S_lt h0)
  have e1 := Kd.S_new' e0 (Kd.S_lt h1)
  exact Kd.S_lower (Kd.S_mono e1 (fun _ hk => ⟨hk.1.2, hk.2⟩)) hB

end Go.Proofs.YtccenpmaooailaaGreat.Ih

/- PairSeq, PairAnd: the program's. -/
set_option linter.unusedVariables false
set_option linter.unusedSimpArgs false
namespace Go.Proofs.YtccenpmaooailaaGreat.Ii
open Go.RowKit Go.Proofs.YtccenpmaooailaaGreatW.PrintWords Go.Proofs.YtccenpmaooailaaGreat.Wd Go.Proofs.YtccenpmaooailaaGreat.Pu Go.Proofs.YtccenpmaooailaaGreat.Pv Go.Proofs.YtccenpmaooailaaGreat.Ca Go.Proofs.YtccenpmaooailaaGreat.Cb Go.Proofs.YtccenpmaooailaaGreat.Cc Go.Proofs.YtccenpmaooailaaGreat.Cp Go.Proofs.YtccenpmaooailaaGreat.Cd Go.Proofs.YtccenpmaooailaaGreat.Ci Go.Proofs.YtccenpmaooailaaGreat.Ce Go.Proofs.YtccenpmaooailaaGreat.Cf Go.Proofs.YtccenpmaooailaaGreat.Cg Go.Proofs.YtccenpmaooailaaGreat.Ia Go.Proofs.YtccenpmaooailaaGreat.Ib Go.Proofs.YtccenpmaooailaaGreat.Ic Go.Proofs.YtccenpmaooailaaGreat.Id Go.Proofs.YtccenpmaooailaaGreat.Ie Go.Proofs.YtccenpmaooailaaGreat.If Go.Proofs.YtccenpmaooailaaGreat.Ig Go.Proofs.YtccenpmaooailaaGreat.Ih


end Go.Proofs.YtccenpmaooailaaGreat.Ii

/- All points in time: the program's times, at, few. -/
set_option linter.unusedVariables false
set_option linter.unusedSimpArgs false
namespace Go.Proofs.YtccenpmaooailaaGreat.Ij
open Go.RowKit Go.Proofs.YtccenpmaooailaaGreatW.PrintWords Go.Proofs.YtccenpmaooailaaGreat.Wd Go.Proofs.YtccenpmaooailaaGreat.Pu Go.Proofs.YtccenpmaooailaaGreat.Pv Go.Proofs.YtccenpmaooailaaGreat.Ca Go.Proofs.YtccenpmaooailaaGreat.Cb Go.Proofs.YtccenpmaooailaaGreat.Cc Go.Proofs.YtccenpmaooailaaGreat.Cp Go.Proofs.YtccenpmaooailaaGreat.Cd Go.Proofs.YtccenpmaooailaaGreat.Ci Go.Proofs.YtccenpmaooailaaGreat.Ce Go.Proofs.YtccenpmaooailaaGreat.Cf Go.Proofs.YtccenpmaooailaaGreat.Cg Go.Proofs.YtccenpmaooailaaGreat.Ia Go.Proofs.YtccenpmaooailaaGreat.Ib Go.Proofs.YtccenpmaooailaaGreat.Ic Go.Proofs.YtccenpmaooailaaGreat.Id Go.Proofs.YtccenpmaooailaaGreat.Ie Go.Proofs.YtccenpmaooailaaGreat.If Go.Proofs.YtccenpmaooailaaGreat.Ig Go.Proofs.YtccenpmaooailaaGreat.Ih

abbrev kL : Kd (List Occ) := Kd.slice 43 kO
theorem atL {w : World} {A : Option Addr} {n : Nat} {xs : List (List Occ)} (h : kL.C w A n xs) (k : Nat) (hk : k < n) :
    ∃ ad A0 c0, A = some ad ∧ w.cell? (ad.add k) = some (.slice A0 (xs.getD k []).length c0) ∧ IsL w (xs.getD k []) A0 c0 := by
  obtain ⟨ad, c, e, _, hK, hc0⟩ := Kd.C_get h ([] : List Occ) (k : Int) (by omega) (by omega)
  rw [Int.toNat_natCast] at hK hc0
  have hc : ∀ j u, c[j]? = some u → w.cell? (ad.add (k * 1 + j)) = some u := hc0
  obtain ⟨A0, c0, rfl, l0, g0⟩ := hK
  exact ⟨ad, A0, c0, e, by have hq := hc 0 _ rfl; rwa [Nat.mul_one, Nat.add_zero] at hq, ⟨l0, g0⟩⟩
abbrev RI (w wr : World) (v : Value) (xs : List Int) : Prop := (Kd.int .i64).R 3 wr w.heap.size (fun _ => True) v xs
end Go.Proofs.YtccenpmaooailaaGreat.Ij

/- All points in time: the program's at and few; plain laws on all points in time. -/
set_option linter.unusedVariables false
set_option linter.unusedSimpArgs false
namespace Go.Proofs.YtccenpmaooailaaGreat.Ik
open Go.RowKit Go.Proofs.YtccenpmaooailaaGreatW.PrintWords Go.Proofs.YtccenpmaooailaaGreat.Wd Go.Proofs.YtccenpmaooailaaGreat.Pu Go.Proofs.YtccenpmaooailaaGreat.Pv Go.Proofs.YtccenpmaooailaaGreat.Ca Go.Proofs.YtccenpmaooailaaGreat.Cb Go.Proofs.YtccenpmaooailaaGreat.Cc Go.Proofs.YtccenpmaooailaaGreat.Cp Go.Proofs.YtccenpmaooailaaGreat.Cd Go.Proofs.YtccenpmaooailaaGreat.Ci Go.Proofs.YtccenpmaooailaaGreat.Ce Go.Proofs.YtccenpmaooailaaGreat.Cf Go.Proofs.YtccenpmaooailaaGreat.Cg Go.Proofs.YtccenpmaooailaaGreat.Ia Go.Proofs.YtccenpmaooailaaGreat.Ib Go.Proofs.YtccenpmaooailaaGreat.Ic Go.Proofs.YtccenpmaooailaaGreat.Id Go.Proofs.YtccenpmaooailaaGreat.Ie Go.Proofs.YtccenpmaooailaaGreat.If Go.Proofs.YtccenpmaooailaaGreat.Ig Go.Proofs.YtccenpmaooailaaGreat.Ih Go.Proofs.YtccenpmaooailaaGreat.Ij

/-- what is told of a list, if it is not too long -/
def told (l : List Occ) : List Occ × Bool := if l.length > 40 then ([], false) else (l, true)
def ToldOut (w w' : World) (p : List Occ × Bool) (e : Ending) : Prop := ∃ v, e = .returned (.tuple #[v, .bool p.2]) ∧ SS w' w.heap.size (fun _ => True) v p.1 ∧ Below w.heap.size w w'
/-! all points in time, plain -/
end Go.Proofs.YtccenpmaooailaaGreat.Ik
