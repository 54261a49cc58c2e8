/- What is found of some and of one: the reference's. -/
import Derived.Test.YtjeojdbfpncnkaaRd
import Derived.StillTailTactics
set_option linter.unusedVariables false
set_option linter.unusedSimpArgs false
namespace Go.Proofs.Ytjeojdbfpncnkaa.Re
open Go.RowKit Go.Proofs.YtjeojdbfpncnkaaW.PrintWords Go.Proofs.Ytjeojdbfpncnkaa.Wd Go.Proofs.Ytjeojdbfpncnkaa.Pu Go.Proofs.Ytjeojdbfpncnkaa.Pv Go.Proofs.Ytjeojdbfpncnkaa.Ca Go.Proofs.Ytjeojdbfpncnkaa.Cb Go.Proofs.Ytjeojdbfpncnkaa.Cc Go.Proofs.Ytjeojdbfpncnkaa.Cp Go.Proofs.Ytjeojdbfpncnkaa.Cd Go.Proofs.Ytjeojdbfpncnkaa.Ci Go.Proofs.Ytjeojdbfpncnkaa.Ce Go.Proofs.Ytjeojdbfpncnkaa.Cf Go.Proofs.Ytjeojdbfpncnkaa.Cg Go.Proofs.Ytjeojdbfpncnkaa.Sc Go.Proofs.Ytjeojdbfpncnkaa.Se Go.Proofs.Ytjeojdbfpncnkaa.Sh Go.Proofs.Ytjeojdbfpncnkaa.Si Go.Proofs.Ytjeojdbfpncnkaa.Sp Go.Proofs.Ytjeojdbfpncnkaa.Ia Go.Proofs.Ytjeojdbfpncnkaa.Ib Go.Proofs.Ytjeojdbfpncnkaa.Ic Go.Proofs.Ytjeojdbfpncnkaa.Id Go.Proofs.Ytjeojdbfpncnkaa.If Go.Proofs.Ytjeojdbfpncnkaa.Ij Go.Proofs.Ytjeojdbfpncnkaa.Ra Go.Proofs.Ytjeojdbfpncnkaa.Rb Go.Proofs.Ytjeojdbfpncnkaa.Rc Go.Proofs.Ytjeojdbfpncnkaa.Rd

def MakeOut (w w' : World) (l : List Occ) (e : Ending) : Prop := ∃ v, e = .returned v ∧ Rw w' w.heap.size v l ∧ Below w.heap.size w w'
theorem setk3 {w : World} {X p : Nat} {i : Nat} (hne : p ≠ X) (u0 u1 u2 : Value) : (((w.setCell ⟨X, 0, none⟩ u0).setCell ⟨X, 1, none⟩ u1).setCell ⟨X, 2, none⟩ u2).cell? ⟨p, i, none⟩ = w.cell? ⟨p, i, none⟩ := far3 hne
theorem setk3' {w : World} {X : Nat} {p : Addr} (hne : p.block ≠ X) (u0 u1 u2 : Value) : (((w.setCell ⟨X, 0, none⟩ u0).setCell ⟨X, 1, none⟩ u1).setCell ⟨X, 2, none⟩ u2).cell? p = w.cell? p :=
  (World.cell?_of_block (Below.heap_setCell _ ⟨X, 2, none⟩ u2 _ hne)).trans ((World.cell?_of_block (Below.heap_setCell _ ⟨X, 1, none⟩ u1 _ hne)).trans (World.cell?_of_block (Below.heap_setCell w ⟨X, 0, none⟩ u0 _ hne)))

set_option maxHeartbeats 4000000 in
set_option maxRecDepth 100000 in
theorem make_any (mode : Int) (U B : Option Addr) (cu cb : Nat) (s : List Occ) (o : Occ) (w : World) (hs : ∀ x ∈ s, IsOk x) (hok : IsOk o) (hl : s.length ≤ 1048576) (hU : IsL w s U cu) (ho : IsO w o B cb) :
    Calls Try.prog 105 #[.int .i64 mode, .slice U s.length cu, .agg #[.int .i64 o.f0, .int .i64 o.f1, .slice B o.f2.length cb]] w fun e w' => MakeOut w w' (make mode s o) e := by
  have bO := blk_alloc (blk_new w (.cells #[.int .i64 o.f0, .int .i64 o.f1, .slice B o.f2.length cb] 25)) (.cells #[] 25)
  have bE : ((w.alloc (.cells #[.int .i64 o.f0, .int .i64 o.f1, .slice B o.f2.length cb] 25)).alloc (.cells #[] 25)).heap[w.heap.size + 1]? = some (.cells #[] 25 (0, 0)) := by
    have := blk_new (w.alloc (.cells #[.int .i64 o.f0, .int .i64 o.f1, .slice B o.f2.length cb] 25)) (.cells #[] 25)
    simpa using this
  have HB0 := Aside0.mk (below_alloc (below_alloc (Below.refl w.heap.size w) (.cells #[.int .i64 o.f0, .int .i64 o.f1, .slice B o.f2.length cb] 25)) (.cells #[] 25))
  have HU := Aside0.mk hU
  have HO := Aside0.mk ho
  have HK := Aside0.mk hok
  have HS := Aside0.mk hs
  clear hU ho hok hs
  by_cases h0 : s.length = 0
  · have d0 : ((s.length : Int) == 0) = true := by simp [h0]
    have HE := Aside0.mk (show make mode s o = [] by unfold make; rw [if_pos h0])
    go_enter Try.func105, Try.ntmps105
    go_wp2
    go_ret
    exact ⟨_, rfl, by rw [HE.out]; exact R_empty kO bE (by omega), HB0.out⟩
  have d0 : ((s.length : Int) == 0) = false := by rw [beq_eq_false_iff_ne]; omega
  have d00 : ¬ ((s.length : Int) = 0) := by omega
  have HR0 : Aside0 (Rw ((w.alloc (.cells #[.int .i64 o.f0, .int .i64 o.f1, .slice B o.f2.length cb] 25)).alloc (.cells #[] 25)) (w.heap.size + 1) (.slice (some ⟨w.heap.size + 1, 0, none⟩) 0 0) []) := ⟨R_empty kO bE (Nat.le_refl _)⟩
  by_cases m4 : mode = 4
  · subst m4
    have HE := Aside0.mk (show make 4 s o = [s.foldl join o] by unfold make; rw [if_neg h0, if_pos rfl])
    go_enter Try.func105, Try.ntmps105
    go_upto_region 5 with fail
    generalize (w.alloc (.cells #[.int .i64 o.f0, .int .i64 o.f1, .slice B o.f2.length cb] 25)).alloc (.cells #[] 25) = W0 at bO bE HB0 HR0 ⊢
    have o0 := (blk_cell bO 0).trans rfl
    have o1 := (blk_cell bO 1).trans rfl
    have o2 := (blk_cell bO 2).trans rfl
    have bX0 := blk_new W0 (.cells #[.int .i64 o.f0, .int .i64 o.f1, .slice B o.f2.length cb] 25)
    have HB1 := Aside0.mk (below_then HB0.out HB0.out.size (below_alloc (Below.refl _ _) (.cells #[.int .i64 o.f0, .int .i64 o.f1, .slice B o.f2.length cb] 25)))
    have bE1 := blk_alloc bE (.cells #[.int .i64 o.f0, .int .i64 o.f1, .slice B o.f2.length cb] 25)
    have hWs : w.heap.size + 1 < W0.heap.size := blk_lt bE
    go_upto_region 6 with fail
    obtain ⟨X, hX⟩ : ∃ X, X = W0.heap.size := ⟨_, rfl⟩
    rw [← hX] at bX0 hWs ⊢
    generalize W0.alloc (.cells #[.int .i64 o.f0, .int .i64 o.f1, .slice B o.f2.length cb] 25) = W1 at bX0 HB1 bE1 ⊢
    clear hX o0 o1 o2 bO bE HB0 HR0
    go_wp2
    go_loopw [9] (fun vi wr => ∃ (k : Nat) (x : Occ) (Ax : Option Addr) (cx : Nat), k ≤ s.length ∧ vi = .int .i64 k ∧ Aside0 (x = (s.take k).foldl join o ∧ IsOk x) ∧ Aside0 (IsO wr x Ax cx ∧ (0 < k → ∃ v0, v0 = .slice Ax x.f2.length cx ∧ (Kd.int .i64).R 3 wr (w.heap.size + 1) (fun _ => True) v0 x.f2)) ∧ Aside0 (wr.heap[X]? = some (.cells #[.int .i64 x.f0, .int .i64 x.f1, .slice Ax x.f2.length cx] 25 (0, 0))) ∧ Aside0 (wr.heap[w.heap.size + 1]? = some (.cells #[] 25 (0, 0))) ∧ Aside0 (Below w.heap.size w wr)) (fun vi _ => s.length - (intOf vi).toNat)
    case atStart => exact ⟨0, o, B, cb, Nat.zero_le _, rfl, ⟨by simp, HK.out⟩, ⟨HO.out.below HB1.out, fun h => absurd h (Nat.lt_irrefl _)⟩, ⟨bX0⟩, ⟨bE1⟩, HB1⟩
    case round =>
      clear bX0 bE1 HB1
      obtain ⟨k, x, Ax, cx, hk, rfl, HX, HI, HBX, HEB, HB⟩ := hrel
      have bX := HBX.out
      by_cases hlt : k < s.length
      · have g1 : decide (k < s.length) = true := decide_eq_true hlt
        have i1 : (k : Int) < s.length := by omega
        obtain ⟨ad, A3, c3, rfl, pa, pb, pc, pl, pC⟩ := atO HU.out.rd k hlt
        have hIw : IsO w (s.getD k zO) A3 c3 := ⟨pl, pC⟩
        have hy := HS.out _ (getD_mem (l := s) (i := k) hlt)
        have hT := take_succ_getD s k zO hlt
        have hlo : (ad.add (k * 3)).block < w.heap.size := World.block_lt_of_cell? w _ pa
        have qa := pw_cell_below HB.out pa
        have qb := pw_cell_below HB.out pb
        have qc := pw_cell_below HB.out pc
        have hIy := hIw.below HB.out
        generalize s.getD k zO = y at qa qb qc hIy hy hT
        have HT := Aside0.mk hT
        have HY := Aside0.mk hy
        have HIy := Aside0.mk hIy
        clear pl pC hy hT pa pb pc hIw hIy
        have hXw : w.heap.size + 1 < X := hWs
        have F : ∀ w', Below wr.heap.size wr w' → w'.cell? ⟨X, 0, none⟩ = some (.int .i64 x.f0) ∧ w'.cell? ⟨X, 1, none⟩ = some (.int .i64 x.f1) ∧ w'.cell? ⟨X, 2, none⟩ = some (.slice Ax x.f2.length cx) ∧ w'.cell? (ad.add (k * 3)) = some (.int .i64 y.f0) ∧ w'.cell? ⟨(ad.add (k * 3)).block, (ad.add (k * 3)).off + 1, none⟩ = some (.int .i64 y.f1) ∧ w'.cell? ⟨(ad.add (k * 3)).block, (ad.add (k * 3)).off + 2, none⟩ = some (.slice A3 y.f2.length c3) :=
          fun w' h => ⟨pw_cell_below h ((blk_cell bX 0).trans rfl), pw_cell_below h ((blk_cell bX 1).trans rfl), pw_cell_below h ((blk_cell bX 2).trans rfl), pw_cell_below h qa, pw_cell_below h qb, pw_cell_below h qc⟩
        go_upto_region 9 with fail
        have hnX : (ad.add (k * 3)).block ≠ X := by omega
        have x0 := (blk_cell bX 0).trans rfl
        have x1 := (blk_cell bX 1).trans rfl
        have x2 := (blk_cell bX 2).trans rfl
        go_still_tail 5, (by kernel_rfl)
        change wpList _ _ _ _ _ wr.drew
        go_wp2_with (go_at_call 122; refine (sJoin_any x y Ax A3 cx c3 _ (HI.out.1.below (below_drew (Below.refl _ _))) (HIy.out.below (below_drew (Below.refl _ _))) (isOk_big HX.out.2) (isOk_big HY.out)).mono ?_; rintro e wj ⟨vj, rfl, hj, hbj⟩; obtain ⟨Aj, cj, rfl⟩ := Kd.R_slice hj; have HBj : Below wr.heap.size wr wj := keepD hbj; have bXj := blk_below bX HBj; have q0 := (blk_cell bXj 0).trans rfl; have q1 := (blk_cell bXj 1).trans rfl; have q2 := (blk_cell bXj 2).trans rfl; have z0 := blk_frozen bXj 0; have z1 := blk_frozen bXj 1; have z2 := blk_frozen bXj 2; have HJ := Aside0.mk hj; clear hj hbj)
        have r3 := set3_R HJ.out bXj (by decide) (.int .i64 (join x y).f0) (.int .i64 (join x y).f1) (.slice Aj (join x y).f2.length cj)
        have b3 := set3_blk (.int .i64 (join x y).f0) (.int .i64 (join x y).f1) (.slice Aj (join x y).f2.length cj) bXj
        have hq := Kd.R_reads' r3
        have HE4 := Aside0.mk (show (set3 wj X (.int .i64 (join x y).f0) (.int .i64 (join x y).f1) (.slice Aj (join x y).f2.length cj)).heap[w.heap.size + 1]? = some (.cells #[] 25 (0, 0)) from blk_far (blk_far (blk_far (blk_below HEB.out HBj) (p := ⟨X, 0, none⟩) (show w.heap.size + 1 ≠ X by omega) _) (p := ⟨X, 1, none⟩) (show w.heap.size + 1 ≠ X by omega) _) (p := ⟨X, 2, none⟩) (show w.heap.size + 1 ≠ X by omega) _)
        have HB4 := Aside0.mk (set3_below (below_then HB.out HB.out.size HBj) (show w.heap.size ≤ X by omega) (.int .i64 (join x y).f0) (.int .i64 (join x y).f1) (.slice Aj (join x y).f2.length cj))
        have hge : w.heap.size + 1 ≤ wr.heap.size := by have := blk_lt bX; omega
        go_roundw
        case rel => exact ⟨k + 1, join x y, Aj, cj, by omega, by go_num, ⟨by rw [HT.out, List.foldl_append, ← HX.out.1]; rfl, isOk_join HX.out.2 HY.out⟩, ⟨⟨hq.2.1, hq.2.2⟩, fun _ => ⟨_, rfl, Kd.R_lower r3 hge⟩⟩, ⟨b3⟩, HE4, HB4⟩
        case measure => simp [intOf]; omega
      · have hke : k = s.length := by omega
        subst hke
        have g1 : decide (s.length < s.length) = false := decide_eq_false (by omega)
        have hX := HX.out.1
        rw [List.take_length] at hX
        obtain ⟨v0, hv0, hr0⟩ := HI.out.2 (by omega)
        subst hv0
        have b0 := (blk_cell bX 0).trans rfl
        have b1 := (blk_cell bX 1).trans rfl
        have b2 := (blk_cell bX 2).trans rfl
        have HXE := Aside0.mk hX
        have HVT := Aside0.mk (Kd.R_mono (Kd.R_types hr0 HEB.out (by decide)) (fun j hj => Ne.symm hj.2))
        have hXs := blk_lt bX
        have hge : w.heap.size + 1 ≤ wr.heap.size := by omega
        clear hX hr0
        go_wp2_with ((with_reducible refine gate_dst (N := 34) rfl ?_); refine Kd.R_append kO (w0 := wr) (w.heap.size + 1) rfl _ _ 27 25 (.agg #[.int .i64 0, .int .i64 0, .slice none 0 0]) 40 rfl Try.underlying27 infoO rfl (by decide) (by decide) (.slice (some ⟨w.heap.size + 1, 0, none⟩) 0 0) [] x [.int .i64 x.f0, .int .i64 x.f1, .slice Ax x.f2.length cx] (fun _ => True) (fun j => w.heap.size + 1 ≠ j) rfl rfl (kO_mkM _ _ _ x HVT.out) (fun j hj => ⟨trivial, fun h => hj (by simpa [Value.ownBlock] using h.symm)⟩) (fun _ _ => trivial) (R_empty kO HEB.out (Nat.le_refl _)) (Below.refl _ _) hge (by simp) ?_; intro v4 w4 hr4 hb4 hg4 hat4; have HR4 := Aside0.mk hr4; have HB4 : Aside0 (Below w.heap.size w w4) := ⟨Below.grown HB.out hg4 HB.out.size (fun j hj => by simp [Value.ownBlock] at hj; omega)⟩; clear hr4 hb4 hg4 hat4)
        go_ret
        exact ⟨v4, rfl, by rw [HE.out, ← HXE.out]; exact Kd.R_lower HR4.out (by omega), HB4.out⟩
  have e4 : (mode == 4) = false := by rw [beq_eq_false_iff_ne]; omega
  have HE := Aside0.mk (show make mode s o = putAll [] (s.map (fun x => join x o)) by unfold make; rw [if_neg h0, if_neg m4])
  go_enter Try.func105, Try.ntmps105
  go_wp2
  generalize (w.alloc (.cells #[.int .i64 o.f0, .int .i64 o.f1, .slice B o.f2.length cb] 25)).alloc (.cells #[] 25) = W0 at bO bE HB0 HR0 ⊢
  clear bE
  go_loopw [7, 10] (fun v7 vi wr => ∃ (k : Nat) (v : Value), k ≤ s.length ∧ vi = .int .i64 k ∧ v = v7 ∧ Aside0 (Rw wr (w.heap.size + 1) v (putAll [] ((s.take k).map (fun x => join x o)))) ∧ Aside0 (wr.heap[w.heap.size]? = some (.cells #[.int .i64 o.f0, .int .i64 o.f1, .slice B o.f2.length cb] 25 (0, 0))) ∧ Aside0 (Below w.heap.size w wr)) (fun _ vi _ => s.length - (intOf vi).toNat)
  case atStart => exact ⟨0, _, Nat.zero_le _, rfl, rfl, by simpa [putAll] using HR0, ⟨bO⟩, HB0⟩
  case round =>
    clear HR0 bO HB0
    obtain ⟨k, v, hk, rfl, rfl, HR, HBO, HB⟩ := hrel
    by_cases hlt : k < s.length
    · have g1 : decide (k < s.length) = true := decide_eq_true hlt
      have i1 : (k : Int) < s.length := by omega
      obtain ⟨ad, A3, c3, rfl, pa, pb, pc, pl, pC⟩ := atO HU.out.rd k hlt
      have hIy : IsO wr (s.getD k zO) A3 c3 := IsO.below ⟨pl, pC⟩ HB.out
      have hy := HS.out _ (getD_mem (l := s) (i := k) hlt)
      have hT := take_succ_getD s k zO hlt
      have hln := len_putAll1 [] ((s.take k).map (fun x => join x o))
      rw [List.length_map, List.length_take] at hln
      have hall : ∀ x ∈ s.take k, IsOk x := fun x hx => HS.out x (List.mem_of_mem_take hx)
      have hsk : AreOk (putAll [] ((s.take k).map (fun x => join x o))) := AreOk.nil.putAll (fun x hx => by obtain ⟨z, hz, rfl⟩ := List.mem_map.1 hx; exact isOk_join (hall z hz) HK.out)
      generalize s.getD k zO = y at pa pb pc hIy hy hT
      have HT := Aside0.mk (show putAll [] ((s.take (k + 1)).map (fun x => join x o)) = put (putAll [] ((s.take k).map (fun x => join x o))) (join y o) by rw [hT, List.map_append, putAll_append]; rfl)
      have HY := Aside0.mk hy
      have HIy := Aside0.mk hIy
      have HSK := Aside0.mk hsk
      have HIo := Aside0.mk (HO.out.below HB.out)
      have b0 := (blk_cell HBO.out 0).trans rfl
      have b1 := (blk_cell HBO.out 1).trans rfl
      have b2 := (blk_cell HBO.out 2).trans rfl
      have hOs := blk_lt HBO.out
      clear pl pC hy hT hall hsk hIy
      generalize putAll [] ((s.take k).map (fun x => join x o)) = L at *
      go_upto_region 14 with fail
      have F : ∀ w' : World, Below w.heap.size w w' → w'.cell? (ad.add (k * 3)) = some (.int .i64 y.f0) ∧ w'.cell? ⟨(ad.add (k * 3)).block, (ad.add (k * 3)).off + 1, none⟩ = some (.int .i64 y.f1) ∧ w'.cell? ⟨(ad.add (k * 3)).block, (ad.add (k * 3)).off + 2, none⟩ = some (.slice A3 y.f2.length c3) := fun w' h => ⟨pw_cell_below h pa, pw_cell_below h pb, pw_cell_below h pc⟩
      have G : ∀ w' : World, w'.heap[w.heap.size]? = some (.cells #[.int .i64 o.f0, .int .i64 o.f1, .slice B o.f2.length cb] 25 (0, 0)) → w'.cell? ⟨w.heap.size, 0, none⟩ = some (.int .i64 o.f0) ∧ w'.cell? ⟨w.heap.size, 1, none⟩ = some (.int .i64 o.f1) ∧ w'.cell? ⟨w.heap.size, 2, none⟩ = some (.slice B o.f2.length cb) := fun w' h => ⟨(blk_cell h 0).trans rfl, (blk_cell h 1).trans rfl, (blk_cell h 2).trans rfl⟩
      have F0 : (wr.cell? (ad.add (k * 3)) = some (.int .i64 y.f0) ∧ wr.cell? ⟨(ad.add (k * 3)).block, (ad.add (k * 3)).off + 1, none⟩ = some (.int .i64 y.f1) ∧ wr.cell? ⟨(ad.add (k * 3)).block, (ad.add (k * 3)).off + 2, none⟩ = some (.slice A3 y.f2.length c3)) ∧ (wr.cell? ⟨w.heap.size, 0, none⟩ = some (.int .i64 o.f0) ∧ wr.cell? ⟨w.heap.size, 1, none⟩ = some (.int .i64 o.f1) ∧ wr.cell? ⟨w.heap.size, 2, none⟩ = some (.slice B o.f2.length cb)) := ⟨F _ HB.out, G _ HBO.out⟩
      have F1 : (wr.drew.cell? (ad.add (k * 3)) = some (.int .i64 y.f0) ∧ wr.drew.cell? ⟨(ad.add (k * 3)).block, (ad.add (k * 3)).off + 1, none⟩ = some (.int .i64 y.f1) ∧ wr.drew.cell? ⟨(ad.add (k * 3)).block, (ad.add (k * 3)).off + 2, none⟩ = some (.slice A3 y.f2.length c3)) ∧ (wr.drew.cell? ⟨w.heap.size, 0, none⟩ = some (.int .i64 o.f0) ∧ wr.drew.cell? ⟨w.heap.size, 1, none⟩ = some (.int .i64 o.f1) ∧ wr.drew.cell? ⟨w.heap.size, 2, none⟩ = some (.slice B o.f2.length cb)) := F0
      clear b0 b1 b2
      go_region_held3 (fun w' => (w'.cell? (ad.add (k * 3)) = some (.int .i64 y.f0) ∧ w'.cell? ⟨(ad.add (k * 3)).block, (ad.add (k * 3)).off + 1, none⟩ = some (.int .i64 y.f1) ∧ w'.cell? ⟨(ad.add (k * 3)).block, (ad.add (k * 3)).off + 2, none⟩ = some (.slice A3 y.f2.length c3)) ∧ (w'.cell? ⟨w.heap.size, 0, none⟩ = some (.int .i64 o.f0) ∧ w'.cell? ⟨w.heap.size, 1, none⟩ = some (.int .i64 o.f1) ∧ w'.cell? ⟨w.heap.size, 2, none⟩ = some (.slice B o.f2.length cb)))
        (first | (with_reducible exact F0) | (with_reducible exact F1) | (with_reducible exact ⟨F _ HBw.out, G _ HBOj.out⟩) | (with_reducible exact ⟨F _ HB3.out, G _ HBO3.out⟩))
        (first
        | (go_at_call 106; refine (oPut_any wr (w.heap.size + 1) (fun _ => True) v L Aj cj (join y o) _ HBj.out HSK.out.sorted (by simp at hln; omega) HRj.out HIj.out (isOk_big (isOk_join HY.out HK.out)) (Nat.le_trans (Nat.succ_le_of_lt hOs) HBj.out.size) (fun _ _ => trivial)).mono ?_; rintro e w3 ⟨v3, rfl, hr3, hg3, hat3⟩; have HR3 := Aside0.mk hr3; have hbv := Kd.R_base HRj.out; have HBO3 := Aside0.mk (blk_grown (blk_below HBO.out HBj.out) hg3 (fun h => by have := hbv _ h.symm; omega)); have HB3 : Aside0 (Below w.heap.size w w3) := ⟨Below.grown (below_then HB.out HB.out.size HBj.out) hg3 (Nat.le_trans HB.out.size HBj.out.size) (fun j hj => by have := hbv j hj; omega)⟩; clear hr3 hg3 hat3 hbv)
        | (go_at_call 122; refine (sJoin_any y o A3 B c3 cb _ (HIy.out.below (below_drew (Below.refl _ _))) (HIo.out.below (below_drew (Below.refl _ _))) (isOk_big HY.out) (isOk_big HK.out)).mono ?_; rintro e wj ⟨vj, rfl, hj, hbj⟩; obtain ⟨Aj, cj, rfl⟩ := Kd.R_slice hj; have HBj : Aside0 (Below wr.heap.size wr wj) := ⟨keepD hbj⟩; have hjq := Kd.R_reads' hj; have HBw := Aside0.mk (below_then HB.out HB.out.size HBj.out); have HBOj := Aside0.mk (blk_below HBO.out HBj.out); have HIj : Aside0 (IsO wj (join y o) Aj cj) := ⟨⟨hjq.2.1, hjq.2.2⟩⟩; have HRj := Aside0.mk (Kd.R_below HR.out HBj.out); clear hj hbj hjq))
      go_wp2
      go_roundw
      case rel => exact ⟨k + 1, v3, by omega, by go_num, rfl, ⟨by rw [HT.out]; exact HR3.out⟩, HBO3, HB3⟩
      case measure => simp [intOf]; omega
    · have hke : k = s.length := by omega
      subst hke
      have g1 : decide (s.length < s.length) = false := decide_eq_false (by omega)
      have hR := HR.out
      rw [List.take_length] at hR
      have HR2 := Aside0.mk hR
      clear hR
      go_wp2
      go_ret
      exact ⟨v, rfl, by rw [HE.out]; exact Kd.R_lower HR2.out (by omega), HB.out⟩
end Go.Proofs.Ytjeojdbfpncnkaa.Re
