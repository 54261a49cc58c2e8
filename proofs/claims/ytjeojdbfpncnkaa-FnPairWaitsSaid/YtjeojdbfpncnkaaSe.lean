/- The reference's order of occurrences: OccLess, l3Same, l3Copy. -/
import Derived.Test.YtjeojdbfpncnkaaSd
set_option linter.unusedVariables false
set_option linter.unusedSimpArgs false
namespace Go.Proofs.Ytjeojdbfpncnkaa.Se
open Go.RowKit Go.Proofs.YtjeojdbfpncnkaaW.PrintWords Go.Proofs.Ytjeojdbfpncnkaa.Wd Go.Proofs.Ytjeojdbfpncnkaa.Pu Go.Proofs.Ytjeojdbfpncnkaa.Ca Go.Proofs.Ytjeojdbfpncnkaa.Cg Go.Proofs.Ytjeojdbfpncnkaa.Cf Go.Proofs.Ytjeojdbfpncnkaa.Sd

theorem sLess_any (x y : Occ) (A B : Option Addr) (c c2 : Nat) (w : World) (hx : IsO w x A c) (hy : IsO w y B c2) :
    Calls Try.prog 39 #[.agg #[.int .i64 x.f0, .int .i64 x.f1, .slice A x.f2.length c], .agg #[.int .i64 y.f0, .int .i64 y.f1, .slice B y.f2.length c2]] w fun e w' => e = .returned (.bool (decide (cmpO x y < 0))) ∧ Below w.heap.size w w' := by
  by_cases h : x.f1 = y.f1
  · by_cases g : x.f0 = y.f0
    · have HC := Aside0.mk (show cmpO x y = cmpIds x.f2 y.f2 by unfold cmpO; rw [if_pos h, if_pos g])
      have h1 : (x.f1 != y.f1) = false := by simpa using h
      have g1 : (x.f0 != y.f0) = false := by simpa using g
      have hb : Below w.heap.size w ((w.alloc (.cells #[.int .i64 x.f0, .int .i64 x.f1, .slice A x.f2.length c] 25)).alloc (.cells #[.int .i64 y.f0, .int .i64 y.f1, .slice B y.f2.length c2] 25)) := by repeat (first | exact Below.refl _ _ | apply below_alloc)
      have hcl := ids_any A B c c2 x.f2 y.f2 _ (Kd.C_below hx.2 hb) (Kd.C_below hy.2 hb)
      clear h g
      have HB := Aside0.mk hb
      clear hb
      go_enter Try.func39, Try.ntmps39
      go_wp2_with (go_at_call 73; refine hcl.mono ?_; rintro e w' ⟨rfl, hw⟩; have HB2 := Aside0.mk (below_then HB.out HB.out.size hw); clear hw)
      go_ret
      exact ⟨by rw [HC.out]; rfl, HB2.out⟩
    · have h1 : (x.f1 != y.f1) = false := by simpa using h
      have g1 : (x.f0 != y.f0) = true := by simpa using g
      have HC := Aside0.mk (show decide (cmpO x y < 0) = decide (x.f0 < y.f0) by unfold cmpO; rw [if_pos h, if_neg g]; split <;> simp [*])
      clear h g
      go_enter Try.func39, Try.ntmps39
      go_wp2
      go_ret
      exact ⟨by rw [HC.out]; rfl, by repeat (first | exact Below.refl _ _ | apply below_alloc)⟩
  · have h1 : (x.f1 != y.f1) = true := by simpa using h
    have HC := Aside0.mk (show decide (cmpO x y < 0) = decide (x.f1 < y.f1) by unfold cmpO; rw [if_neg h]; split <;> simp [*])
    clear h
    go_enter Try.func39, Try.ntmps39
    go_wp2
    go_ret
    exact ⟨by rw [HC.out]; rfl, by repeat (first | exact Below.refl _ _ | apply below_alloc)⟩

theorem sSame_any (x y : Occ) (A B : Option Addr) (c c2 : Nat) (w : World) (hx : IsO w x A c) (hy : IsO w y B c2) :
    Calls Try.prog 120 #[.agg #[.int .i64 x.f0, .int .i64 x.f1, .slice A x.f2.length c], .agg #[.int .i64 y.f0, .int .i64 y.f1, .slice B y.f2.length c2]] w fun e w' => e = .returned (.bool (decide (cmpO x y = 0))) ∧ Below w.heap.size w w' := by
  by_cases g : x.f0 = y.f0
  · have g1 : (x.f0 == y.f0) = true := by simpa using g
    by_cases h : x.f1 = y.f1
    · have h1 : (x.f1 == y.f1) = true := by simpa using h
      have HC := Aside0.mk (show cmpO x y = cmpIds x.f2 y.f2 by unfold cmpO; rw [if_pos h, if_pos g])
      by_cases hl : x.f2.length = y.f2.length
      · have l1 : ((x.f2.length : Int) == y.f2.length) = true := by rw [beq_iff_eq]; omega
        have l2 : decide (x.f2.length = y.f2.length) = true := decide_eq_true hl
        have hb : Below w.heap.size w ((w.alloc (.cells #[.int .i64 x.f0, .int .i64 x.f1, .slice A x.f2.length c] 25)).alloc (.cells #[.int .i64 y.f0, .int .i64 y.f1, .slice B y.f2.length c2] 25)) := by repeat (first | exact Below.refl _ _ | apply below_alloc)
        have hcl := ids_any A B c c2 x.f2 y.f2 _ (Kd.C_below hx.2 hb) (Kd.C_below hy.2 hb)
        clear h g hl
        have HB := Aside0.mk hb
        clear hb
        go_enter Try.func120, Try.ntmps120
        go_wp2_with (go_at_call 73; refine hcl.mono ?_; rintro e w' ⟨rfl, hw⟩; have HB2 := Aside0.mk (below_then HB.out HB.out.size hw); clear hw)
        go_ret
        exact ⟨by rw [HC.out]; exact ret_bool (by rw [Bool.eq_iff_iff]; simp), HB2.out⟩
      · have l1 : ((x.f2.length : Int) == y.f2.length) = false := by rw [beq_eq_false_iff_ne]; omega
        have l2 : decide (x.f2.length = y.f2.length) = false := decide_eq_false hl
        have HF := Aside0.mk (show decide (cmpO x y = 0) = false from decide_eq_false (fun e => hl (by rw [(cmpO_eq x y).1 e])))
        clear h g hl
        go_enter Try.func120, Try.ntmps120
        go_wp2
        go_ret
        exact ⟨by rw [HF.out]; rfl, by repeat (first | exact Below.refl _ _ | apply below_alloc)⟩
    · have h1 : (x.f1 == y.f1) = false := by simpa using h
      have HF := Aside0.mk (show decide (cmpO x y = 0) = false from decide_eq_false (fun e => h (by rw [(cmpO_eq x y).1 e])))
      clear h g
      go_enter Try.func120, Try.ntmps120
      go_wp2
      go_ret
      exact ⟨by rw [HF.out]; rfl, by repeat (first | exact Below.refl _ _ | apply below_alloc)⟩
  · have g1 : (x.f0 == y.f0) = false := by simpa using g
    have HF := Aside0.mk (show decide (cmpO x y = 0) = false from decide_eq_false (fun e => g (by rw [(cmpO_eq x y).1 e])))
    clear g
    go_enter Try.func120, Try.ntmps120
    go_wp2
    go_ret
    exact ⟨by rw [HF.out]; rfl, by repeat (first | exact Below.refl _ _ | apply below_alloc)⟩
end Go.Proofs.Ytjeojdbfpncnkaa.Se
