
/- Are two expressions one, two rules: the program's. Printed by genTy.py. -/
import Derived.Test.YtbbdkhffacoglaaDoorKe
set_option linter.unusedVariables false
set_option linter.unusedSimpArgs false
namespace Go.Proofs.YtbbdkhffacoglaaDoor.Kf
open Go.RowKit Go.Proofs.YtbbdkhffacoglaaDoorW.PrintWords Go.Proofs.YtbbdkhffacoglaaDoor.Ja Go.Proofs.YtbbdkhffacoglaaDoor.Jb Go.Proofs.YtbbdkhffacoglaaDoor.Jc Go.Proofs.YtbbdkhffacoglaaDoor.Jd Go.Proofs.YtbbdkhffacoglaaDoor.Ka Go.Proofs.YtbbdkhffacoglaaDoor.Ke
mutual
def sameE : Ex → Ex → Bool
  | .mk a b c l, y => (a == y.f0) && (b == y.f1) && (c == y.f2) && sameL l y.f3
def sameL : List Ex → List Ex → Bool
  | [], [] => true
  | x :: xs, y :: ys => sameE x y && sameL xs ys
  | _, _ => false
end
theorem sameL_eq : ∀ a b, sameL a b = eqQ sameE a b
  | [], [] => by simp [sameL, eqQ]
  | [], _ :: _ => by simp [sameL, eqQ]
  | _ :: _, [] => by simp [sameL, eqQ]
  | x :: xs, y :: ys => by rw [sameL, eqQ, sameL_eq xs ys]
theorem sameE_eq (x y : Ex) : sameE x y = ((x.f0 == y.f0) && (x.f1 == y.f1) && (x.f2 == y.f2) && eqQ sameE x.f3 y.f3) := by
  cases x with
  | mk a b c l => rw [sameE, sameL_eq]; rfl
set_option maxHeartbeats 4000000 in
set_option maxRecDepth 100000 in
theorem exSame_of (x y : Ex) (A3 : Option Addr) (c3 : Nat) (B3 : Option Addr) (d3 : Nat) (w : World) (hA3 : IsS (kE 29) w x.f3 A3 c3) (hB3 : IsS (kE 29) w y.f3 B3 d3) (hq : ∀ a, a ∈ x.f3 → ∀ b, b ∈ y.f3 → QCallEx sameE a b) :
    Calls Tryd.prog 68 #[.agg #[.int .i64 x.f0, .int .i64 x.f1, .int .i64 x.f2, .slice A3 x.f3.length c3], .agg #[.int .i64 y.f0, .int .i64 y.f1, .int .i64 y.f2, .slice B3 y.f3.length d3]] w fun e w' => e = .returned (.bool (sameE x y)) ∧ Below w.heap.size w w' := by
  obtain ⟨hb0, bP, bQ⟩ := boxes2 w #[.int .i64 x.f0, .int .i64 x.f1, .int .i64 x.f2, .slice A3 x.f3.length c3] #[.int .i64 y.f0, .int .i64 y.f1, .int .i64 y.f2, .slice B3 y.f3.length d3] 29 29
  have HA3 := Aside0.mk (hA3.below hb0)
  have HB3 := Aside0.mk (hB3.below hb0)
  clear hA3 hB3
  obtain ⟨W, hW⟩ : ∃ W, W = (w.alloc (.cells #[.int .i64 x.f0, .int .i64 x.f1, .int .i64 x.f2, .slice A3 x.f3.length c3] 29)).alloc (.cells #[.int .i64 y.f0, .int .i64 y.f1, .int .i64 y.f2, .slice B3 y.f3.length d3] 29) := ⟨_, rfl⟩
  rw [← hW] at hb0 bP bQ HA3 HB3
  have HW := Aside0.mk hW
  have HX := Aside0.mk hb0
  clear hb0 hW
  have p0 := (blk_cell bP 0).trans rfl
  have q0 := (blk_cell bQ 0).trans rfl
  have p1 := (blk_cell bP 1).trans rfl
  have q1 := (blk_cell bQ 1).trans rfl
  have p2 := (blk_cell bP 2).trans rfl
  have q2 := (blk_cell bQ 2).trans rfl
  have p3 := (blk_cell bP 3).trans rfl
  have q3 := (blk_cell bQ 3).trans rfl
  have HC0 : Aside0 (Below W.heap.size W W) := ⟨Below.refl _ _⟩
  have HV : Aside0 (sameE x y = ((x.f0 == y.f0) && (x.f1 == y.f1) && (x.f2 == y.f2) && (eqQ sameE x.f3 y.f3))) := ⟨by exact sameE_eq x y⟩
  cases h0 : (x.f0 == y.f0) with
  | false =>
    have HF : Aside0 (sameE x y = false) := ⟨by rw [HV.out, h0]; simp⟩
    go_enter Tryd.func68, Tryd.ntmps68
    go_upto_region 1 with fail
    rw [← HW.out]
    go_wp2
    go_ret
    exact ⟨ret_bool HF.out.symm, below_then HX.out HX.out.size HC0.out⟩
  | true =>
  cases h1 : (x.f1 == y.f1) with
  | false =>
    have HF : Aside0 (sameE x y = false) := ⟨by rw [HV.out, h0, h1]; simp⟩
    go_enter Tryd.func68, Tryd.ntmps68
    go_upto_region 1 with fail
    rw [← HW.out]
    go_wp2
    go_ret
    exact ⟨ret_bool HF.out.symm, below_then HX.out HX.out.size HC0.out⟩
  | true =>
  cases h2 : (x.f2 == y.f2) with
  | false =>
    have HF : Aside0 (sameE x y = false) := ⟨by rw [HV.out, h0, h1, h2]; simp⟩
    go_enter Tryd.func68, Tryd.ntmps68
    go_upto_region 1 with fail
    rw [← HW.out]
    go_wp2
    go_ret
    exact ⟨ret_bool HF.out.symm, below_then HX.out HX.out.size HC0.out⟩
  | true =>
  cases h3 : (eqQ sameE x.f3 y.f3) with
  | false =>
    have HF : Aside0 (sameE x y = false) := ⟨by rw [HV.out, h0, h1, h2, h3]; simp⟩
    have HE3 := Aside0.mk h3
    clear h3
    go_enter Tryd.func68, Tryd.ntmps68
    go_upto_region 1 with fail
    rw [← HW.out]
    go_wp2_with (go_at_call 97; refine (equalFEx_of sameE A3 B3 c3 d3 x.f3 y.f3 _ (HA3.out.below HC0.out) (HB3.out.below HC0.out) hq).mono ?_; rintro e w1 ⟨rfl, hb1⟩; rw [HE3.out]; have p1_0 := pw_cell_below hb1 p0; have q1_0 := pw_cell_below hb1 q0; have p1_1 := pw_cell_below hb1 p1; have q1_1 := pw_cell_below hb1 q1; have p1_2 := pw_cell_below hb1 p2; have q1_2 := pw_cell_below hb1 q2; have p1_3 := pw_cell_below hb1 p3; have q1_3 := pw_cell_below hb1 q3; have HC1 := Aside0.mk (below_then HC0.out HC0.out.size hb1); clear hb1)
    go_ret
    exact ⟨ret_bool HF.out.symm, below_then HX.out HX.out.size HC1.out⟩
  | true =>
  have HF : Aside0 (sameE x y = true) := ⟨by rw [HV.out, h0, h1, h2, h3]; simp⟩
  have HE3 := Aside0.mk h3
  clear h3
  go_enter Tryd.func68, Tryd.ntmps68
  go_upto_region 1 with fail
  rw [← HW.out]
  go_wp2_with (go_at_call 97; refine (equalFEx_of sameE A3 B3 c3 d3 x.f3 y.f3 _ (HA3.out.below HC0.out) (HB3.out.below HC0.out) hq).mono ?_; rintro e w1 ⟨rfl, hb1⟩; rw [HE3.out]; have p1_0 := pw_cell_below hb1 p0; have q1_0 := pw_cell_below hb1 q0; have p1_1 := pw_cell_below hb1 p1; have q1_1 := pw_cell_below hb1 q1; have p1_2 := pw_cell_below hb1 p2; have q1_2 := pw_cell_below hb1 q2; have p1_3 := pw_cell_below hb1 p3; have q1_3 := pw_cell_below hb1 q3; have HC1 := Aside0.mk (below_then HC0.out HC0.out.size hb1); clear hb1)
  go_ret
  exact ⟨ret_bool HF.out.symm, below_then HX.out HX.out.size HC1.out⟩
theorem exSame_any (x y : Ex) : QCallEx sameE x y := fun A3 c3 B3 d3 w hA hB => exSame_of x y A3 c3 B3 d3 w hA hB (fun a ha b hb =>
  have := cnt_mem ha
  exSame_any a b)
termination_by cntL x.f3
def sameR (x y : TRule) : Bool := (x.f0.toList == y.f0.toList) && (x.f1 == y.f1) && (x.f2 == y.f2) && sameE x.f3 y.f3 && (x.f4 == y.f4) && (x.f5 == y.f5) && (x.f6 == y.f6) && (x.f7 == y.f7) && (x.f8 == y.f8)
theorem sameR_eq (x y : TRule) : sameR x y = ((x.f0.toList == y.f0.toList) && (x.f1 == y.f1) && (x.f2 == y.f2) && sameE x.f3 y.f3 && (x.f4 == y.f4) && (x.f5 == y.f5) && (x.f6 == y.f6) && (x.f7 == y.f7) && (x.f8 == y.f8)) := rfl
end Go.Proofs.YtbbdkhffacoglaaDoor.Kf
