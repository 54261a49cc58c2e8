
/- Are two lists of occurrences one, two pairs, two spans: the program's. Printed by genTy.py. -/
import Derived.Test.YtbbdkhffacoglaaKf
import Derived.Test.YtbbdkhffacoglaaKg
set_option linter.unusedVariables false
set_option linter.unusedSimpArgs false
namespace Go.Proofs.Ytbbdkhffacoglaa.Kh
open Go.RowKit Go.Proofs.YtbbdkhffacoglaaW.PrintWords Go.Proofs.Ytbbdkhffacoglaa.Ja Go.Proofs.Ytbbdkhffacoglaa.Jb Go.Proofs.Ytbbdkhffacoglaa.Jc Go.Proofs.Ytbbdkhffacoglaa.Jd Go.Proofs.Ytbbdkhffacoglaa.Ka Go.Proofs.Ytbbdkhffacoglaa.Ke Go.Proofs.Ytbbdkhffacoglaa.Kf Go.Proofs.Ytbbdkhffacoglaa.Kg
def sameO (x y : TOcc) : Bool := cmpO x y == 0
set_option maxRecDepth 100000 in
theorem occ1Same_any (x y : TOcc) : QCallOcc sameO x y := fun A2 c2 B2 d2 w hA hB => by
  obtain ⟨hb0, bP, bQ⟩ := boxes2 w #[.int .i64 x.f0, .int .i64 x.f1, .slice A2 x.f2.length c2] #[.int .i64 y.f0, .int .i64 y.f1, .slice B2 y.f2.length d2] 60 60
  have HA := Aside0.mk (hA.below hb0)
  have HBb := Aside0.mk (hB.below hb0)
  obtain ⟨W, hW⟩ : ∃ W, W = (w.alloc (.cells #[.int .i64 x.f0, .int .i64 x.f1, .slice A2 x.f2.length c2] 60)).alloc (.cells #[.int .i64 y.f0, .int .i64 y.f1, .slice B2 y.f2.length d2] 60) := ⟨_, rfl⟩
  rw [← hW] at hb0 bP bQ HA HBb
  have HW := Aside0.mk hW
  have HX := Aside0.mk hb0
  clear hb0 hW hA hB
  have p0 := (blk_cell bP 0).trans rfl
  have q0 := (blk_cell bQ 0).trans rfl
  have p1 := (blk_cell bP 1).trans rfl
  have q1 := (blk_cell bQ 1).trans rfl
  have p2 := (blk_cell bP 2).trans rfl
  have q2 := (blk_cell bQ 2).trans rfl
  obtain ⟨r, hr⟩ : ∃ r, r = cmpO x y := ⟨_, rfl⟩
  have HR := Aside0.mk hr
  have HS : Aside0 ((r == 0) = sameO x y) := ⟨by rw [hr]; rfl⟩
  clear hr
  go_enter Try.func74, Try.ntmps74
  go_upto_region 1 with fail
  rw [← HW.out]
  go_wp2_with (go_at_call 30; refine (compare_any x y A2 B2 c2 d2 _ HA.out HBb.out).mono ?_; rintro e w2 ⟨rfl, hb2⟩; rw [← HR.out]; have HB2 := Aside0.mk (below_then HX.out HX.out.size hb2); clear hb2)
  go_ret
  exact ⟨ret_bool HS.out, HB2.out⟩
set_option maxRecDepth 100000 in
theorem occsSame_any (A B : Option Addr) (c d : Nat) (a b : List TOcc) (w : World) (ha : IsS kOcc w a A c) (hb : IsS kOcc w b B d) :
    Calls Try.prog 53 #[.slice A a.length c, .slice B b.length d] w fun e w' => e = .returned (.bool (eqQ sameO a b)) ∧ Below w.heap.size w w' := by
  go_enter Try.func53, Try.ntmps53
  go_wp2_with (go_at_call 73; refine (equalFOcc_of sameO A B c d a b _ ha hb (fun x _ y _ => occ1Same_any x y)).mono ?_; rintro e w2 ⟨rfl, hb2⟩; have HB2 := Aside0.mk hb2; clear hb2)
  go_ret
  exact ⟨rfl, HB2.out⟩
def samePair (x y : TPair) : Bool := eqQ sameO x.f0 y.f0 && eqQ sameO x.f1 y.f1
theorem samePair_eq (x y : TPair) : samePair x y = (eqQ sameO x.f0 y.f0 && eqQ sameO x.f1 y.f1) := rfl
set_option maxHeartbeats 4000000 in
set_option maxRecDepth 100000 in
theorem pairSame_any (x y : TPair) (A0 : Option Addr) (c0 : Nat) (A1 : Option Addr) (c1 : Nat) (B0 : Option Addr) (d0 : Nat) (B1 : Option Addr) (d1 : Nat) (w : World) (hA0 : IsS kOcc w x.f0 A0 c0) (hA1 : IsS kOcc w x.f1 A1 c1) (hB0 : IsS kOcc w y.f0 B0 d0) (hB1 : IsS kOcc w y.f1 B1 d1) :
    Calls Try.prog 51 #[.agg #[.slice A0 x.f0.length c0, .slice A1 x.f1.length c1], .agg #[.slice B0 y.f0.length d0, .slice B1 y.f1.length d1]] w fun e w' => e = .returned (.bool (samePair x y)) ∧ Below w.heap.size w w' := by
  obtain ⟨hb0, bP, bQ⟩ := boxes2 w #[.slice A0 x.f0.length c0, .slice A1 x.f1.length c1] #[.slice B0 y.f0.length d0, .slice B1 y.f1.length d1] 92 92
  have HA0 := Aside0.mk (hA0.below hb0)
  have HB0 := Aside0.mk (hB0.below hb0)
  have HA1 := Aside0.mk (hA1.below hb0)
  have HB1 := Aside0.mk (hB1.below hb0)
  clear hA0 hB0 hA1 hB1
  obtain ⟨W, hW⟩ : ∃ W, W = (w.alloc (.cells #[.slice A0 x.f0.length c0, .slice A1 x.f1.length c1] 92)).alloc (.cells #[.slice B0 y.f0.length d0, .slice B1 y.f1.length d1] 92) := ⟨_, rfl⟩
  rw [← hW] at hb0 bP bQ HA0 HB0 HA1 HB1
  have HW := Aside0.mk hW
  have HX := Aside0.mk hb0
  clear hb0 hW
  have p0 := (blk_cell bP 0).trans rfl
  have q0 := (blk_cell bQ 0).trans rfl
  have p1 := (blk_cell bP 1).trans rfl
  have q1 := (blk_cell bQ 1).trans rfl
  have HC0 : Aside0 (Below W.heap.size W W) := ⟨Below.refl _ _⟩
  have HV : Aside0 (samePair x y = ((eqQ sameO x.f0 y.f0) && (eqQ sameO x.f1 y.f1))) := ⟨by exact samePair_eq x y⟩
  cases h0 : (eqQ sameO x.f0 y.f0) with
  | false =>
    have HF : Aside0 (samePair x y = false) := ⟨by rw [HV.out, h0]; simp⟩
    have HE0 := Aside0.mk h0
    clear h0
    go_enter Try.func51, Try.ntmps51
    go_upto_region 1 with fail
    rw [← HW.out]
    go_wp2_with (go_at_call 53; refine (occsSame_any A0 B0 c0 d0 x.f0 y.f0 _ (HA0.out.below HC0.out) (HB0.out.below HC0.out)).mono ?_; rintro e w1 ⟨rfl, hb1⟩; rw [HE0.out]; have p1_0 := pw_cell_below hb1 p0; have q1_0 := pw_cell_below hb1 q0; have p1_1 := pw_cell_below hb1 p1; have q1_1 := pw_cell_below hb1 q1; have HC1 := Aside0.mk (below_then HC0.out HC0.out.size hb1); clear hb1)
    go_ret
    exact ⟨ret_bool HF.out.symm, below_then HX.out HX.out.size HC1.out⟩
  | true =>
  cases h1 : (eqQ sameO x.f1 y.f1) with
  | false =>
    have HF : Aside0 (samePair x y = false) := ⟨by rw [HV.out, h0, h1]; simp⟩
    have HE0 := Aside0.mk h0
    clear h0
    have HE1 := Aside0.mk h1
    clear h1
    go_enter Try.func51, Try.ntmps51
    go_upto_region 1 with fail
    rw [← HW.out]
    go_wp2_with (first | (go_at_call 53; refine (occsSame_any A1 B1 c1 d1 x.f1 y.f1 _ (HA1.out.below HC1.out) (HB1.out.below HC1.out)).mono ?_; rintro e w2 ⟨rfl, hb2⟩; rw [HE1.out]; have p2_0 := pw_cell_below hb2 p1_0; have q2_0 := pw_cell_below hb2 q1_0; have p2_1 := pw_cell_below hb2 p1_1; have q2_1 := pw_cell_below hb2 q1_1; have HC2 := Aside0.mk (below_then HC1.out HC1.out.size hb2); clear hb2) | (go_at_call 53; refine (occsSame_any A0 B0 c0 d0 x.f0 y.f0 _ (HA0.out.below HC0.out) (HB0.out.below HC0.out)).mono ?_; rintro e w1 ⟨rfl, hb1⟩; rw [HE0.out]; have p1_0 := pw_cell_below hb1 p0; have q1_0 := pw_cell_below hb1 q0; have p1_1 := pw_cell_below hb1 p1; have q1_1 := pw_cell_below hb1 q1; have HC1 := Aside0.mk (below_then HC0.out HC0.out.size hb1); clear hb1))
    go_ret
    exact ⟨ret_bool HF.out.symm, below_then HX.out HX.out.size HC2.out⟩
  | true =>
  have HF : Aside0 (samePair x y = true) := ⟨by rw [HV.out, h0, h1]; simp⟩
  have HE0 := Aside0.mk h0
  clear h0
  have HE1 := Aside0.mk h1
  clear h1
  go_enter Try.func51, Try.ntmps51
  go_upto_region 1 with fail
  rw [← HW.out]
  go_wp2_with (first | (go_at_call 53; refine (occsSame_any A1 B1 c1 d1 x.f1 y.f1 _ (HA1.out.below HC1.out) (HB1.out.below HC1.out)).mono ?_; rintro e w2 ⟨rfl, hb2⟩; rw [HE1.out]; have p2_0 := pw_cell_below hb2 p1_0; have q2_0 := pw_cell_below hb2 q1_0; have p2_1 := pw_cell_below hb2 p1_1; have q2_1 := pw_cell_below hb2 q1_1; have HC2 := Aside0.mk (below_then HC1.out HC1.out.size hb2); clear hb2) | (go_at_call 53; refine (occsSame_any A0 B0 c0 d0 x.f0 y.f0 _ (HA0.out.below HC0.out) (HB0.out.below HC0.out)).mono ?_; rintro e w1 ⟨rfl, hb1⟩; rw [HE0.out]; have p1_0 := pw_cell_below hb1 p0; have q1_0 := pw_cell_below hb1 q0; have p1_1 := pw_cell_below hb1 p1; have q1_1 := pw_cell_below hb1 q1; have HC1 := Aside0.mk (below_then HC0.out HC0.out.size hb1); clear hb1))
  go_ret
  exact ⟨ret_bool HF.out.symm, below_then HX.out HX.out.size HC2.out⟩
def sameSpan (x y : TSpan) : Bool := eqQ sameO x.f0 y.f0 && eqQ sameO x.f1 y.f1
theorem sameSpan_eq (x y : TSpan) : sameSpan x y = (eqQ sameO x.f0 y.f0 && eqQ sameO x.f1 y.f1) := rfl
set_option maxHeartbeats 4000000 in
set_option maxRecDepth 100000 in
theorem spanSame_any (x y : TSpan) (A0 : Option Addr) (c0 : Nat) (A1 : Option Addr) (c1 : Nat) (B0 : Option Addr) (d0 : Nat) (B1 : Option Addr) (d1 : Nat) (w : World) (hA0 : IsS kOcc w x.f0 A0 c0) (hA1 : IsS kOcc w x.f1 A1 c1) (hB0 : IsS kOcc w y.f0 B0 d0) (hB1 : IsS kOcc w y.f1 B1 d1) :
    Calls Try.prog 52 #[.agg #[.slice A0 x.f0.length c0, .slice A1 x.f1.length c1], .agg #[.slice B0 y.f0.length d0, .slice B1 y.f1.length d1]] w fun e w' => e = .returned (.bool (sameSpan x y)) ∧ Below w.heap.size w w' := by
  obtain ⟨hb0, bP, bQ⟩ := boxes2 w #[.slice A0 x.f0.length c0, .slice A1 x.f1.length c1] #[.slice B0 y.f0.length d0, .slice B1 y.f1.length d1] 94 94
  have HA0 := Aside0.mk (hA0.below hb0)
  have HB0 := Aside0.mk (hB0.below hb0)
  have HA1 := Aside0.mk (hA1.below hb0)
  have HB1 := Aside0.mk (hB1.below hb0)
  clear hA0 hB0 hA1 hB1
  obtain ⟨W, hW⟩ : ∃ W, W = (w.alloc (.cells #[.slice A0 x.f0.length c0, .slice A1 x.f1.length c1] 94)).alloc (.cells #[.slice B0 y.f0.length d0, .slice B1 y.f1.length d1] 94) := ⟨_, rfl⟩
  rw [← hW] at hb0 bP bQ HA0 HB0 HA1 HB1
  have HW := Aside0.mk hW
  have HX := Aside0.mk hb0
  clear hb0 hW
  have p0 := (blk_cell bP 0).trans rfl
  have q0 := (blk_cell bQ 0).trans rfl
  have p1 := (blk_cell bP 1).trans rfl
  have q1 := (blk_cell bQ 1).trans rfl
  have HC0 : Aside0 (Below W.heap.size W W) := ⟨Below.refl _ _⟩
  have HV : Aside0 (sameSpan x y = ((eqQ sameO x.f0 y.f0) && (eqQ sameO x.f1 y.f1))) := ⟨by exact sameSpan_eq x y⟩
  cases h0 : (eqQ sameO x.f0 y.f0) with
  | false =>
    have HF : Aside0 (sameSpan x y = false) := ⟨by rw [HV.out, h0]; simp⟩
    have HE0 := Aside0.mk h0
    clear h0
    go_enter Try.func52, Try.ntmps52
    go_upto_region 1 with fail
    rw [← HW.out]
    go_wp2_with (go_at_call 53; refine (occsSame_any A0 B0 c0 d0 x.f0 y.f0 _ (HA0.out.below HC0.out) (HB0.out.below HC0.out)).mono ?_; rintro e w1 ⟨rfl, hb1⟩; rw [HE0.out]; have p1_0 := pw_cell_below hb1 p0; have q1_0 := pw_cell_below hb1 q0; have p1_1 := pw_cell_below hb1 p1; have q1_1 := pw_cell_below hb1 q1; have HC1 := Aside0.mk (below_then HC0.out HC0.out.size hb1); clear hb1)
    go_ret
    exact ⟨ret_bool HF.out.symm, below_then HX.out HX.out.size HC1.out⟩
  | true =>
  cases h1 : (eqQ sameO x.f1 y.f1) with
  | false =>
    have HF : Aside0 (sameSpan x y = false) := ⟨by rw [HV.out, h0, h1]; simp⟩
    have HE0 := Aside0.mk h0
    clear h0
    have HE1 := Aside0.mk h1
    clear h1
    go_enter Try.func52, Try.ntmps52
    go_upto_region 1 with fail
    rw [← HW.out]
    go_wp2_with (first | (go_at_call 53; refine (occsSame_any A1 B1 c1 d1 x.f1 y.f1 _ (HA1.out.below HC1.out) (HB1.out.below HC1.out)).mono ?_; rintro e w2 ⟨rfl, hb2⟩; rw [HE1.out]; have p2_0 := pw_cell_below hb2 p1_0; have q2_0 := pw_cell_below hb2 q1_0; have p2_1 := pw_cell_below hb2 p1_1; have q2_1 := pw_cell_below hb2 q1_1; have HC2 := Aside0.mk (below_then HC1.out HC1.out.size hb2); clear hb2) | (go_at_call 53; refine (occsSame_any A0 B0 c0 d0 x.f0 y.f0 _ (HA0.out.below HC0.out) (HB0.out.below HC0.out)).mono ?_; rintro e w1 ⟨rfl, hb1⟩; rw [HE0.out]; have p1_0 := pw_cell_below hb1 p0; have q1_0 := pw_cell_below hb1 q0; have p1_1 := pw_cell_below hb1 p1; have q1_1 := pw_cell_below hb1 q1; have HC1 := Aside0.mk (below_then HC0.out HC0.out.size hb1); clear hb1))
    go_ret
    exact ⟨ret_bool HF.out.symm, below_then HX.out HX.out.size HC2.out⟩
  | true =>
  have HF : Aside0 (sameSpan x y = true) := ⟨by rw [HV.out, h0, h1]; simp⟩
  have HE0 := Aside0.mk h0
  clear h0
  have HE1 := Aside0.mk h1
  clear h1
  go_enter Try.func52, Try.ntmps52
  go_upto_region 1 with fail
  rw [← HW.out]
  go_wp2_with (first | (go_at_call 53; refine (occsSame_any A1 B1 c1 d1 x.f1 y.f1 _ (HA1.out.below HC1.out) (HB1.out.below HC1.out)).mono ?_; rintro e w2 ⟨rfl, hb2⟩; rw [HE1.out]; have p2_0 := pw_cell_below hb2 p1_0; have q2_0 := pw_cell_below hb2 q1_0; have p2_1 := pw_cell_below hb2 p1_1; have q2_1 := pw_cell_below hb2 q1_1; have HC2 := Aside0.mk (below_then HC1.out HC1.out.size hb2); clear hb2) | (go_at_call 53; refine (occsSame_any A0 B0 c0 d0 x.f0 y.f0 _ (HA0.out.below HC0.out) (HB0.out.below HC0.out)).mono ?_; rintro e w1 ⟨rfl, hb1⟩; rw [HE0.out]; have p1_0 := pw_cell_below hb1 p0; have q1_0 := pw_cell_below hb1 q0; have p1_1 := pw_cell_below hb1 p1; have q1_1 := pw_cell_below hb1 q1; have HC1 := Aside0.mk (below_then HC0.out HC0.out.size hb1); clear hb1))
  go_ret
  exact ⟨ret_bool HF.out.symm, below_then HX.out HX.out.size HC2.out⟩
end Go.Proofs.Ytbbdkhffacoglaa.Kh
