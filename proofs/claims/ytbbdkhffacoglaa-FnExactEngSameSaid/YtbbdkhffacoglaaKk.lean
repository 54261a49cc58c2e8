
/- Are two firings one, two engines: the program's. Printed by genTy.py. -/
import Derived.Test.YtbbdkhffacoglaaKj
set_option linter.unusedVariables false
set_option linter.unusedSimpArgs false
namespace Go.Proofs.Ytbbdkhffacoglaa.Kk
open Go.RowKit Go.Proofs.YtbbdkhffacoglaaW.PrintWords Go.Proofs.Ytbbdkhffacoglaa.Ja Go.Proofs.Ytbbdkhffacoglaa.Jb Go.Proofs.Ytbbdkhffacoglaa.Jc Go.Proofs.Ytbbdkhffacoglaa.Jd Go.Proofs.Ytbbdkhffacoglaa.Ka Go.Proofs.Ytbbdkhffacoglaa.Ke Go.Proofs.Ytbbdkhffacoglaa.Kf Go.Proofs.Ytbbdkhffacoglaa.Kg Go.Proofs.Ytbbdkhffacoglaa.Kh Go.Proofs.Ytbbdkhffacoglaa.Ki Go.Proofs.Ytbbdkhffacoglaa.Kj
set_option maxRecDepth 100000 in
theorem evsSame_any (A B : Option Addr) (c d : Nat) (a b : List TEv) (w : World) (ha : IsS kEv w a A c) (hb : IsS kEv w b B d) :
    Calls Try.prog 26 #[.slice A a.length c, .slice B b.length d] w fun e w' => e = .returned (.bool (eqQ sameEv a b)) ∧ Below w.heap.size w w' := by
  go_enter Try.func26, Try.ntmps26
  go_wp2_with (go_at_call 54; refine (evsEqual_any A B c d a b _ ha hb).mono ?_; rintro e w2 ⟨rfl, hb2⟩; have HB2 := Aside0.mk hb2; clear hb2)
  go_ret
  exact ⟨rfl, HB2.out⟩
def sameFire (x y : TFire) : Bool := (x.f0 == y.f0) && (cmpO x.f1 y.f1 == 0)
theorem sameFire_eq (x y : TFire) : sameFire x y = ((x.f0 == y.f0) && (cmpO x.f1 y.f1 == 0)) := rfl
set_option maxHeartbeats 4000000 in
set_option maxRecDepth 100000 in
theorem fireSame_any (x y : TFire) (A3 : Option Addr) (c3 : Nat) (B3 : Option Addr) (d3 : Nat) (w : World) (hA3 : IsS (Kd.int .i64) w x.f1.f2 A3 c3) (hB3 : IsS (Kd.int .i64) w y.f1.f2 B3 d3) :
    Calls Try.prog 29 #[.agg #[.int .i64 x.f0, .int .i64 x.f1.f0, .int .i64 x.f1.f1, .slice A3 x.f1.f2.length c3], .agg #[.int .i64 y.f0, .int .i64 y.f1.f0, .int .i64 y.f1.f1, .slice B3 y.f1.f2.length d3]] w fun e w' => e = .returned (.bool (sameFire x y)) ∧ Below w.heap.size w w' := by
  obtain ⟨hb0, bP, bQ⟩ := boxes2 w #[.int .i64 x.f0, .int .i64 x.f1.f0, .int .i64 x.f1.f1, .slice A3 x.f1.f2.length c3] #[.int .i64 y.f0, .int .i64 y.f1.f0, .int .i64 y.f1.f1, .slice B3 y.f1.f2.length d3] 62 62
  have HA3 := Aside0.mk (hA3.below hb0)
  have HB3 := Aside0.mk (hB3.below hb0)
  clear hA3 hB3
  obtain ⟨W, hW⟩ : ∃ W, W = (w.alloc (.cells #[.int .i64 x.f0, .int .i64 x.f1.f0, .int .i64 x.f1.f1, .slice A3 x.f1.f2.length c3] 62)).alloc (.cells #[.int .i64 y.f0, .int .i64 y.f1.f0, .int .i64 y.f1.f1, .slice B3 y.f1.f2.length d3] 62) := ⟨_, rfl⟩
  rw [← hW] at hb0 bP bQ HA3 HB3
  have HW := Aside0.mk hW
  have HX := Aside0.mk hb0
  clear hb0 hW
  have p0 := (blk_cell bP 0).trans rfl
  have q0 := (blk_cell bQ 0).trans rfl
  have p1 := (blk_cell bP 1).trans rfl
  have q1 := (blk_cell bQ 1).trans rfl
  have p2 := (blk_cell bP 2).trans rfl
  have q2 := (blk_cell bQ 2).trans rfl
  have p3 := (blk_cell bP 3).trans rfl
  have q3 := (blk_cell bQ 3).trans rfl
  have HC0 : Aside0 (Below W.heap.size W W) := ⟨Below.refl _ _⟩
  obtain ⟨r1, hr1⟩ : ∃ r : Int, r = cmpO x.f1 y.f1 := ⟨_, rfl⟩
  have HV : Aside0 (sameFire x y = ((x.f0 == y.f0) && (r1 == 0))) := ⟨by rw [hr1]; exact sameFire_eq x y⟩
  have HR1 := Aside0.mk hr1
  clear hr1
  cases h0 : (x.f0 == y.f0) with
  | false =>
    have HF : Aside0 (sameFire x y = false) := ⟨by rw [HV.out, h0]; simp⟩
    go_enter Try.func29, Try.ntmps29
    go_upto_region 1 with fail
    rw [← HW.out]
    go_wp2
    go_ret
    exact ⟨ret_bool HF.out.symm, below_then HX.out HX.out.size HC0.out⟩
  | true =>
  cases h1 : (r1 == 0) with
  | false =>
    have HF : Aside0 (sameFire x y = false) := ⟨by rw [HV.out, h0, h1]; simp⟩
    go_enter Try.func29, Try.ntmps29
    go_upto_region 1 with fail
    rw [← HW.out]
    go_wp2_with (go_at_call 30; refine (compare_any x.f1 y.f1 A3 B3 c3 d3 _ (HA3.out.below HC0.out) (HB3.out.below HC0.out) ).mono ?_; rintro e w1 ⟨rfl, hb1⟩; rw [← HR1.out]; have p1_0 := pw_cell_below hb1 p0; have q1_0 := pw_cell_below hb1 q0; have p1_1 := pw_cell_below hb1 p1; have q1_1 := pw_cell_below hb1 q1; have p1_2 := pw_cell_below hb1 p2; have q1_2 := pw_cell_below hb1 q2; have p1_3 := pw_cell_below hb1 p3; have q1_3 := pw_cell_below hb1 q3; have HC1 := Aside0.mk (below_then HC0.out HC0.out.size hb1); clear hb1)
    go_ret
    exact ⟨ret_bool HF.out.symm, below_then HX.out HX.out.size HC1.out⟩
  | true =>
  have HF : Aside0 (sameFire x y = true) := ⟨by rw [HV.out, h0, h1]; simp⟩
  go_enter Try.func29, Try.ntmps29
  go_upto_region 1 with fail
  rw [← HW.out]
  go_wp2_with (go_at_call 30; refine (compare_any x.f1 y.f1 A3 B3 c3 d3 _ (HA3.out.below HC0.out) (HB3.out.below HC0.out) ).mono ?_; rintro e w1 ⟨rfl, hb1⟩; rw [← HR1.out]; have p1_0 := pw_cell_below hb1 p0; have q1_0 := pw_cell_below hb1 q0; have p1_1 := pw_cell_below hb1 p1; have q1_1 := pw_cell_below hb1 q1; have p1_2 := pw_cell_below hb1 p2; have q1_2 := pw_cell_below hb1 q2; have p1_3 := pw_cell_below hb1 p3; have q1_3 := pw_cell_below hb1 q3; have HC1 := Aside0.mk (below_then HC0.out HC0.out.size hb1); clear hb1)
  go_ret
  exact ⟨ret_bool HF.out.symm, below_then HX.out HX.out.size HC1.out⟩
def sameEng (x y : TEng) : Bool := eqQ sameR x.f0 y.f0 && eqQ sameGraph x.f1 y.f1 && eqQ sameEv x.f2 y.f2 && eqQ sameI x.f3 y.f3 && eqQ sameFire x.f4 y.f4
theorem sameEng_eq (x y : TEng) : sameEng x y = (eqQ sameR x.f0 y.f0 && eqQ sameGraph x.f1 y.f1 && eqQ sameEv x.f2 y.f2 && eqQ sameI x.f3 y.f3 && eqQ sameFire x.f4 y.f4) := rfl
set_option maxHeartbeats 4000000 in
set_option maxRecDepth 100000 in
theorem engSame_any (x y : TEng) (A0 : Option Addr) (c0 : Nat) (A1 : Option Addr) (c1 : Nat) (A2 : Option Addr) (c2 : Nat) (A3 : Option Addr) (c3 : Nat) (A4 : Option Addr) (c4 : Nat) (B0 : Option Addr) (d0 : Nat) (B1 : Option Addr) (d1 : Nat) (B2 : Option Addr) (d2 : Nat) (B3 : Option Addr) (d3 : Nat) (B4 : Option Addr) (d4 : Nat) (w : World) (hA0 : IsS kRule w x.f0 A0 c0) (hA1 : IsS kGraph w x.f1 A1 c1) (hA2 : IsS kEv w x.f2 A2 c2) (hA3 : IsS (Kd.int .i64) w x.f3 A3 c3) (hA4 : IsS kFire w x.f4 A4 c4) (hB0 : IsS kRule w y.f0 B0 d0) (hB1 : IsS kGraph w y.f1 B1 d1) (hB2 : IsS kEv w y.f2 B2 d2) (hB3 : IsS (Kd.int .i64) w y.f3 B3 d3) (hB4 : IsS kFire w y.f4 B4 d4) :
    Calls Try.prog 7 #[.agg #[.slice A0 x.f0.length c0, .slice A1 x.f1.length c1, .slice A2 x.f2.length c2, .slice A3 x.f3.length c3, .slice A4 x.f4.length c4], .agg #[.slice B0 y.f0.length d0, .slice B1 y.f1.length d1, .slice B2 y.f2.length d2, .slice B3 y.f3.length d3, .slice B4 y.f4.length d4]] w fun e w' => e = .returned (.bool (sameEng x y)) ∧ Below w.heap.size w w' := by
  obtain ⟨hb0, bP, bQ⟩ := boxes2 w #[.slice A0 x.f0.length c0, .slice A1 x.f1.length c1, .slice A2 x.f2.length c2, .slice A3 x.f3.length c3, .slice A4 x.f4.length c4] #[.slice B0 y.f0.length d0, .slice B1 y.f1.length d1, .slice B2 y.f2.length d2, .slice B3 y.f3.length d3, .slice B4 y.f4.length d4] 36 36
  have HA0 := Aside0.mk (hA0.below hb0)
  have HB0 := Aside0.mk (hB0.below hb0)
  have HA1 := Aside0.mk (hA1.below hb0)
  have HB1 := Aside0.mk (hB1.below hb0)
  have HA2 := Aside0.mk (hA2.below hb0)
  have HB2 := Aside0.mk (hB2.below hb0)
  have HA3 := Aside0.mk (hA3.below hb0)
  have HB3 := Aside0.mk (hB3.below hb0)
  have HA4 := Aside0.mk (hA4.below hb0)
  have HB4 := Aside0.mk (hB4.below hb0)
  clear hA0 hB0 hA1 hB1 hA2 hB2 hA3 hB3 hA4 hB4
  obtain ⟨W, hW⟩ : ∃ W, W = (w.alloc (.cells #[.slice A0 x.f0.length c0, .slice A1 x.f1.length c1, .slice A2 x.f2.length c2, .slice A3 x.f3.length c3, .slice A4 x.f4.length c4] 36)).alloc (.cells #[.slice B0 y.f0.length d0, .slice B1 y.f1.length d1, .slice B2 y.f2.length d2, .slice B3 y.f3.length d3, .slice B4 y.f4.length d4] 36) := ⟨_, rfl⟩
  rw [← hW] at hb0 bP bQ HA0 HB0 HA1 HB1 HA2 HB2 HA3 HB3 HA4 HB4
  have HW := Aside0.mk hW
  have HX := Aside0.mk hb0
  clear hb0 hW
  have p0 := (blk_cell bP 0).trans rfl
  have q0 := (blk_cell bQ 0).trans rfl
  have p1 := (blk_cell bP 1).trans rfl
  have q1 := (blk_cell bQ 1).trans rfl
  have p2 := (blk_cell bP 2).trans rfl
  have q2 := (blk_cell bQ 2).trans rfl
  have p3 := (blk_cell bP 3).trans rfl
  have q3 := (blk_cell bQ 3).trans rfl
  have p4 := (blk_cell bP 4).trans rfl
  have q4 := (blk_cell bQ 4).trans rfl
  have HC0 : Aside0 (Below W.heap.size W W) := ⟨Below.refl _ _⟩
  have HV : Aside0 (sameEng x y = ((eqQ sameR x.f0 y.f0) && (eqQ sameGraph x.f1 y.f1) && (eqQ sameEv x.f2 y.f2) && (eqQ sameI x.f3 y.f3) && (eqQ sameFire x.f4 y.f4))) := ⟨by exact sameEng_eq x y⟩
  cases h0 : (eqQ sameR x.f0 y.f0) with
  | false =>
    have HF : Aside0 (sameEng x y = false) := ⟨by rw [HV.out, h0]; simp⟩
    have HE0 := Aside0.mk h0
    clear h0
    go_enter Try.func7, Try.ntmps7
    go_upto_region 1 with fail
    rw [← HW.out]
    go_wp2_with (go_at_call 23; refine (rulesSame_any A0 B0 c0 d0 x.f0 y.f0 _ (HA0.out.below HC0.out) (HB0.out.below HC0.out) ).mono ?_; rintro e w1 ⟨rfl, hb1⟩; rw [HE0.out]; have p1_0 := pw_cell_below hb1 p0; have q1_0 := pw_cell_below hb1 q0; have p1_1 := pw_cell_below hb1 p1; have q1_1 := pw_cell_below hb1 q1; have p1_2 := pw_cell_below hb1 p2; have q1_2 := pw_cell_below hb1 q2; have p1_3 := pw_cell_below hb1 p3; have q1_3 := pw_cell_below hb1 q3; have p1_4 := pw_cell_below hb1 p4; have q1_4 := pw_cell_below hb1 q4; have HC1 := Aside0.mk (below_then HC0.out HC0.out.size hb1); clear hb1)
    go_ret
    exact ⟨ret_bool HF.out.symm, below_then HX.out HX.out.size HC1.out⟩
  | true =>
  cases h1 : (eqQ sameGraph x.f1 y.f1) with
  | false =>
    have HF : Aside0 (sameEng x y = false) := ⟨by rw [HV.out, h0, h1]; simp⟩
    have HE0 := Aside0.mk h0
    clear h0
    have HE1 := Aside0.mk h1
    clear h1
    go_enter Try.func7, Try.ntmps7
    go_upto_region 1 with fail
    rw [← HW.out]
    go_wp2_with (first | (go_at_call 24; refine (equalFGraph_of sameGraph A1 B1 c1 d1 x.f1 y.f1 _ (HA1.out.below HC1.out) (HB1.out.below HC1.out) (fun x _ y _ => graphSame_any x y)).mono ?_; rintro e w2 ⟨rfl, hb2⟩; rw [HE1.out]; have p2_0 := pw_cell_below hb2 p1_0; have q2_0 := pw_cell_below hb2 q1_0; have p2_1 := pw_cell_below hb2 p1_1; have q2_1 := pw_cell_below hb2 q1_1; have p2_2 := pw_cell_below hb2 p1_2; have q2_2 := pw_cell_below hb2 q1_2; have p2_3 := pw_cell_below hb2 p1_3; have q2_3 := pw_cell_below hb2 q1_3; have p2_4 := pw_cell_below hb2 p1_4; have q2_4 := pw_cell_below hb2 q1_4; have HC2 := Aside0.mk (below_then HC1.out HC1.out.size hb2); clear hb2) | (go_at_call 23; refine (rulesSame_any A0 B0 c0 d0 x.f0 y.f0 _ (HA0.out.below HC0.out) (HB0.out.below HC0.out) ).mono ?_; rintro e w1 ⟨rfl, hb1⟩; rw [HE0.out]; have p1_0 := pw_cell_below hb1 p0; have q1_0 := pw_cell_below hb1 q0; have p1_1 := pw_cell_below hb1 p1; have q1_1 := pw_cell_below hb1 q1; have p1_2 := pw_cell_below hb1 p2; have q1_2 := pw_cell_below hb1 q2; have p1_3 := pw_cell_below hb1 p3; have q1_3 := pw_cell_below hb1 q3; have p1_4 := pw_cell_below hb1 p4; have q1_4 := pw_cell_below hb1 q4; have HC1 := Aside0.mk (below_then HC0.out HC0.out.size hb1); clear hb1))
    go_ret
    exact ⟨ret_bool HF.out.symm, below_then HX.out HX.out.size HC2.out⟩
  | true =>
  cases h2 : (eqQ sameEv x.f2 y.f2) with
  | false =>
    have HF : Aside0 (sameEng x y = false) := ⟨by rw [HV.out, h0, h1, h2]; simp⟩
    have HE0 := Aside0.mk h0
    clear h0
    have HE1 := Aside0.mk h1
    clear h1
    have HE2 := Aside0.mk h2
    clear h2
    go_enter Try.func7, Try.ntmps7
    go_upto_region 1 with fail
    rw [← HW.out]
    go_wp2_with (first | (go_at_call 26; refine (evsSame_any A2 B2 c2 d2 x.f2 y.f2 _ (HA2.out.below HC2.out) (HB2.out.below HC2.out) ).mono ?_; rintro e w3 ⟨rfl, hb3⟩; rw [HE2.out]; have p3_0 := pw_cell_below hb3 p2_0; have q3_0 := pw_cell_below hb3 q2_0; have p3_1 := pw_cell_below hb3 p2_1; have q3_1 := pw_cell_below hb3 q2_1; have p3_2 := pw_cell_below hb3 p2_2; have q3_2 := pw_cell_below hb3 q2_2; have p3_3 := pw_cell_below hb3 p2_3; have q3_3 := pw_cell_below hb3 q2_3; have p3_4 := pw_cell_below hb3 p2_4; have q3_4 := pw_cell_below hb3 q2_4; have HC3 := Aside0.mk (below_then HC2.out HC2.out.size hb3); clear hb3) | (go_at_call 24; refine (equalFGraph_of sameGraph A1 B1 c1 d1 x.f1 y.f1 _ (HA1.out.below HC1.out) (HB1.out.below HC1.out) (fun x _ y _ => graphSame_any x y)).mono ?_; rintro e w2 ⟨rfl, hb2⟩; rw [HE1.out]; have p2_0 := pw_cell_below hb2 p1_0; have q2_0 := pw_cell_below hb2 q1_0; have p2_1 := pw_cell_below hb2 p1_1; have q2_1 := pw_cell_below hb2 q1_1; have p2_2 := pw_cell_below hb2 p1_2; have q2_2 := pw_cell_below hb2 q1_2; have p2_3 := pw_cell_below hb2 p1_3; have q2_3 := pw_cell_below hb2 q1_3; have p2_4 := pw_cell_below hb2 p1_4; have q2_4 := pw_cell_below hb2 q1_4; have HC2 := Aside0.mk (below_then HC1.out HC1.out.size hb2); clear hb2) | (go_at_call 23; refine (rulesSame_any A0 B0 c0 d0 x.f0 y.f0 _ (HA0.out.below HC0.out) (HB0.out.below HC0.out) ).mono ?_; rintro e w1 ⟨rfl, hb1⟩; rw [HE0.out]; have p1_0 := pw_cell_below hb1 p0; have q1_0 := pw_cell_below hb1 q0; have p1_1 := pw_cell_below hb1 p1; have q1_1 := pw_cell_below hb1 q1; have p1_2 := pw_cell_below hb1 p2; have q1_2 := pw_cell_below hb1 q2; have p1_3 := pw_cell_below hb1 p3; have q1_3 := pw_cell_below hb1 q3; have p1_4 := pw_cell_below hb1 p4; have q1_4 := pw_cell_below hb1 q4; have HC1 := Aside0.mk (below_then HC0.out HC0.out.size hb1); clear hb1))
    go_ret
    exact ⟨ret_bool HF.out.symm, below_then HX.out HX.out.size HC3.out⟩
  | true =>
  cases h3 : (eqQ sameI x.f3 y.f3) with
  | false =>
    have HF : Aside0 (sameEng x y = false) := ⟨by rw [HV.out, h0, h1, h2, h3]; simp⟩
    have HE0 := Aside0.mk h0
    clear h0
    have HE1 := Aside0.mk h1
    clear h1
    have HE2 := Aside0.mk h2
    clear h2
    have HE3 := Aside0.mk h3
    clear h3
    go_enter Try.func7, Try.ntmps7
    go_upto_region 1 with fail
    rw [← HW.out]
    go_wp2_with (first | (go_at_call 27; refine (intsEqual_any A3 B3 c3 d3 x.f3 y.f3 _ (HA3.out.below HC3.out) (HB3.out.below HC3.out) ).mono ?_; rintro e w4 ⟨rfl, hb4⟩; rw [HE3.out]; have p4_0 := pw_cell_below hb4 p3_0; have q4_0 := pw_cell_below hb4 q3_0; have p4_1 := pw_cell_below hb4 p3_1; have q4_1 := pw_cell_below hb4 q3_1; have p4_2 := pw_cell_below hb4 p3_2; have q4_2 := pw_cell_below hb4 q3_2; have p4_3 := pw_cell_below hb4 p3_3; have q4_3 := pw_cell_below hb4 q3_3; have p4_4 := pw_cell_below hb4 p3_4; have q4_4 := pw_cell_below hb4 q3_4; have HC4 := Aside0.mk (below_then HC3.out HC3.out.size hb4); clear hb4) | (go_at_call 26; refine (evsSame_any A2 B2 c2 d2 x.f2 y.f2 _ (HA2.out.below HC2.out) (HB2.out.below HC2.out) ).mono ?_; rintro e w3 ⟨rfl, hb3⟩; rw [HE2.out]; have p3_0 := pw_cell_below hb3 p2_0; have q3_0 := pw_cell_below hb3 q2_0; have p3_1 := pw_cell_below hb3 p2_1; have q3_1 := pw_cell_below hb3 q2_1; have p3_2 := pw_cell_below hb3 p2_2; have q3_2 := pw_cell_below hb3 q2_2; have p3_3 := pw_cell_below hb3 p2_3; have q3_3 := pw_cell_below hb3 q2_3; have p3_4 := pw_cell_below hb3 p2_4; have q3_4 := pw_cell_below hb3 q2_4; have HC3 := Aside0.mk (below_then HC2.out HC2.out.size hb3); clear hb3) | (go_at_call 24; refine (equalFGraph_of sameGraph A1 B1 c1 d1 x.f1 y.f1 _ (HA1.out.below HC1.out) (HB1.out.below HC1.out) (fun x _ y _ => graphSame_any x y)).mono ?_; rintro e w2 ⟨rfl, hb2⟩; rw [HE1.out]; have p2_0 := pw_cell_below hb2 p1_0; have q2_0 := pw_cell_below hb2 q1_0; have p2_1 := pw_cell_below hb2 p1_1; have q2_1 := pw_cell_below hb2 q1_1; have p2_2 := pw_cell_below hb2 p1_2; have q2_2 := pw_cell_below hb2 q1_2; have p2_3 := pw_cell_below hb2 p1_3; have q2_3 := pw_cell_below hb2 q1_3; have p2_4 := pw_cell_below hb2 p1_4; have q2_4 := pw_cell_below hb2 q1_4; have HC2 := Aside0.mk (below_then HC1.out HC1.out.size hb2); clear hb2) | (go_at_call 23; refine (rulesSame_any A0 B0 c0 d0 x.f0 y.f0 _ (HA0.out.below HC0.out) (HB0.out.below HC0.out) ).mono ?_; rintro e w1 ⟨rfl, hb1⟩; rw [HE0.out]; have p1_0 := pw_cell_below hb1 p0; have q1_0 := pw_cell_below hb1 q0; have p1_1 := pw_cell_below hb1 p1; have q1_1 := pw_cell_below hb1 q1; have p1_2 := pw_cell_below hb1 p2; have q1_2 := pw_cell_below hb1 q2; have p1_3 := pw_cell_below hb1 p3; have q1_3 := pw_cell_below hb1 q3; have p1_4 := pw_cell_below hb1 p4; have q1_4 := pw_cell_below hb1 q4; have HC1 := Aside0.mk (below_then HC0.out HC0.out.size hb1); clear hb1))
    go_ret
    exact ⟨ret_bool HF.out.symm, below_then HX.out HX.out.size HC4.out⟩
  | true =>
  cases h4 : (eqQ sameFire x.f4 y.f4) with
  | false =>
    have HF : Aside0 (sameEng x y = false) := ⟨by rw [HV.out, h0, h1, h2, h3, h4]; simp⟩
    have HE0 := Aside0.mk h0
    clear h0
    have HE1 := Aside0.mk h1
    clear h1
    have HE2 := Aside0.mk h2
    clear h2
    have HE3 := Aside0.mk h3
    clear h3
    have HE4 := Aside0.mk h4
    clear h4
    go_enter Try.func7, Try.ntmps7
    go_upto_region 1 with fail
    rw [← HW.out]
    go_wp2_with (first | (go_at_call 28; refine (equalFFire_of sameFire A4 B4 c4 d4 x.f4 y.f4 _ (HA4.out.below HC4.out) (HB4.out.below HC4.out) (fun x _ y _ => fireSame_any x y)).mono ?_; rintro e w5 ⟨rfl, hb5⟩; rw [HE4.out]; have p5_0 := pw_cell_below hb5 p4_0; have q5_0 := pw_cell_below hb5 q4_0; have p5_1 := pw_cell_below hb5 p4_1; have q5_1 := pw_cell_below hb5 q4_1; have p5_2 := pw_cell_below hb5 p4_2; have q5_2 := pw_cell_below hb5 q4_2; have p5_3 := pw_cell_below hb5 p4_3; have q5_3 := pw_cell_below hb5 q4_3; have p5_4 := pw_cell_below hb5 p4_4; have q5_4 := pw_cell_below hb5 q4_4; have HC5 := Aside0.mk (below_then HC4.out HC4.out.size hb5); clear hb5) | (go_at_call 27; refine (intsEqual_any A3 B3 c3 d3 x.f3 y.f3 _ (HA3.out.below HC3.out) (HB3.out.below HC3.out) ).mono ?_; rintro e w4 ⟨rfl, hb4⟩; rw [HE3.out]; have p4_0 := pw_cell_below hb4 p3_0; have q4_0 := pw_cell_below hb4 q3_0; have p4_1 := pw_cell_below hb4 p3_1; have q4_1 := pw_cell_below hb4 q3_1; have p4_2 := pw_cell_below hb4 p3_2; have q4_2 := pw_cell_below hb4 q3_2; have p4_3 := pw_cell_below hb4 p3_3; have q4_3 := pw_cell_below hb4 q3_3; have p4_4 := pw_cell_below hb4 p3_4; have q4_4 := pw_cell_below hb4 q3_4; have HC4 := Aside0.mk (below_then HC3.out HC3.out.size hb4); clear hb4) | (go_at_call 26; refine (evsSame_any A2 B2 c2 d2 x.f2 y.f2 _ (HA2.out.below HC2.out) (HB2.out.below HC2.out) ).mono ?_; rintro e w3 ⟨rfl, hb3⟩; rw [HE2.out]; have p3_0 := pw_cell_below hb3 p2_0; have q3_0 := pw_cell_below hb3 q2_0; have p3_1 := pw_cell_below hb3 p2_1; have q3_1 := pw_cell_below hb3 q2_1; have p3_2 := pw_cell_below hb3 p2_2; have q3_2 := pw_cell_below hb3 q2_2; have p3_3 := pw_cell_below hb3 p2_3; have q3_3 := pw_cell_below hb3 q2_3; have p3_4 := pw_cell_below hb3 p2_4; have q3_4 := pw_cell_below hb3 q2_4; have HC3 := Aside0.mk (below_then HC2.out HC2.out.size hb3); clear hb3) | (go_at_call 24; refine (equalFGraph_of sameGraph A1 B1 c1 d1 x.f1 y.f1 _ (HA1.out.below HC1.out) (HB1.out.below HC1.out) (fun x _ y _ => graphSame_any x y)).mono ?_; rintro e w2 ⟨rfl, hb2⟩; rw [HE1.out]; have p2_0 := pw_cell_below hb2 p1_0; have q2_0 := pw_cell_below hb2 q1_0; have p2_1 := pw_cell_below hb2 p1_1; have q2_1 := pw_cell_below hb2 q1_1; have p2_2 := pw_cell_below hb2 p1_2; have q2_2 := pw_cell_below hb2 q1_2; have p2_3 := pw_cell_below hb2 p1_3; have q2_3 := pw_cell_below hb2 q1_3; have p2_4 := pw_cell_below hb2 p1_4; have q2_4 := pw_cell_below hb2 q1_4; have HC2 := Aside0.mk (below_then HC1.out HC1.out.size hb2); clear hb2) | (go_at_call 23; refine (rulesSame_any A0 B0 c0 d0 x.f0 y.f0 _ (HA0.out.below HC0.out) (HB0.out.below HC0.out) ).mono ?_; rintro e w1 ⟨rfl, hb1⟩; rw [HE0.out]; have p1_0 := pw_cell_below hb1 p0; have q1_0 := pw_cell_below hb1 q0; have p1_1 := pw_cell_below hb1 p1; have q1_1 := pw_cell_below hb1 q1; have p1_2 := pw_cell_below hb1 p2; have q1_2 := pw_cell_below hb1 q2; have p1_3 := pw_cell_below hb1 p3; have q1_3 := pw_cell_below hb1 q3; have p1_4 := pw_cell_below hb1 p4; have q1_4 := pw_cell_below hb1 q4; have HC1 := Aside0.mk (below_then HC0.out HC0.out.size hb1); clear hb1))
    go_ret
    exact ⟨ret_bool HF.out.symm, below_then HX.out HX.out.size HC5.out⟩
  | true =>
  have HF : Aside0 (sameEng x y = true) := ⟨by rw [HV.out, h0, h1, h2, h3, h4]; simp⟩
  have HE0 := Aside0.mk h0
  clear h0
  have HE1 := Aside0.mk h1
  clear h1
  have HE2 := Aside0.mk h2
  clear h2
  have HE3 := Aside0.mk h3
  clear h3
  have HE4 := Aside0.mk h4
  clear h4
  go_enter Try.func7, Try.ntmps7
  go_upto_region 1 with fail
  rw [← HW.out]
  go_wp2_with (first | (go_at_call 28; refine (equalFFire_of sameFire A4 B4 c4 d4 x.f4 y.f4 _ (HA4.out.below HC4.out) (HB4.out.below HC4.out) (fun x _ y _ => fireSame_any x y)).mono ?_; rintro e w5 ⟨rfl, hb5⟩; rw [HE4.out]; have p5_0 := pw_cell_below hb5 p4_0; have q5_0 := pw_cell_below hb5 q4_0; have p5_1 := pw_cell_below hb5 p4_1; have q5_1 := pw_cell_below hb5 q4_1; have p5_2 := pw_cell_below hb5 p4_2; have q5_2 := pw_cell_below hb5 q4_2; have p5_3 := pw_cell_below hb5 p4_3; have q5_3 := pw_cell_below hb5 q4_3; have p5_4 := pw_cell_below hb5 p4_4; have q5_4 := pw_cell_below hb5 q4_4; have HC5 := Aside0.mk (below_then HC4.out HC4.out.size hb5); clear hb5) | (go_at_call 27; refine (intsEqual_any A3 B3 c3 d3 x.f3 y.f3 _ (HA3.out.below HC3.out) (HB3.out.below HC3.out) ).mono ?_; rintro e w4 ⟨rfl, hb4⟩; rw [HE3.out]; have p4_0 := pw_cell_below hb4 p3_0; have q4_0 := pw_cell_below hb4 q3_0; have p4_1 := pw_cell_below hb4 p3_1; have q4_1 := pw_cell_below hb4 q3_1; have p4_2 := pw_cell_below hb4 p3_2; have q4_2 := pw_cell_below hb4 q3_2; have p4_3 := pw_cell_below hb4 p3_3; have q4_3 := pw_cell_below hb4 q3_3; have p4_4 := pw_cell_below hb4 p3_4; have q4_4 := pw_cell_below hb4 q3_4; have HC4 := Aside0.mk (below_then HC3.out HC3.out.size hb4); clear hb4) | (go_at_call 26; refine (evsSame_any A2 B2 c2 d2 x.f2 y.f2 _ (HA2.out.below HC2.out) (HB2.out.below HC2.out) ).mono ?_; rintro e w3 ⟨rfl, hb3⟩; rw [HE2.out]; have p3_0 := pw_cell_below hb3 p2_0; have q3_0 := pw_cell_below hb3 q2_0; have p3_1 := pw_cell_below hb3 p2_1; have q3_1 := pw_cell_below hb3 q2_1; have p3_2 := pw_cell_below hb3 p2_2; have q3_2 := pw_cell_below hb3 q2_2; have p3_3 := pw_cell_below hb3 p2_3; have q3_3 := pw_cell_below hb3 q2_3; have p3_4 := pw_cell_below hb3 p2_4; have q3_4 := pw_cell_below hb3 q2_4; have HC3 := Aside0.mk (below_then HC2.out HC2.out.size hb3); clear hb3) | (go_at_call 24; refine (equalFGraph_of sameGraph A1 B1 c1 d1 x.f1 y.f1 _ (HA1.out.below HC1.out) (HB1.out.below HC1.out) (fun x _ y _ => graphSame_any x y)).mono ?_; rintro e w2 ⟨rfl, hb2⟩; rw [HE1.out]; have p2_0 := pw_cell_below hb2 p1_0; have q2_0 := pw_cell_below hb2 q1_0; have p2_1 := pw_cell_below hb2 p1_1; have q2_1 := pw_cell_below hb2 q1_1; have p2_2 := pw_cell_below hb2 p1_2; have q2_2 := pw_cell_below hb2 q1_2; have p2_3 := pw_cell_below hb2 p1_3; have q2_3 := pw_cell_below hb2 q1_3; have p2_4 := pw_cell_below hb2 p1_4; have q2_4 := pw_cell_below hb2 q1_4; have HC2 := Aside0.mk (below_then HC1.out HC1.out.size hb2); clear hb2) | (go_at_call 23; refine (rulesSame_any A0 B0 c0 d0 x.f0 y.f0 _ (HA0.out.below HC0.out) (HB0.out.below HC0.out) ).mono ?_; rintro e w1 ⟨rfl, hb1⟩; rw [HE0.out]; have p1_0 := pw_cell_below hb1 p0; have q1_0 := pw_cell_below hb1 q0; have p1_1 := pw_cell_below hb1 p1; have q1_1 := pw_cell_below hb1 q1; have p1_2 := pw_cell_below hb1 p2; have q1_2 := pw_cell_below hb1 q2; have p1_3 := pw_cell_below hb1 p3; have q1_3 := pw_cell_below hb1 q3; have p1_4 := pw_cell_below hb1 p4; have q1_4 := pw_cell_below hb1 q4; have HC1 := Aside0.mk (below_then HC0.out HC0.out.size hb1); clear hb1))
  go_ret
  exact ⟨ret_bool HF.out.symm, below_then HX.out HX.out.size HC5.out⟩
end Go.Proofs.Ytbbdkhffacoglaa.Kk
