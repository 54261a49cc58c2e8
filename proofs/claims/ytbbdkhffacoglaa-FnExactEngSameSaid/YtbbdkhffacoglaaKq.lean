
/- Are two nodes one, two graphs, two engines: the reference's. Printed by genKq.py. -/
import Derived.Test.YtbbdkhffacoglaaKp
set_option linter.unusedVariables false
set_option linter.unusedSimpArgs false
namespace Go.Proofs.Ytbbdkhffacoglaa.Kq
open Go.RowKit Go.Proofs.YtbbdkhffacoglaaW.PrintWords Go.Proofs.Ytbbdkhffacoglaa.Ja Go.Proofs.Ytbbdkhffacoglaa.Jb Go.Proofs.Ytbbdkhffacoglaa.Jc Go.Proofs.Ytbbdkhffacoglaa.Jd Go.Proofs.Ytbbdkhffacoglaa.Ka Go.Proofs.Ytbbdkhffacoglaa.Ke Go.Proofs.Ytbbdkhffacoglaa.Kf Go.Proofs.Ytbbdkhffacoglaa.Kg Go.Proofs.Ytbbdkhffacoglaa.Kh Go.Proofs.Ytbbdkhffacoglaa.Ki Go.Proofs.Ytbbdkhffacoglaa.Kj Go.Proofs.Ytbbdkhffacoglaa.Kk Go.Proofs.Ytbbdkhffacoglaa.Kl Go.Proofs.Ytbbdkhffacoglaa.Km Go.Proofs.Ytbbdkhffacoglaa.Kn Go.Proofs.Ytbbdkhffacoglaa.Ko Go.Proofs.Ytbbdkhffacoglaa.Kp
set_option maxHeartbeats 8000000 in
set_option maxRecDepth 100000 in
theorem l7Same_any (x y : TNode) (A3 : Option Addr) (c3 : Nat) (A4 : Option Addr) (c4 : Nat) (A5 : Option Addr) (c5 : Nat) (A6 : Option Addr) (c6 : Nat) (A7 : Option Addr) (c7 : Nat) (A8 : Option Addr) (c8 : Nat) (B3 : Option Addr) (d3 : Nat) (B4 : Option Addr) (d4 : Nat) (B5 : Option Addr) (d5 : Nat) (B6 : Option Addr) (d6 : Nat) (B7 : Option Addr) (d7 : Nat) (B8 : Option Addr) (d8 : Nat) (w : World) (hA3 : IsS (Kd.int .i64) w x.f3 A3 c3) (hA4 : IsS kOcc w x.f4.f0 A4 c4) (hA5 : IsS kOcc w x.f4.f1 A5 c5) (hA6 : IsS kOcc w x.f5.f0 A6 c6) (hA7 : IsS kOcc w x.f5.f1 A7 c7) (hA8 : IsS kOcc w x.f6 A8 c8) (hB3 : IsS (Kd.int .i64) w y.f3 B3 d3) (hB4 : IsS kOcc w y.f4.f0 B4 d4) (hB5 : IsS kOcc w y.f4.f1 B5 d5) (hB6 : IsS kOcc w y.f5.f0 B6 d6) (hB7 : IsS kOcc w y.f5.f1 B7 d7) (hB8 : IsS kOcc w y.f6 B8 d8) :
    Calls Try.prog 41 #[.agg #[.int .i64 x.f0, .int .i64 x.f1, .int .i64 x.f2, .slice A3 x.f3.length c3, .slice A4 x.f4.f0.length c4, .slice A5 x.f4.f1.length c5, .slice A6 x.f5.f0.length c6, .slice A7 x.f5.f1.length c7, .slice A8 x.f6.length c8, .int .i64 x.f7], .agg #[.int .i64 y.f0, .int .i64 y.f1, .int .i64 y.f2, .slice B3 y.f3.length d3, .slice B4 y.f4.f0.length d4, .slice B5 y.f4.f1.length d5, .slice B6 y.f5.f0.length d6, .slice B7 y.f5.f1.length d7, .slice B8 y.f6.length d8, .int .i64 y.f7]] w fun e w' => e = .returned (.bool (sameNode x y)) ∧ Below w.heap.size w w' := by
  obtain ⟨hb0, bP, bQ⟩ := boxes2 w #[.int .i64 x.f0, .int .i64 x.f1, .int .i64 x.f2, .slice A3 x.f3.length c3, .slice A4 x.f4.f0.length c4, .slice A5 x.f4.f1.length c5, .slice A6 x.f5.f0.length c6, .slice A7 x.f5.f1.length c7, .slice A8 x.f6.length c8, .int .i64 x.f7] #[.int .i64 y.f0, .int .i64 y.f1, .int .i64 y.f2, .slice B3 y.f3.length d3, .slice B4 y.f4.f0.length d4, .slice B5 y.f4.f1.length d5, .slice B6 y.f5.f0.length d6, .slice B7 y.f5.f1.length d7, .slice B8 y.f6.length d8, .int .i64 y.f7] 96 96
  have hna3 := hA3.len
  have hnb3 := hB3.len
  have HA3 := Aside0.mk (hA3.below hb0)
  have HB3 := Aside0.mk (hB3.below hb0)
  have hna4 := hA4.len
  have hnb4 := hB4.len
  have HA4 := Aside0.mk (hA4.below hb0)
  have HB4 := Aside0.mk (hB4.below hb0)
  have hna5 := hA5.len
  have hnb5 := hB5.len
  have HA5 := Aside0.mk (hA5.below hb0)
  have HB5 := Aside0.mk (hB5.below hb0)
  have hna6 := hA6.len
  have hnb6 := hB6.len
  have HA6 := Aside0.mk (hA6.below hb0)
  have HB6 := Aside0.mk (hB6.below hb0)
  have hna7 := hA7.len
  have hnb7 := hB7.len
  have HA7 := Aside0.mk (hA7.below hb0)
  have HB7 := Aside0.mk (hB7.below hb0)
  have hna8 := hA8.len
  have hnb8 := hB8.len
  have HA8 := Aside0.mk (hA8.below hb0)
  have HB8 := Aside0.mk (hB8.below hb0)
  clear hA3 hB3 hA4 hB4 hA5 hB5 hA6 hB6 hA7 hB7 hA8 hB8
  obtain ⟨W, hW⟩ : ∃ W, W = (w.alloc (.cells #[.int .i64 x.f0, .int .i64 x.f1, .int .i64 x.f2, .slice A3 x.f3.length c3, .slice A4 x.f4.f0.length c4, .slice A5 x.f4.f1.length c5, .slice A6 x.f5.f0.length c6, .slice A7 x.f5.f1.length c7, .slice A8 x.f6.length c8, .int .i64 x.f7] 96)).alloc (.cells #[.int .i64 y.f0, .int .i64 y.f1, .int .i64 y.f2, .slice B3 y.f3.length d3, .slice B4 y.f4.f0.length d4, .slice B5 y.f4.f1.length d5, .slice B6 y.f5.f0.length d6, .slice B7 y.f5.f1.length d7, .slice B8 y.f6.length d8, .int .i64 y.f7] 96) := ⟨_, rfl⟩
  rw [← hW] at hb0 bP bQ HA3 HB3 HA4 HB4 HA5 HB5 HA6 HB6 HA7 HB7 HA8 HB8
  have HW := Aside0.mk hW
  have HX := Aside0.mk hb0
  clear hb0 hW
  have p0 := (blk_cell bP 0).trans rfl
  have q0 := (blk_cell bQ 0).trans rfl
  have p1 := (blk_cell bP 1).trans rfl
  have q1 := (blk_cell bQ 1).trans rfl
  have p2 := (blk_cell bP 2).trans rfl
  have q2 := (blk_cell bQ 2).trans rfl
  have p3 := (blk_cell bP 3).trans rfl
  have q3 := (blk_cell bQ 3).trans rfl
  have p4 := (blk_cell bP 4).trans rfl
  have q4 := (blk_cell bQ 4).trans rfl
  have p5 := (blk_cell bP 5).trans rfl
  have q5 := (blk_cell bQ 5).trans rfl
  have p6 := (blk_cell bP 6).trans rfl
  have q6 := (blk_cell bQ 6).trans rfl
  have p7 := (blk_cell bP 7).trans rfl
  have q7 := (blk_cell bQ 7).trans rfl
  have p8 := (blk_cell bP 8).trans rfl
  have q8 := (blk_cell bQ 8).trans rfl
  have p9 := (blk_cell bP 9).trans rfl
  have q9 := (blk_cell bQ 9).trans rfl
  have BP := Aside0.mk bP
  have BQ := Aside0.mk bQ
  clear bP bQ
  have HC0 : Aside0 (Below W.heap.size W W) := ⟨Below.refl _ _⟩
  cases h0 : (x.f0 == y.f0) with
  | false =>
    have n0 : (x.f0 != y.f0) = true := by rw [bne, h0]; rfl
    have HF : Aside0 (sameNode x y = false) := ⟨by unfold sameNode; rw [h0]; simp⟩
    clear h0
    go_enter Try.func41, Try.ntmps41
    go_upto_region 1 with fail
    rw [← HW.out]
    go_wp2
    go_ret
    exact ⟨ret_bool HF.out.symm, below_then HX.out HX.out.size HC0.out⟩
  | true =>
  have n0 : (x.f0 != y.f0) = false := by rw [bne, h0]; rfl
  have HE0 := Aside0.mk h0
  clear h0
  cases h1 : (x.f1 == y.f1) with
  | false =>
    have n1 : (x.f1 != y.f1) = true := by rw [bne, h1]; rfl
    have HF : Aside0 (sameNode x y = false) := ⟨by unfold sameNode; rw [h1]; simp⟩
    clear h1
    go_enter Try.func41, Try.ntmps41
    go_upto_region 1 with fail
    rw [← HW.out]
    go_wp2
    go_ret
    exact ⟨ret_bool HF.out.symm, below_then HX.out HX.out.size HC0.out⟩
  | true =>
  have n1 : (x.f1 != y.f1) = false := by rw [bne, h1]; rfl
  have HE1 := Aside0.mk h1
  clear h1
  cases h2 : (x.f2 == y.f2) with
  | false =>
    have n2 : (x.f2 != y.f2) = true := by rw [bne, h2]; rfl
    have HF : Aside0 (sameNode x y = false) := ⟨by unfold sameNode; rw [h2]; simp⟩
    clear h2
    go_enter Try.func41, Try.ntmps41
    go_upto_region 1 with fail
    rw [← HW.out]
    go_wp2
    go_ret
    exact ⟨ret_bool HF.out.symm, below_then HX.out HX.out.size HC0.out⟩
  | true =>
  have n2 : (x.f2 != y.f2) = false := by rw [bne, h2]; rfl
  have HE2 := Aside0.mk h2
  clear h2
  cases h3 : (x.f7 == y.f7) with
  | false =>
    have n3 : (x.f7 != y.f7) = true := by rw [bne, h3]; rfl
    have HF : Aside0 (sameNode x y = false) := ⟨by unfold sameNode; rw [h3]; simp⟩
    clear h3
    go_enter Try.func41, Try.ntmps41
    go_upto_region 1 with fail
    rw [← HW.out]
    go_wp2
    go_ret
    exact ⟨ret_bool HF.out.symm, below_then HX.out HX.out.size HC0.out⟩
  | true =>
  have n3 : (x.f7 != y.f7) = false := by rw [bne, h3]; rfl
  have HE3 := Aside0.mk h3
  clear h3
  rcases Decidable.em (x.f3.length = y.f3.length) with h4 | h4
  rotate_left
  · skip
    have n4 : ((x.f3.length : Int) != (y.f3.length : Int)) = true := by simp; omega
    have HF : Aside0 (sameNode x y = false) := ⟨by unfold sameNode; rw [eqQ_len sameI x.f3 y.f3 h4]; simp⟩
    clear h4
    go_enter Try.func41, Try.ntmps41
    go_upto_region 1 with fail
    rw [← HW.out]
    go_wp2
    go_ret
    exact ⟨ret_bool HF.out.symm, below_then HX.out HX.out.size HC0.out⟩
  have n4 : ((x.f3.length : Int) != (y.f3.length : Int)) = false := by simp [h4]
  have HE4 := Aside0.mk h4
  clear h4
  cases h5 : (samePair x.f4 y.f4) with
  | false =>
    have HF : Aside0 (sameNode x y = false) := ⟨by unfold sameNode; rw [h5]; simp⟩
    have HE5 := Aside0.mk h5
    clear h5
    go_enter Try.func41, Try.ntmps41
    go_upto_region 1 with fail
    rw [← HW.out]
    go_wp2_with (go_at_call 66; refine (sPairSame_any x.f4 y.f4 A4 c4 A5 c5 B4 d4 B5 d5 _ (HA4.out.below HC0.out) (HA5.out.below HC0.out) (HB4.out.below HC0.out) (HB5.out.below HC0.out) ).mono ?_; rintro e w1 ⟨rfl, hb1⟩; rw [HE5.out]; have p1_0 := pw_cell_below hb1 p0; have q1_0 := pw_cell_below hb1 q0; have p1_1 := pw_cell_below hb1 p1; have q1_1 := pw_cell_below hb1 q1; have p1_2 := pw_cell_below hb1 p2; have q1_2 := pw_cell_below hb1 q2; have p1_3 := pw_cell_below hb1 p3; have q1_3 := pw_cell_below hb1 q3; have p1_4 := pw_cell_below hb1 p4; have q1_4 := pw_cell_below hb1 q4; have p1_5 := pw_cell_below hb1 p5; have q1_5 := pw_cell_below hb1 q5; have p1_6 := pw_cell_below hb1 p6; have q1_6 := pw_cell_below hb1 q6; have p1_7 := pw_cell_below hb1 p7; have q1_7 := pw_cell_below hb1 q7; have p1_8 := pw_cell_below hb1 p8; have q1_8 := pw_cell_below hb1 q8; have p1_9 := pw_cell_below hb1 p9; have q1_9 := pw_cell_below hb1 q9; have HC1 := Aside0.mk (below_then HC0.out HC0.out.size hb1); clear hb1)
    go_ret
    exact ⟨ret_bool HF.out.symm, below_then HX.out HX.out.size HC1.out⟩
  | true =>
  have HE5 := Aside0.mk h5
  clear h5
  cases h6 : (sameSpan x.f5 y.f5) with
  | false =>
    have HF : Aside0 (sameNode x y = false) := ⟨by unfold sameNode; rw [h6]; simp⟩
    have HE6 := Aside0.mk h6
    clear h6
    go_enter Try.func41, Try.ntmps41
    go_upto_region 1 with fail
    rw [← HW.out]
    go_wp2_with (first | (go_at_call 67; refine (sSpanSame_any x.f5 y.f5 A6 c6 A7 c7 B6 d6 B7 d7 _ (HA6.out.below HC1.out) (HA7.out.below HC1.out) (HB6.out.below HC1.out) (HB7.out.below HC1.out) ).mono ?_; rintro e w2 ⟨rfl, hb2⟩; rw [HE6.out]; have p2_0 := pw_cell_below hb2 p1_0; have q2_0 := pw_cell_below hb2 q1_0; have p2_1 := pw_cell_below hb2 p1_1; have q2_1 := pw_cell_below hb2 q1_1; have p2_2 := pw_cell_below hb2 p1_2; have q2_2 := pw_cell_below hb2 q1_2; have p2_3 := pw_cell_below hb2 p1_3; have q2_3 := pw_cell_below hb2 q1_3; have p2_4 := pw_cell_below hb2 p1_4; have q2_4 := pw_cell_below hb2 q1_4; have p2_5 := pw_cell_below hb2 p1_5; have q2_5 := pw_cell_below hb2 q1_5; have p2_6 := pw_cell_below hb2 p1_6; have q2_6 := pw_cell_below hb2 q1_6; have p2_7 := pw_cell_below hb2 p1_7; have q2_7 := pw_cell_below hb2 q1_7; have p2_8 := pw_cell_below hb2 p1_8; have q2_8 := pw_cell_below hb2 q1_8; have p2_9 := pw_cell_below hb2 p1_9; have q2_9 := pw_cell_below hb2 q1_9; have HC2 := Aside0.mk (below_then HC1.out HC1.out.size hb2); clear hb2) | (go_at_call 66; refine (sPairSame_any x.f4 y.f4 A4 c4 A5 c5 B4 d4 B5 d5 _ (HA4.out.below HC0.out) (HA5.out.below HC0.out) (HB4.out.below HC0.out) (HB5.out.below HC0.out) ).mono ?_; rintro e w1 ⟨rfl, hb1⟩; rw [HE5.out]; have p1_0 := pw_cell_below hb1 p0; have q1_0 := pw_cell_below hb1 q0; have p1_1 := pw_cell_below hb1 p1; have q1_1 := pw_cell_below hb1 q1; have p1_2 := pw_cell_below hb1 p2; have q1_2 := pw_cell_below hb1 q2; have p1_3 := pw_cell_below hb1 p3; have q1_3 := pw_cell_below hb1 q3; have p1_4 := pw_cell_below hb1 p4; have q1_4 := pw_cell_below hb1 q4; have p1_5 := pw_cell_below hb1 p5; have q1_5 := pw_cell_below hb1 q5; have p1_6 := pw_cell_below hb1 p6; have q1_6 := pw_cell_below hb1 q6; have p1_7 := pw_cell_below hb1 p7; have q1_7 := pw_cell_below hb1 q7; have p1_8 := pw_cell_below hb1 p8; have q1_8 := pw_cell_below hb1 q8; have p1_9 := pw_cell_below hb1 p9; have q1_9 := pw_cell_below hb1 q9; have HC1 := Aside0.mk (below_then HC0.out HC0.out.size hb1); clear hb1))
    go_ret
    exact ⟨ret_bool HF.out.symm, below_then HX.out HX.out.size HC2.out⟩
  | true =>
  have HE6 := Aside0.mk h6
  clear h6
  cases h7 : (eqQ sameO x.f6 y.f6) with
  | false =>
    have HF : Aside0 (sameNode x y = false) := ⟨by unfold sameNode; rw [h7]; simp⟩
    have HE7 := Aside0.mk h7
    clear h7
    go_enter Try.func41, Try.ntmps41
    go_upto_region 1 with fail
    rw [← HW.out]
    go_wp2_with (first | (go_at_call 68; refine (sOccsSame_any A8 B8 c8 d8 x.f6 y.f6 _ (HA8.out.below HC2.out) (HB8.out.below HC2.out) ).mono ?_; rintro e w3 ⟨rfl, hb3⟩; rw [HE7.out]; have p3_0 := pw_cell_below hb3 p2_0; have q3_0 := pw_cell_below hb3 q2_0; have p3_1 := pw_cell_below hb3 p2_1; have q3_1 := pw_cell_below hb3 q2_1; have p3_2 := pw_cell_below hb3 p2_2; have q3_2 := pw_cell_below hb3 q2_2; have p3_3 := pw_cell_below hb3 p2_3; have q3_3 := pw_cell_below hb3 q2_3; have p3_4 := pw_cell_below hb3 p2_4; have q3_4 := pw_cell_below hb3 q2_4; have p3_5 := pw_cell_below hb3 p2_5; have q3_5 := pw_cell_below hb3 q2_5; have p3_6 := pw_cell_below hb3 p2_6; have q3_6 := pw_cell_below hb3 q2_6; have p3_7 := pw_cell_below hb3 p2_7; have q3_7 := pw_cell_below hb3 q2_7; have p3_8 := pw_cell_below hb3 p2_8; have q3_8 := pw_cell_below hb3 q2_8; have p3_9 := pw_cell_below hb3 p2_9; have q3_9 := pw_cell_below hb3 q2_9; have HC3 := Aside0.mk (below_then HC2.out HC2.out.size hb3); clear hb3) | (go_at_call 67; refine (sSpanSame_any x.f5 y.f5 A6 c6 A7 c7 B6 d6 B7 d7 _ (HA6.out.below HC1.out) (HA7.out.below HC1.out) (HB6.out.below HC1.out) (HB7.out.below HC1.out) ).mono ?_; rintro e w2 ⟨rfl, hb2⟩; rw [HE6.out]; have p2_0 := pw_cell_below hb2 p1_0; have q2_0 := pw_cell_below hb2 q1_0; have p2_1 := pw_cell_below hb2 p1_1; have q2_1 := pw_cell_below hb2 q1_1; have p2_2 := pw_cell_below hb2 p1_2; have q2_2 := pw_cell_below hb2 q1_2; have p2_3 := pw_cell_below hb2 p1_3; have q2_3 := pw_cell_below hb2 q1_3; have p2_4 := pw_cell_below hb2 p1_4; have q2_4 := pw_cell_below hb2 q1_4; have p2_5 := pw_cell_below hb2 p1_5; have q2_5 := pw_cell_below hb2 q1_5; have p2_6 := pw_cell_below hb2 p1_6; have q2_6 := pw_cell_below hb2 q1_6; have p2_7 := pw_cell_below hb2 p1_7; have q2_7 := pw_cell_below hb2 q1_7; have p2_8 := pw_cell_below hb2 p1_8; have q2_8 := pw_cell_below hb2 q1_8; have p2_9 := pw_cell_below hb2 p1_9; have q2_9 := pw_cell_below hb2 q1_9; have HC2 := Aside0.mk (below_then HC1.out HC1.out.size hb2); clear hb2) | (go_at_call 66; refine (sPairSame_any x.f4 y.f4 A4 c4 A5 c5 B4 d4 B5 d5 _ (HA4.out.below HC0.out) (HA5.out.below HC0.out) (HB4.out.below HC0.out) (HB5.out.below HC0.out) ).mono ?_; rintro e w1 ⟨rfl, hb1⟩; rw [HE5.out]; have p1_0 := pw_cell_below hb1 p0; have q1_0 := pw_cell_below hb1 q0; have p1_1 := pw_cell_below hb1 p1; have q1_1 := pw_cell_below hb1 q1; have p1_2 := pw_cell_below hb1 p2; have q1_2 := pw_cell_below hb1 q2; have p1_3 := pw_cell_below hb1 p3; have q1_3 := pw_cell_below hb1 q3; have p1_4 := pw_cell_below hb1 p4; have q1_4 := pw_cell_below hb1 q4; have p1_5 := pw_cell_below hb1 p5; have q1_5 := pw_cell_below hb1 q5; have p1_6 := pw_cell_below hb1 p6; have q1_6 := pw_cell_below hb1 q6; have p1_7 := pw_cell_below hb1 p7; have q1_7 := pw_cell_below hb1 q7; have p1_8 := pw_cell_below hb1 p8; have q1_8 := pw_cell_below hb1 q8; have p1_9 := pw_cell_below hb1 p9; have q1_9 := pw_cell_below hb1 q9; have HC1 := Aside0.mk (below_then HC0.out HC0.out.size hb1); clear hb1))
    go_ret
    exact ⟨ret_bool HF.out.symm, below_then HX.out HX.out.size HC3.out⟩
  | true =>
  have HE7 := Aside0.mk h7
  clear h7
  go_enter Try.func41, Try.ntmps41
  go_upto_region 1 with fail
  rw [← HW.out]
  go_wp2_with (first | (go_at_call 68; refine (sOccsSame_any A8 B8 c8 d8 x.f6 y.f6 _ (HA8.out.below HC2.out) (HB8.out.below HC2.out) ).mono ?_; rintro e w3 ⟨rfl, hb3⟩; rw [HE7.out]; have p3_0 := pw_cell_below hb3 p2_0; have q3_0 := pw_cell_below hb3 q2_0; have p3_1 := pw_cell_below hb3 p2_1; have q3_1 := pw_cell_below hb3 q2_1; have p3_2 := pw_cell_below hb3 p2_2; have q3_2 := pw_cell_below hb3 q2_2; have p3_3 := pw_cell_below hb3 p2_3; have q3_3 := pw_cell_below hb3 q2_3; have p3_4 := pw_cell_below hb3 p2_4; have q3_4 := pw_cell_below hb3 q2_4; have p3_5 := pw_cell_below hb3 p2_5; have q3_5 := pw_cell_below hb3 q2_5; have p3_6 := pw_cell_below hb3 p2_6; have q3_6 := pw_cell_below hb3 q2_6; have p3_7 := pw_cell_below hb3 p2_7; have q3_7 := pw_cell_below hb3 q2_7; have p3_8 := pw_cell_below hb3 p2_8; have q3_8 := pw_cell_below hb3 q2_8; have p3_9 := pw_cell_below hb3 p2_9; have q3_9 := pw_cell_below hb3 q2_9; have HC3 := Aside0.mk (below_then HC2.out HC2.out.size hb3); clear hb3) | (go_at_call 67; refine (sSpanSame_any x.f5 y.f5 A6 c6 A7 c7 B6 d6 B7 d7 _ (HA6.out.below HC1.out) (HA7.out.below HC1.out) (HB6.out.below HC1.out) (HB7.out.below HC1.out) ).mono ?_; rintro e w2 ⟨rfl, hb2⟩; rw [HE6.out]; have p2_0 := pw_cell_below hb2 p1_0; have q2_0 := pw_cell_below hb2 q1_0; have p2_1 := pw_cell_below hb2 p1_1; have q2_1 := pw_cell_below hb2 q1_1; have p2_2 := pw_cell_below hb2 p1_2; have q2_2 := pw_cell_below hb2 q1_2; have p2_3 := pw_cell_below hb2 p1_3; have q2_3 := pw_cell_below hb2 q1_3; have p2_4 := pw_cell_below hb2 p1_4; have q2_4 := pw_cell_below hb2 q1_4; have p2_5 := pw_cell_below hb2 p1_5; have q2_5 := pw_cell_below hb2 q1_5; have p2_6 := pw_cell_below hb2 p1_6; have q2_6 := pw_cell_below hb2 q1_6; have p2_7 := pw_cell_below hb2 p1_7; have q2_7 := pw_cell_below hb2 q1_7; have p2_8 := pw_cell_below hb2 p1_8; have q2_8 := pw_cell_below hb2 q1_8; have p2_9 := pw_cell_below hb2 p1_9; have q2_9 := pw_cell_below hb2 q1_9; have HC2 := Aside0.mk (below_then HC1.out HC1.out.size hb2); clear hb2) | (go_at_call 66; refine (sPairSame_any x.f4 y.f4 A4 c4 A5 c5 B4 d4 B5 d5 _ (HA4.out.below HC0.out) (HA5.out.below HC0.out) (HB4.out.below HC0.out) (HB5.out.below HC0.out) ).mono ?_; rintro e w1 ⟨rfl, hb1⟩; rw [HE5.out]; have p1_0 := pw_cell_below hb1 p0; have q1_0 := pw_cell_below hb1 q0; have p1_1 := pw_cell_below hb1 p1; have q1_1 := pw_cell_below hb1 q1; have p1_2 := pw_cell_below hb1 p2; have q1_2 := pw_cell_below hb1 q2; have p1_3 := pw_cell_below hb1 p3; have q1_3 := pw_cell_below hb1 q3; have p1_4 := pw_cell_below hb1 p4; have q1_4 := pw_cell_below hb1 q4; have p1_5 := pw_cell_below hb1 p5; have q1_5 := pw_cell_below hb1 q5; have p1_6 := pw_cell_below hb1 p6; have q1_6 := pw_cell_below hb1 q6; have p1_7 := pw_cell_below hb1 p7; have q1_7 := pw_cell_below hb1 q7; have p1_8 := pw_cell_below hb1 p8; have q1_8 := pw_cell_below hb1 q8; have p1_9 := pw_cell_below hb1 p9; have q1_9 := pw_cell_below hb1 q9; have HC1 := Aside0.mk (below_then HC0.out HC0.out.size hb1); clear hb1))
  clear p0 q0 p1 q1 p2 q2 p3 q3 p4 q4 p5 q5 p6 q6 p7 q7 p8 q8 p9 q9 p1_0 q1_0 p1_1 q1_1 p1_2 q1_2 p1_3 q1_3 p1_4 q1_4 p1_5 q1_5 p1_6 q1_6 p1_7 q1_7 p1_8 q1_8 p1_9 q1_9 p2_0 q2_0 p2_1 q2_1 p2_2 q2_2 p2_3 q2_3 p2_4 q2_4 p2_5 q2_5 p2_6 q2_6 p2_7 q2_7 p2_8 q2_8 p2_9 q2_9 p3_0 q3_0 p3_1 q3_1 p3_2 q3_2 p3_3 q3_3 p3_4 q3_4 p3_5 q3_5 p3_6 q3_6 p3_7 q3_7 p3_8 q3_8 p3_9 q3_9 n0 n1 n2 n3 n4
  have pL0 := (blk_cell (blk_below BP.out HC3.out) 3).trans rfl
  have qL0 := (blk_cell (blk_below BQ.out HC3.out) 3).trans rfl
  clear pL0 qL0
  go_loopw [5] (fun vi wr => ∃ (k : Nat), k ≤ x.f3.length ∧ vi = .int .i64 k ∧ Aside0 (eqQ sameI (x.f3.take k) (y.f3.take k) = true) ∧ Aside0 (Below W.heap.size W wr)) (fun vi _ => x.f3.length - (intOf vi).toNat)
  case atStart => exact ⟨0, Nat.zero_le _, rfl, ⟨by simp [eqQ]⟩, HC3⟩
  case round =>
    obtain ⟨k, hk, rfl, HN, HB⟩ := hrel
    have p3 := (blk_cell (blk_below BP.out HB.out) 3).trans rfl
    have q3 := (blk_cell (blk_below BQ.out HB.out) 3).trans rfl
    by_cases hlt : k < x.f3.length
    · have g1 : decide (k < x.f3.length) = true := decide_eq_true hlt
      have i1 : (k : Int) < x.f3.length := by omega
      have hltb : k < y.f3.length := by have := HE4.out; omega
      have i2 : (k : Int) < y.f3.length := by omega
      obtain ⟨ad, rfl, hc⟩ := atI (HA3.out.below HB.out) k hlt
      obtain ⟨ad2, rfl, hc2⟩ := atI (HB3.out.below HB.out) k hltb
      have HSN := Aside0.mk (eqQ_snoc sameI 0 x.f3 y.f3 k hlt HE4.out)
      have HNO := Aside0.mk (eqQ_no sameI 0 x.f3 y.f3 k hlt HE4.out)
      generalize x.f3.getD k 0 = u at hc HSN HNO
      generalize y.f3.getD k 0 = v at hc2 HSN HNO
      replace hc := cellE hc
      replace hc2 := cellE hc2
      by_cases hd : u = v
      · have hx : (u != v) = false := by simp [hd]
        have HEr : Aside0 (eqQ sameI (x.f3.take (k + 1)) (y.f3.take (k + 1)) = true) := ⟨by rw [HSN.out, HN.out]; simp [sameI, hd]⟩
        clear hd
        have HBx := HB
        go_upto_region 6 with fail
        clear p3 q3
        have p3 := cellE ((blk_cell (blk_below BP.out HBx.out) 3).trans rfl)
        have q3 := cellE ((blk_cell (blk_below BQ.out HBx.out) 3).trans rfl)
        refine region_ext (W := wr) (Below.refl _ _) (by kernel_rfl) (by kernel_rfl) ?_
        repeat (first | go_big_quiet_step (fail) | quiet_step (fail))
        refine wpQuiet_nil ?_
        rintro _ ⟨s, rfl⟩
        have HB3 := Aside0.mk (below_then HB.out HB.out.size s.2)
        generalize s.1 = W2 at HB3
        go_wp2
        go_roundw
        case rel => exact ⟨k + 1, by omega, by go_num, HEr, HB3⟩
        case measure => simp [intOf]; omega
      · have hx : (u != v) = true := by simp [hd]
        have HF : Aside0 (sameNode x y = false) := ⟨by unfold sameNode; rw [HNO.out (by simp [sameI, hd])]; simp⟩
        clear hd
        have HBx := HB
        go_upto_region 6 with fail
        clear p3 q3
        have p3 := cellE ((blk_cell (blk_below BP.out HBx.out) 3).trans rfl)
        have q3 := cellE ((blk_cell (blk_below BQ.out HBx.out) 3).trans rfl)
        refine region_ext (W := wr) (Below.refl _ _) (by kernel_rfl) (by kernel_rfl) ?_
        repeat (first | go_big_quiet_step (fail) | quiet_step (fail))
        refine wpQuiet_nil ?_
        rintro _ ⟨s, rfl⟩
        have HB3 := Aside0.mk (below_then HB.out HB.out.size s.2)
        generalize s.1 = W2 at HB3
        go_wp2
        go_ret
        exact ⟨ret_bool HF.out.symm, below_then HX.out HX.out.size HB3.out⟩
    · have hke : k = x.f3.length := by omega
      subst hke
      have g1 : decide (x.f3.length < x.f3.length) = false := decide_eq_false (by omega)
      have HV0 : Aside0 (eqQ sameI x.f3 y.f3 = true) := ⟨by have h := HN.out; rwa [List.take_length, HE4.out, List.take_length] at h⟩
      have HF : Aside0 (sameNode x y = true) := ⟨by unfold sameNode; rw [HE0.out, HE1.out, HE2.out, HE3.out, HE5.out, HE6.out, HE7.out, HV0.out]; rfl⟩
      go_wp2
      go_ret
      exact ⟨ret_bool HF.out.symm, below_then HX.out HX.out.size HB.out⟩
set_option maxHeartbeats 8000000 in
set_option maxRecDepth 100000 in
theorem sGraphSame_any (x y : TGraph) (A1 : Option Addr) (c1 : Nat) (B1 : Option Addr) (d1 : Nat) (w : World) (hA1 : IsS kNode w x.f1 A1 c1) (hB1 : IsS kNode w y.f1 B1 d1) :
    Calls Try.prog 17 #[.agg #[.int .i64 x.f0, .slice A1 x.f1.length c1, .int .i64 x.f2, .int .i64 x.f3, .bool x.f4], .agg #[.int .i64 y.f0, .slice B1 y.f1.length d1, .int .i64 y.f2, .int .i64 y.f3, .bool y.f4]] w fun e w' => e = .returned (.bool (sameGraph x y)) ∧ Below w.heap.size w w' := by
  obtain ⟨hb0, bP, bQ⟩ := boxes2 w #[.int .i64 x.f0, .slice A1 x.f1.length c1, .int .i64 x.f2, .int .i64 x.f3, .bool x.f4] #[.int .i64 y.f0, .slice B1 y.f1.length d1, .int .i64 y.f2, .int .i64 y.f3, .bool y.f4] 50 50
  have hna1 := hA1.len
  have hnb1 := hB1.len
  have HA1 := Aside0.mk (hA1.below hb0)
  have HB1 := Aside0.mk (hB1.below hb0)
  clear hA1 hB1
  obtain ⟨W, hW⟩ : ∃ W, W = (w.alloc (.cells #[.int .i64 x.f0, .slice A1 x.f1.length c1, .int .i64 x.f2, .int .i64 x.f3, .bool x.f4] 50)).alloc (.cells #[.int .i64 y.f0, .slice B1 y.f1.length d1, .int .i64 y.f2, .int .i64 y.f3, .bool y.f4] 50) := ⟨_, rfl⟩
  rw [← hW] at hb0 bP bQ HA1 HB1
  have HW := Aside0.mk hW
  have HX := Aside0.mk hb0
  clear hb0 hW
  have p0 := (blk_cell bP 0).trans rfl
  have q0 := (blk_cell bQ 0).trans rfl
  have p1 := (blk_cell bP 1).trans rfl
  have q1 := (blk_cell bQ 1).trans rfl
  have p2 := (blk_cell bP 2).trans rfl
  have q2 := (blk_cell bQ 2).trans rfl
  have p3 := (blk_cell bP 3).trans rfl
  have q3 := (blk_cell bQ 3).trans rfl
  have p4 := (blk_cell bP 4).trans rfl
  have q4 := (blk_cell bQ 4).trans rfl
  have BP := Aside0.mk bP
  have BQ := Aside0.mk bQ
  clear bP bQ
  have HC0 : Aside0 (Below W.heap.size W W) := ⟨Below.refl _ _⟩
  cases h0 : (x.f0 == y.f0) with
  | false =>
    have n0 : (x.f0 != y.f0) = true := by rw [bne, h0]; rfl
    have HF : Aside0 (sameGraph x y = false) := ⟨by unfold sameGraph; rw [h0]; simp⟩
    clear h0
    go_enter Try.func17, Try.ntmps17
    go_upto_region 1 with fail
    rw [← HW.out]
    go_wp2
    go_ret
    exact ⟨ret_bool HF.out.symm, below_then HX.out HX.out.size HC0.out⟩
  | true =>
  have n0 : (x.f0 != y.f0) = false := by rw [bne, h0]; rfl
  have HE0 := Aside0.mk h0
  clear h0
  cases h1 : (x.f2 == y.f2) with
  | false =>
    have n1 : (x.f2 != y.f2) = true := by rw [bne, h1]; rfl
    have HF : Aside0 (sameGraph x y = false) := ⟨by unfold sameGraph; rw [h1]; simp⟩
    clear h1
    go_enter Try.func17, Try.ntmps17
    go_upto_region 1 with fail
    rw [← HW.out]
    go_wp2
    go_ret
    exact ⟨ret_bool HF.out.symm, below_then HX.out HX.out.size HC0.out⟩
  | true =>
  have n1 : (x.f2 != y.f2) = false := by rw [bne, h1]; rfl
  have HE1 := Aside0.mk h1
  clear h1
  cases h2 : (x.f3 == y.f3) with
  | false =>
    have n2 : (x.f3 != y.f3) = true := by rw [bne, h2]; rfl
    have HF : Aside0 (sameGraph x y = false) := ⟨by unfold sameGraph; rw [h2]; simp⟩
    clear h2
    go_enter Try.func17, Try.ntmps17
    go_upto_region 1 with fail
    rw [← HW.out]
    go_wp2
    go_ret
    exact ⟨ret_bool HF.out.symm, below_then HX.out HX.out.size HC0.out⟩
  | true =>
  have n2 : (x.f3 != y.f3) = false := by rw [bne, h2]; rfl
  have HE2 := Aside0.mk h2
  clear h2
  cases h3 : (x.f4 == y.f4) with
  | false =>
    have n3 : (x.f4 != y.f4) = true := by rw [bne, h3]; rfl
    have m3 : (x.f4 == y.f4) = false := h3
    have HF : Aside0 (sameGraph x y = false) := ⟨by unfold sameGraph; rw [h3]; simp⟩
    clear h3
    go_enter Try.func17, Try.ntmps17
    go_upto_region 1 with fail
    rw [← HW.out]
    go_wp2
    go_ret
    exact ⟨ret_bool HF.out.symm, below_then HX.out HX.out.size HC0.out⟩
  | true =>
  have n3 : (x.f4 != y.f4) = false := by rw [bne, h3]; rfl
  have m3 : (x.f4 == y.f4) = true := h3
  have HE3 := Aside0.mk h3
  clear h3
  rcases Decidable.em (x.f1.length = y.f1.length) with h4 | h4
  rotate_left
  · skip
    have n4 : ((x.f1.length : Int) != (y.f1.length : Int)) = true := by simp; omega
    have HF : Aside0 (sameGraph x y = false) := ⟨by unfold sameGraph; rw [eqQ_len sameNode x.f1 y.f1 h4]; simp⟩
    clear h4
    go_enter Try.func17, Try.ntmps17
    go_upto_region 1 with fail
    rw [← HW.out]
    go_wp2
    go_ret
    exact ⟨ret_bool HF.out.symm, below_then HX.out HX.out.size HC0.out⟩
  have n4 : ((x.f1.length : Int) != (y.f1.length : Int)) = false := by simp [h4]
  have HE4 := Aside0.mk h4
  clear h4
  go_enter Try.func17, Try.ntmps17
  go_upto_region 1 with fail
  rw [← HW.out]
  go_wp2
  clear p0 q0 p1 q1 p2 q2 p3 q3 p4 q4  n0 n1 n2 n3 n4 m3
  have pL0 := (blk_cell (blk_below BP.out HC0.out) 1).trans rfl
  have qL0 := (blk_cell (blk_below BQ.out HC0.out) 1).trans rfl
  clear pL0 qL0
  go_loopw [5] (fun vi wr => ∃ (k : Nat), k ≤ x.f1.length ∧ vi = .int .i64 k ∧ Aside0 (eqQ sameNode (x.f1.take k) (y.f1.take k) = true) ∧ Aside0 (Below W.heap.size W wr)) (fun vi _ => x.f1.length - (intOf vi).toNat)
  case atStart => exact ⟨0, Nat.zero_le _, rfl, ⟨by simp [eqQ]⟩, HC0⟩
  case round =>
    obtain ⟨k, hk, rfl, HN, HB⟩ := hrel
    have p3 := (blk_cell (blk_below BP.out HB.out) 1).trans rfl
    have q3 := (blk_cell (blk_below BQ.out HB.out) 1).trans rfl
    by_cases hlt : k < x.f1.length
    · have g1 : decide (k < x.f1.length) = true := decide_eq_true hlt
      have i1 : (k : Int) < x.f1.length := by omega
      have hltb : k < y.f1.length := by have := HE4.out; omega
      have i2 : (k : Int) < y.f1.length := by omega
      obtain ⟨ada, P3, r3, P4, r4, P5, r5, P6, r6, P7, r7, P8, r8, rfl, a0_, a1_, a2_, a3_, a4_, a5_, a6_, a7_, a8_, a9_, ja3, ja4, ja5, ja6, ja7, ja8⟩ := atNode (HA1.out.below HB.out) k hlt
      obtain ⟨adb, Q3, s3, Q4, s4, Q5, s5, Q6, s6, Q7, s7, Q8, s8, rfl, b0_, b1_, b2_, b3_, b4_, b5_, b6_, b7_, b8_, b9_, jb3, jb4, jb5, jb6, jb7, jb8⟩ := atNode (HB1.out.below HB.out) k hltb
      have HSN := Aside0.mk (eqQ_snoc sameNode zNode x.f1 y.f1 k hlt HE4.out)
      have HNO := Aside0.mk (eqQ_no sameNode zNode x.f1 y.f1 k hlt HE4.out)
      generalize x.f1.getD k zNode = o at a0_ a1_ a2_ a3_ a4_ a5_ a6_ a7_ a8_ a9_ ja3 ja4 ja5 ja6 ja7 ja8 HSN HNO
      generalize y.f1.getD k zNode = u at b0_ b1_ b2_ b3_ b4_ b5_ b6_ b7_ b8_ b9_ jb3 jb4 jb5 jb6 jb7 jb8 HSN HNO
      have HIX3 := Aside0.mk ja3
      have HIY3 := Aside0.mk jb3
      have HIX4 := Aside0.mk ja4
      have HIY4 := Aside0.mk jb4
      have HIX5 := Aside0.mk ja5
      have HIY5 := Aside0.mk jb5
      have HIX6 := Aside0.mk ja6
      have HIY6 := Aside0.mk jb6
      have HIX7 := Aside0.mk ja7
      have HIY7 := Aside0.mk jb7
      have HIX8 := Aside0.mk ja8
      have HIY8 := Aside0.mk jb8
      have HF6 : Aside0 (∀ w', Below wr.heap.size wr w' → (fun w' => (w'.cell? ⟨w.heap.size, 1, none⟩ = some (.slice (some ada) x.f1.length c1) ∧ w'.cell? ⟨w.heap.size + 1, 1, none⟩ = some (.slice (some adb) y.f1.length d1)) ∧ (w'.cell? (ada.add (k * 10)) = some (.int .i64 o.f0) ∧ w'.cell? ⟨(ada.add (k * 10)).block, (ada.add (k * 10)).off + 1, none⟩ = some (.int .i64 o.f1) ∧ w'.cell? ⟨(ada.add (k * 10)).block, (ada.add (k * 10)).off + 2, none⟩ = some (.int .i64 o.f2) ∧ w'.cell? ⟨(ada.add (k * 10)).block, (ada.add (k * 10)).off + 3, none⟩ = some (.slice P3 o.f3.length r3) ∧ w'.cell? ⟨(ada.add (k * 10)).block, (ada.add (k * 10)).off + 4, none⟩ = some (.slice P4 o.f4.f0.length r4) ∧ w'.cell? ⟨(ada.add (k * 10)).block, (ada.add (k * 10)).off + 5, none⟩ = some (.slice P5 o.f4.f1.length r5) ∧ w'.cell? ⟨(ada.add (k * 10)).block, (ada.add (k * 10)).off + 6, none⟩ = some (.slice P6 o.f5.f0.length r6) ∧ w'.cell? ⟨(ada.add (k * 10)).block, (ada.add (k * 10)).off + 7, none⟩ = some (.slice P7 o.f5.f1.length r7) ∧ w'.cell? ⟨(ada.add (k * 10)).block, (ada.add (k * 10)).off + 8, none⟩ = some (.slice P8 o.f6.length r8) ∧ w'.cell? ⟨(ada.add (k * 10)).block, (ada.add (k * 10)).off + 9, none⟩ = some (.int .i64 o.f7)) ∧ (w'.cell? (adb.add (k * 10)) = some (.int .i64 u.f0) ∧ w'.cell? ⟨(adb.add (k * 10)).block, (adb.add (k * 10)).off + 1, none⟩ = some (.int .i64 u.f1) ∧ w'.cell? ⟨(adb.add (k * 10)).block, (adb.add (k * 10)).off + 2, none⟩ = some (.int .i64 u.f2) ∧ w'.cell? ⟨(adb.add (k * 10)).block, (adb.add (k * 10)).off + 3, none⟩ = some (.slice Q3 u.f3.length s3) ∧ w'.cell? ⟨(adb.add (k * 10)).block, (adb.add (k * 10)).off + 4, none⟩ = some (.slice Q4 u.f4.f0.length s4) ∧ w'.cell? ⟨(adb.add (k * 10)).block, (adb.add (k * 10)).off + 5, none⟩ = some (.slice Q5 u.f4.f1.length s5) ∧ w'.cell? ⟨(adb.add (k * 10)).block, (adb.add (k * 10)).off + 6, none⟩ = some (.slice Q6 u.f5.f0.length s6) ∧ w'.cell? ⟨(adb.add (k * 10)).block, (adb.add (k * 10)).off + 7, none⟩ = some (.slice Q7 u.f5.f1.length s7) ∧ w'.cell? ⟨(adb.add (k * 10)).block, (adb.add (k * 10)).off + 8, none⟩ = some (.slice Q8 u.f6.length s8) ∧ w'.cell? ⟨(adb.add (k * 10)).block, (adb.add (k * 10)).off + 9, none⟩ = some (.int .i64 u.f7))) w') := ⟨fun w' h => ⟨⟨pw_cell_below h p3, pw_cell_below h q3⟩, ⟨pw_cell_below h a0_, pw_cell_below h a1_, pw_cell_below h a2_, pw_cell_below h a3_, pw_cell_below h a4_, pw_cell_below h a5_, pw_cell_below h a6_, pw_cell_below h a7_, pw_cell_below h a8_, pw_cell_below h a9_⟩, ⟨pw_cell_below h b0_, pw_cell_below h b1_, pw_cell_below h b2_, pw_cell_below h b3_, pw_cell_below h b4_, pw_cell_below h b5_, pw_cell_below h b6_, pw_cell_below h b7_, pw_cell_below h b8_, pw_cell_below h b9_⟩⟩⟩
      have HB0 : Below wr.heap.size wr wr.drew := below_drew (Below.refl _ _)
      clear a0_ a1_ a2_ a3_ a4_ a5_ a6_ a7_ a8_ a9_ ja3 ja4 ja5 ja6 ja7 ja8 b0_ b1_ b2_ b3_ b4_ b5_ b6_ b7_ b8_ b9_ jb3 jb4 jb5 jb6 jb7 jb8
      cases hd : sameNode o u with
      | true =>
        have HEr : Aside0 (eqQ sameNode (x.f1.take (k + 1)) (y.f1.take (k + 1)) = true) := ⟨by rw [HSN.out, HN.out, hd]; rfl⟩
        have HD := Aside0.mk hd
        clear hd
        go_upto_region 6 with fail
        refine Za.regionL (fun w' => (w'.cell? ⟨w.heap.size, 1, none⟩ = some (.slice (some ada) x.f1.length c1) ∧ w'.cell? ⟨w.heap.size + 1, 1, none⟩ = some (.slice (some adb) y.f1.length d1)) ∧ (w'.cell? (ada.add (k * 10)) = some (.int .i64 o.f0) ∧ w'.cell? ⟨(ada.add (k * 10)).block, (ada.add (k * 10)).off + 1, none⟩ = some (.int .i64 o.f1) ∧ w'.cell? ⟨(ada.add (k * 10)).block, (ada.add (k * 10)).off + 2, none⟩ = some (.int .i64 o.f2) ∧ w'.cell? ⟨(ada.add (k * 10)).block, (ada.add (k * 10)).off + 3, none⟩ = some (.slice P3 o.f3.length r3) ∧ w'.cell? ⟨(ada.add (k * 10)).block, (ada.add (k * 10)).off + 4, none⟩ = some (.slice P4 o.f4.f0.length r4) ∧ w'.cell? ⟨(ada.add (k * 10)).block, (ada.add (k * 10)).off + 5, none⟩ = some (.slice P5 o.f4.f1.length r5) ∧ w'.cell? ⟨(ada.add (k * 10)).block, (ada.add (k * 10)).off + 6, none⟩ = some (.slice P6 o.f5.f0.length r6) ∧ w'.cell? ⟨(ada.add (k * 10)).block, (ada.add (k * 10)).off + 7, none⟩ = some (.slice P7 o.f5.f1.length r7) ∧ w'.cell? ⟨(ada.add (k * 10)).block, (ada.add (k * 10)).off + 8, none⟩ = some (.slice P8 o.f6.length r8) ∧ w'.cell? ⟨(ada.add (k * 10)).block, (ada.add (k * 10)).off + 9, none⟩ = some (.int .i64 o.f7)) ∧ (w'.cell? (adb.add (k * 10)) = some (.int .i64 u.f0) ∧ w'.cell? ⟨(adb.add (k * 10)).block, (adb.add (k * 10)).off + 1, none⟩ = some (.int .i64 u.f1) ∧ w'.cell? ⟨(adb.add (k * 10)).block, (adb.add (k * 10)).off + 2, none⟩ = some (.int .i64 u.f2) ∧ w'.cell? ⟨(adb.add (k * 10)).block, (adb.add (k * 10)).off + 3, none⟩ = some (.slice Q3 u.f3.length s3) ∧ w'.cell? ⟨(adb.add (k * 10)).block, (adb.add (k * 10)).off + 4, none⟩ = some (.slice Q4 u.f4.f0.length s4) ∧ w'.cell? ⟨(adb.add (k * 10)).block, (adb.add (k * 10)).off + 5, none⟩ = some (.slice Q5 u.f4.f1.length s5) ∧ w'.cell? ⟨(adb.add (k * 10)).block, (adb.add (k * 10)).off + 6, none⟩ = some (.slice Q6 u.f5.f0.length s6) ∧ w'.cell? ⟨(adb.add (k * 10)).block, (adb.add (k * 10)).off + 7, none⟩ = some (.slice Q7 u.f5.f1.length s7) ∧ w'.cell? ⟨(adb.add (k * 10)).block, (adb.add (k * 10)).off + 8, none⟩ = some (.slice Q8 u.f6.length s8) ∧ w'.cell? ⟨(adb.add (k * 10)).block, (adb.add (k * 10)).off + 9, none⟩ = some (.int .i64 u.f7))) [] (by kernel_rfl) ?_
        have HS : (fun w' => (w'.cell? ⟨w.heap.size, 1, none⟩ = some (.slice (some ada) x.f1.length c1) ∧ w'.cell? ⟨w.heap.size + 1, 1, none⟩ = some (.slice (some adb) y.f1.length d1)) ∧ (w'.cell? (ada.add (k * 10)) = some (.int .i64 o.f0) ∧ w'.cell? ⟨(ada.add (k * 10)).block, (ada.add (k * 10)).off + 1, none⟩ = some (.int .i64 o.f1) ∧ w'.cell? ⟨(ada.add (k * 10)).block, (ada.add (k * 10)).off + 2, none⟩ = some (.int .i64 o.f2) ∧ w'.cell? ⟨(ada.add (k * 10)).block, (ada.add (k * 10)).off + 3, none⟩ = some (.slice P3 o.f3.length r3) ∧ w'.cell? ⟨(ada.add (k * 10)).block, (ada.add (k * 10)).off + 4, none⟩ = some (.slice P4 o.f4.f0.length r4) ∧ w'.cell? ⟨(ada.add (k * 10)).block, (ada.add (k * 10)).off + 5, none⟩ = some (.slice P5 o.f4.f1.length r5) ∧ w'.cell? ⟨(ada.add (k * 10)).block, (ada.add (k * 10)).off + 6, none⟩ = some (.slice P6 o.f5.f0.length r6) ∧ w'.cell? ⟨(ada.add (k * 10)).block, (ada.add (k * 10)).off + 7, none⟩ = some (.slice P7 o.f5.f1.length r7) ∧ w'.cell? ⟨(ada.add (k * 10)).block, (ada.add (k * 10)).off + 8, none⟩ = some (.slice P8 o.f6.length r8) ∧ w'.cell? ⟨(ada.add (k * 10)).block, (ada.add (k * 10)).off + 9, none⟩ = some (.int .i64 o.f7)) ∧ (w'.cell? (adb.add (k * 10)) = some (.int .i64 u.f0) ∧ w'.cell? ⟨(adb.add (k * 10)).block, (adb.add (k * 10)).off + 1, none⟩ = some (.int .i64 u.f1) ∧ w'.cell? ⟨(adb.add (k * 10)).block, (adb.add (k * 10)).off + 2, none⟩ = some (.int .i64 u.f2) ∧ w'.cell? ⟨(adb.add (k * 10)).block, (adb.add (k * 10)).off + 3, none⟩ = some (.slice Q3 u.f3.length s3) ∧ w'.cell? ⟨(adb.add (k * 10)).block, (adb.add (k * 10)).off + 4, none⟩ = some (.slice Q4 u.f4.f0.length s4) ∧ w'.cell? ⟨(adb.add (k * 10)).block, (adb.add (k * 10)).off + 5, none⟩ = some (.slice Q5 u.f4.f1.length s5) ∧ w'.cell? ⟨(adb.add (k * 10)).block, (adb.add (k * 10)).off + 6, none⟩ = some (.slice Q6 u.f5.f0.length s6) ∧ w'.cell? ⟨(adb.add (k * 10)).block, (adb.add (k * 10)).off + 7, none⟩ = some (.slice Q7 u.f5.f1.length s7) ∧ w'.cell? ⟨(adb.add (k * 10)).block, (adb.add (k * 10)).off + 8, none⟩ = some (.slice Q8 u.f6.length s8) ∧ w'.cell? ⟨(adb.add (k * 10)).block, (adb.add (k * 10)).off + 9, none⟩ = some (.int .i64 u.f7))) wr.drew := HF6.out _ HB0
        refine Za.takeL 0 (v := ?vat0) rfl (by kernel_rfl) (by kernel_rfl) (by kernel_rfl) (by kernel_rfl) (fun _ _ _ h => h) (Or.inl ⟨by rfl, ?hyat0⟩) HS ?restat0
        case hyat0 => (intro w hSw; (try dsimp only at hSw); go_simp; try with_reducible rfl)
        (try simp only [Act.put, List.setIfInBounds_toArray, List.set_cons_zero, List.set_cons_succ])
        refine Za.takeL 1 (v := ?vat1) rfl (by kernel_rfl) (by kernel_rfl) (by kernel_rfl) (by kernel_rfl) (fun _ _ _ h => h) (Or.inl ⟨by rfl, ?hyat1⟩) HS ?restat1
        case hyat1 => (intro w hSw; (try dsimp only at hSw); go_simp; try with_reducible rfl)
        (try simp only [Act.put, List.setIfInBounds_toArray, List.set_cons_zero, List.set_cons_succ])
        refine Za.takeL 2 (v := ?vat2) rfl (by kernel_rfl) (by kernel_rfl) (by kernel_rfl) (by kernel_rfl) (fun _ _ _ h => h) (Or.inl ⟨by rfl, ?hyat2⟩) HS ?restat2
        case hyat2 => (intro w hSw; (try dsimp only at hSw); go_simp; try with_reducible rfl)
        (try simp only [Act.put, List.setIfInBounds_toArray, List.set_cons_zero, List.set_cons_succ])
        refine Za.takeL 3 (v := ?vat3) rfl (by kernel_rfl) (by kernel_rfl) (by kernel_rfl) (by kernel_rfl) (fun _ _ _ h => h) (Or.inl ⟨by rfl, ?hyat3⟩) HS ?restat3
        case hyat3 => (intro w hSw; (try dsimp only at hSw); go_simp; try with_reducible rfl)
        (try simp only [Act.put, List.setIfInBounds_toArray, List.set_cons_zero, List.set_cons_succ])
        refine Za.takeL 4 (v := ?vat4) rfl (by kernel_rfl) (by kernel_rfl) (by kernel_rfl) (by kernel_rfl) (fun _ _ _ h => h) (Or.inl ⟨by rfl, ?hyat4⟩) HS ?restat4
        case hyat4 => (intro w hSw; (try dsimp only at hSw); go_simp; try with_reducible rfl)
        (try simp only [Act.put, List.setIfInBounds_toArray, List.set_cons_zero, List.set_cons_succ])
        refine Za.takeL 5 (v := ?vat5) rfl (by kernel_rfl) (by kernel_rfl) (by kernel_rfl) (by kernel_rfl) (fun _ _ _ h => h) (Or.inl ⟨by rfl, ?hyat5⟩) HS ?restat5
        case hyat5 => (intro w hSw; (try dsimp only at hSw); go_simp; try with_reducible rfl)
        (try simp only [Act.put, List.setIfInBounds_toArray, List.set_cons_zero, List.set_cons_succ])
        refine Za.takeL 6 (v := ?vat6) rfl (by kernel_rfl) (by kernel_rfl) (by kernel_rfl) (by kernel_rfl) (fun _ _ _ h => h) (Or.inl ⟨by rfl, ?hyat6⟩) HS ?restat6
        case hyat6 => (intro w hSw; (try dsimp only at hSw); go_simp; try with_reducible rfl)
        (try simp only [Act.put, List.setIfInBounds_toArray, List.set_cons_zero, List.set_cons_succ])
        refine Za.takeL 7 (v := ?vat7) rfl (by kernel_rfl) (by kernel_rfl) (by kernel_rfl) (by kernel_rfl) (fun _ _ _ h => h) (Or.inl ⟨by rfl, ?hyat7⟩) HS ?restat7
        case hyat7 => (intro w hSw; (try dsimp only at hSw); go_simp; try with_reducible rfl)
        (try simp only [Act.put, List.setIfInBounds_toArray, List.set_cons_zero, List.set_cons_succ])
        refine Za.takeL 8 (v := ?vat8) rfl (by kernel_rfl) (by kernel_rfl) (by kernel_rfl) (by kernel_rfl) (fun _ _ _ h => h) (Or.inl ⟨by rfl, ?hyat8⟩) HS ?restat8
        case hyat8 => (intro w hSw; (try dsimp only at hSw); go_simp; try with_reducible rfl)
        (try simp only [Act.put, List.setIfInBounds_toArray, List.set_cons_zero, List.set_cons_succ])
        refine Za.takeL 9 (v := ?vat9) rfl (by kernel_rfl) (by kernel_rfl) (by kernel_rfl) (by kernel_rfl) (fun _ _ _ h => h) (Or.inl ⟨by rfl, ?hyat9⟩) HS ?restat9
        case hyat9 => (intro w hSw; (try dsimp only at hSw); go_simp; try with_reducible rfl)
        (try simp only [Act.put, List.setIfInBounds_toArray, List.set_cons_zero, List.set_cons_succ])
        clear HS
        refine Za.nextL 10 (by kernel_rfl) rfl (fun K' hK => ?_)
        go_simp
        (go_at_call 41; refine (l7Same_any o u P3 r3 P4 r4 P5 r5 P6 r6 P7 r7 P8 r8 Q3 s3 Q4 s4 Q5 s5 Q6 s6 Q7 s7 Q8 s8 _ (HIX3.out.below HB0) (HIX4.out.below HB0) (HIX5.out.below HB0) (HIX6.out.below HB0) (HIX7.out.below HB0) (HIX8.out.below HB0) (HIY3.out.below HB0) (HIY4.out.below HB0) (HIY5.out.below HB0) (HIY6.out.below HB0) (HIY7.out.below HB0) (HIY8.out.below HB0)).mono ?_; rintro e w4 ⟨rfl, hb4⟩; rw [HD.out]; have HB4 : Below wr.heap.size wr w4 := keepD hb4; have HB3 := Aside0.mk (below_then HB.out HB.out.size HB4); clear hb4)
        go_wp2_with fail
        refine hK.out _ _ ⟨fun _ => HF6.out _ HB4, ?_⟩
        clear hK K'
        (try simp only [Act.put, List.setIfInBounds_toArray, List.set_cons_zero, List.set_cons_succ])
        have HS : (fun w' => (w'.cell? ⟨w.heap.size, 1, none⟩ = some (.slice (some ada) x.f1.length c1) ∧ w'.cell? ⟨w.heap.size + 1, 1, none⟩ = some (.slice (some adb) y.f1.length d1)) ∧ (w'.cell? (ada.add (k * 10)) = some (.int .i64 o.f0) ∧ w'.cell? ⟨(ada.add (k * 10)).block, (ada.add (k * 10)).off + 1, none⟩ = some (.int .i64 o.f1) ∧ w'.cell? ⟨(ada.add (k * 10)).block, (ada.add (k * 10)).off + 2, none⟩ = some (.int .i64 o.f2) ∧ w'.cell? ⟨(ada.add (k * 10)).block, (ada.add (k * 10)).off + 3, none⟩ = some (.slice P3 o.f3.length r3) ∧ w'.cell? ⟨(ada.add (k * 10)).block, (ada.add (k * 10)).off + 4, none⟩ = some (.slice P4 o.f4.f0.length r4) ∧ w'.cell? ⟨(ada.add (k * 10)).block, (ada.add (k * 10)).off + 5, none⟩ = some (.slice P5 o.f4.f1.length r5) ∧ w'.cell? ⟨(ada.add (k * 10)).block, (ada.add (k * 10)).off + 6, none⟩ = some (.slice P6 o.f5.f0.length r6) ∧ w'.cell? ⟨(ada.add (k * 10)).block, (ada.add (k * 10)).off + 7, none⟩ = some (.slice P7 o.f5.f1.length r7) ∧ w'.cell? ⟨(ada.add (k * 10)).block, (ada.add (k * 10)).off + 8, none⟩ = some (.slice P8 o.f6.length r8) ∧ w'.cell? ⟨(ada.add (k * 10)).block, (ada.add (k * 10)).off + 9, none⟩ = some (.int .i64 o.f7)) ∧ (w'.cell? (adb.add (k * 10)) = some (.int .i64 u.f0) ∧ w'.cell? ⟨(adb.add (k * 10)).block, (adb.add (k * 10)).off + 1, none⟩ = some (.int .i64 u.f1) ∧ w'.cell? ⟨(adb.add (k * 10)).block, (adb.add (k * 10)).off + 2, none⟩ = some (.int .i64 u.f2) ∧ w'.cell? ⟨(adb.add (k * 10)).block, (adb.add (k * 10)).off + 3, none⟩ = some (.slice Q3 u.f3.length s3) ∧ w'.cell? ⟨(adb.add (k * 10)).block, (adb.add (k * 10)).off + 4, none⟩ = some (.slice Q4 u.f4.f0.length s4) ∧ w'.cell? ⟨(adb.add (k * 10)).block, (adb.add (k * 10)).off + 5, none⟩ = some (.slice Q5 u.f4.f1.length s5) ∧ w'.cell? ⟨(adb.add (k * 10)).block, (adb.add (k * 10)).off + 6, none⟩ = some (.slice Q6 u.f5.f0.length s6) ∧ w'.cell? ⟨(adb.add (k * 10)).block, (adb.add (k * 10)).off + 7, none⟩ = some (.slice Q7 u.f5.f1.length s7) ∧ w'.cell? ⟨(adb.add (k * 10)).block, (adb.add (k * 10)).off + 8, none⟩ = some (.slice Q8 u.f6.length s8) ∧ w'.cell? ⟨(adb.add (k * 10)).block, (adb.add (k * 10)).off + 9, none⟩ = some (.int .i64 u.f7))) w4 := HF6.out _ HB4
        refine Za.takeL 11 (v := ?vat11) rfl (by kernel_rfl) (by kernel_rfl) (by kernel_rfl) (by kernel_rfl) (fun _ _ _ h => h) (Or.inl ⟨by rfl, ?hyat11⟩) HS ?restat11
        case hyat11 => (intro w hSw; (try dsimp only at hSw); go_simp; try with_reducible rfl)
        (try simp only [Act.put, List.setIfInBounds_toArray, List.set_cons_zero, List.set_cons_succ])
        refine Za.Walk.done (by kernel_rfl) ?_
        clear HS
        go_wp2
        go_roundw
        case rel => exact ⟨k + 1, by omega, by go_num, HEr, HB3⟩
        case measure => simp [intOf]; omega
      | false =>
        have HF : Aside0 (sameGraph x y = false) := ⟨by unfold sameGraph; rw [HNO.out hd]; simp⟩
        have HD := Aside0.mk hd
        clear hd
        go_upto_region 6 with fail
        refine Za.regionL (fun w' => (w'.cell? ⟨w.heap.size, 1, none⟩ = some (.slice (some ada) x.f1.length c1) ∧ w'.cell? ⟨w.heap.size + 1, 1, none⟩ = some (.slice (some adb) y.f1.length d1)) ∧ (w'.cell? (ada.add (k * 10)) = some (.int .i64 o.f0) ∧ w'.cell? ⟨(ada.add (k * 10)).block, (ada.add (k * 10)).off + 1, none⟩ = some (.int .i64 o.f1) ∧ w'.cell? ⟨(ada.add (k * 10)).block, (ada.add (k * 10)).off + 2, none⟩ = some (.int .i64 o.f2) ∧ w'.cell? ⟨(ada.add (k * 10)).block, (ada.add (k * 10)).off + 3, none⟩ = some (.slice P3 o.f3.length r3) ∧ w'.cell? ⟨(ada.add (k * 10)).block, (ada.add (k * 10)).off + 4, none⟩ = some (.slice P4 o.f4.f0.length r4) ∧ w'.cell? ⟨(ada.add (k * 10)).block, (ada.add (k * 10)).off + 5, none⟩ = some (.slice P5 o.f4.f1.length r5) ∧ w'.cell? ⟨(ada.add (k * 10)).block, (ada.add (k * 10)).off + 6, none⟩ = some (.slice P6 o.f5.f0.length r6) ∧ w'.cell? ⟨(ada.add (k * 10)).block, (ada.add (k * 10)).off + 7, none⟩ = some (.slice P7 o.f5.f1.length r7) ∧ w'.cell? ⟨(ada.add (k * 10)).block, (ada.add (k * 10)).off + 8, none⟩ = some (.slice P8 o.f6.length r8) ∧ w'.cell? ⟨(ada.add (k * 10)).block, (ada.add (k * 10)).off + 9, none⟩ = some (.int .i64 o.f7)) ∧ (w'.cell? (adb.add (k * 10)) = some (.int .i64 u.f0) ∧ w'.cell? ⟨(adb.add (k * 10)).block, (adb.add (k * 10)).off + 1, none⟩ = some (.int .i64 u.f1) ∧ w'.cell? ⟨(adb.add (k * 10)).block, (adb.add (k * 10)).off + 2, none⟩ = some (.int .i64 u.f2) ∧ w'.cell? ⟨(adb.add (k * 10)).block, (adb.add (k * 10)).off + 3, none⟩ = some (.slice Q3 u.f3.length s3) ∧ w'.cell? ⟨(adb.add (k * 10)).block, (adb.add (k * 10)).off + 4, none⟩ = some (.slice Q4 u.f4.f0.length s4) ∧ w'.cell? ⟨(adb.add (k * 10)).block, (adb.add (k * 10)).off + 5, none⟩ = some (.slice Q5 u.f4.f1.length s5) ∧ w'.cell? ⟨(adb.add (k * 10)).block, (adb.add (k * 10)).off + 6, none⟩ = some (.slice Q6 u.f5.f0.length s6) ∧ w'.cell? ⟨(adb.add (k * 10)).block, (adb.add (k * 10)).off + 7, none⟩ = some (.slice Q7 u.f5.f1.length s7) ∧ w'.cell? ⟨(adb.add (k * 10)).block, (adb.add (k * 10)).off + 8, none⟩ = some (.slice Q8 u.f6.length s8) ∧ w'.cell? ⟨(adb.add (k * 10)).block, (adb.add (k * 10)).off + 9, none⟩ = some (.int .i64 u.f7))) [] (by kernel_rfl) ?_
        have HS : (fun w' => (w'.cell? ⟨w.heap.size, 1, none⟩ = some (.slice (some ada) x.f1.length c1) ∧ w'.cell? ⟨w.heap.size + 1, 1, none⟩ = some (.slice (some adb) y.f1.length d1)) ∧ (w'.cell? (ada.add (k * 10)) = some (.int .i64 o.f0) ∧ w'.cell? ⟨(ada.add (k * 10)).block, (ada.add (k * 10)).off + 1, none⟩ = some (.int .i64 o.f1) ∧ w'.cell? ⟨(ada.add (k * 10)).block, (ada.add (k * 10)).off + 2, none⟩ = some (.int .i64 o.f2) ∧ w'.cell? ⟨(ada.add (k * 10)).block, (ada.add (k * 10)).off + 3, none⟩ = some (.slice P3 o.f3.length r3) ∧ w'.cell? ⟨(ada.add (k * 10)).block, (ada.add (k * 10)).off + 4, none⟩ = some (.slice P4 o.f4.f0.length r4) ∧ w'.cell? ⟨(ada.add (k * 10)).block, (ada.add (k * 10)).off + 5, none⟩ = some (.slice P5 o.f4.f1.length r5) ∧ w'.cell? ⟨(ada.add (k * 10)).block, (ada.add (k * 10)).off + 6, none⟩ = some (.slice P6 o.f5.f0.length r6) ∧ w'.cell? ⟨(ada.add (k * 10)).block, (ada.add (k * 10)).off + 7, none⟩ = some (.slice P7 o.f5.f1.length r7) ∧ w'.cell? ⟨(ada.add (k * 10)).block, (ada.add (k * 10)).off + 8, none⟩ = some (.slice P8 o.f6.length r8) ∧ w'.cell? ⟨(ada.add (k * 10)).block, (ada.add (k * 10)).off + 9, none⟩ = some (.int .i64 o.f7)) ∧ (w'.cell? (adb.add (k * 10)) = some (.int .i64 u.f0) ∧ w'.cell? ⟨(adb.add (k * 10)).block, (adb.add (k * 10)).off + 1, none⟩ = some (.int .i64 u.f1) ∧ w'.cell? ⟨(adb.add (k * 10)).block, (adb.add (k * 10)).off + 2, none⟩ = some (.int .i64 u.f2) ∧ w'.cell? ⟨(adb.add (k * 10)).block, (adb.add (k * 10)).off + 3, none⟩ = some (.slice Q3 u.f3.length s3) ∧ w'.cell? ⟨(adb.add (k * 10)).block, (adb.add (k * 10)).off + 4, none⟩ = some (.slice Q4 u.f4.f0.length s4) ∧ w'.cell? ⟨(adb.add (k * 10)).block, (adb.add (k * 10)).off + 5, none⟩ = some (.slice Q5 u.f4.f1.length s5) ∧ w'.cell? ⟨(adb.add (k * 10)).block, (adb.add (k * 10)).off + 6, none⟩ = some (.slice Q6 u.f5.f0.length s6) ∧ w'.cell? ⟨(adb.add (k * 10)).block, (adb.add (k * 10)).off + 7, none⟩ = some (.slice Q7 u.f5.f1.length s7) ∧ w'.cell? ⟨(adb.add (k * 10)).block, (adb.add (k * 10)).off + 8, none⟩ = some (.slice Q8 u.f6.length s8) ∧ w'.cell? ⟨(adb.add (k * 10)).block, (adb.add (k * 10)).off + 9, none⟩ = some (.int .i64 u.f7))) wr.drew := HF6.out _ HB0
        refine Za.takeL 0 (v := ?vaf0) rfl (by kernel_rfl) (by kernel_rfl) (by kernel_rfl) (by kernel_rfl) (fun _ _ _ h => h) (Or.inl ⟨by rfl, ?hyaf0⟩) HS ?restaf0
        case hyaf0 => (intro w hSw; (try dsimp only at hSw); go_simp; try with_reducible rfl)
        (try simp only [Act.put, List.setIfInBounds_toArray, List.set_cons_zero, List.set_cons_succ])
        refine Za.takeL 1 (v := ?vaf1) rfl (by kernel_rfl) (by kernel_rfl) (by kernel_rfl) (by kernel_rfl) (fun _ _ _ h => h) (Or.inl ⟨by rfl, ?hyaf1⟩) HS ?restaf1
        case hyaf1 => (intro w hSw; (try dsimp only at hSw); go_simp; try with_reducible rfl)
        (try simp only [Act.put, List.setIfInBounds_toArray, List.set_cons_zero, List.set_cons_succ])
        refine Za.takeL 2 (v := ?vaf2) rfl (by kernel_rfl) (by kernel_rfl) (by kernel_rfl) (by kernel_rfl) (fun _ _ _ h => h) (Or.inl ⟨by rfl, ?hyaf2⟩) HS ?restaf2
        case hyaf2 => (intro w hSw; (try dsimp only at hSw); go_simp; try with_reducible rfl)
        (try simp only [Act.put, List.setIfInBounds_toArray, List.set_cons_zero, List.set_cons_succ])
        refine Za.takeL 3 (v := ?vaf3) rfl (by kernel_rfl) (by kernel_rfl) (by kernel_rfl) (by kernel_rfl) (fun _ _ _ h => h) (Or.inl ⟨by rfl, ?hyaf3⟩) HS ?restaf3
        case hyaf3 => (intro w hSw; (try dsimp only at hSw); go_simp; try with_reducible rfl)
        (try simp only [Act.put, List.setIfInBounds_toArray, List.set_cons_zero, List.set_cons_succ])
        refine Za.takeL 4 (v := ?vaf4) rfl (by kernel_rfl) (by kernel_rfl) (by kernel_rfl) (by kernel_rfl) (fun _ _ _ h => h) (Or.inl ⟨by rfl, ?hyaf4⟩) HS ?restaf4
        case hyaf4 => (intro w hSw; (try dsimp only at hSw); go_simp; try with_reducible rfl)
        (try simp only [Act.put, List.setIfInBounds_toArray, List.set_cons_zero, List.set_cons_succ])
        refine Za.takeL 5 (v := ?vaf5) rfl (by kernel_rfl) (by kernel_rfl) (by kernel_rfl) (by kernel_rfl) (fun _ _ _ h => h) (Or.inl ⟨by rfl, ?hyaf5⟩) HS ?restaf5
        case hyaf5 => (intro w hSw; (try dsimp only at hSw); go_simp; try with_reducible rfl)
        (try simp only [Act.put, List.setIfInBounds_toArray, List.set_cons_zero, List.set_cons_succ])
        refine Za.takeL 6 (v := ?vaf6) rfl (by kernel_rfl) (by kernel_rfl) (by kernel_rfl) (by kernel_rfl) (fun _ _ _ h => h) (Or.inl ⟨by rfl, ?hyaf6⟩) HS ?restaf6
        case hyaf6 => (intro w hSw; (try dsimp only at hSw); go_simp; try with_reducible rfl)
        (try simp only [Act.put, List.setIfInBounds_toArray, List.set_cons_zero, List.set_cons_succ])
        refine Za.takeL 7 (v := ?vaf7) rfl (by kernel_rfl) (by kernel_rfl) (by kernel_rfl) (by kernel_rfl) (fun _ _ _ h => h) (Or.inl ⟨by rfl, ?hyaf7⟩) HS ?restaf7
        case hyaf7 => (intro w hSw; (try dsimp only at hSw); go_simp; try with_reducible rfl)
        (try simp only [Act.put, List.setIfInBounds_toArray, List.set_cons_zero, List.set_cons_succ])
        refine Za.takeL 8 (v := ?vaf8) rfl (by kernel_rfl) (by kernel_rfl) (by kernel_rfl) (by kernel_rfl) (fun _ _ _ h => h) (Or.inl ⟨by rfl, ?hyaf8⟩) HS ?restaf8
        case hyaf8 => (intro w hSw; (try dsimp only at hSw); go_simp; try with_reducible rfl)
        (try simp only [Act.put, List.setIfInBounds_toArray, List.set_cons_zero, List.set_cons_succ])
        refine Za.takeL 9 (v := ?vaf9) rfl (by kernel_rfl) (by kernel_rfl) (by kernel_rfl) (by kernel_rfl) (fun _ _ _ h => h) (Or.inl ⟨by rfl, ?hyaf9⟩) HS ?restaf9
        case hyaf9 => (intro w hSw; (try dsimp only at hSw); go_simp; try with_reducible rfl)
        (try simp only [Act.put, List.setIfInBounds_toArray, List.set_cons_zero, List.set_cons_succ])
        clear HS
        refine Za.nextL 10 (by kernel_rfl) rfl (fun K' hK => ?_)
        go_simp
        (go_at_call 41; refine (l7Same_any o u P3 r3 P4 r4 P5 r5 P6 r6 P7 r7 P8 r8 Q3 s3 Q4 s4 Q5 s5 Q6 s6 Q7 s7 Q8 s8 _ (HIX3.out.below HB0) (HIX4.out.below HB0) (HIX5.out.below HB0) (HIX6.out.below HB0) (HIX7.out.below HB0) (HIX8.out.below HB0) (HIY3.out.below HB0) (HIY4.out.below HB0) (HIY5.out.below HB0) (HIY6.out.below HB0) (HIY7.out.below HB0) (HIY8.out.below HB0)).mono ?_; rintro e w4 ⟨rfl, hb4⟩; rw [HD.out]; have HB4 : Below wr.heap.size wr w4 := keepD hb4; have HB3 := Aside0.mk (below_then HB.out HB.out.size HB4); clear hb4)
        go_wp2_with fail
        refine hK.out _ _ ⟨fun _ => HF6.out _ HB4, ?_⟩
        clear hK K'
        (try simp only [Act.put, List.setIfInBounds_toArray, List.set_cons_zero, List.set_cons_succ])
        have HS : (fun w' => (w'.cell? ⟨w.heap.size, 1, none⟩ = some (.slice (some ada) x.f1.length c1) ∧ w'.cell? ⟨w.heap.size + 1, 1, none⟩ = some (.slice (some adb) y.f1.length d1)) ∧ (w'.cell? (ada.add (k * 10)) = some (.int .i64 o.f0) ∧ w'.cell? ⟨(ada.add (k * 10)).block, (ada.add (k * 10)).off + 1, none⟩ = some (.int .i64 o.f1) ∧ w'.cell? ⟨(ada.add (k * 10)).block, (ada.add (k * 10)).off + 2, none⟩ = some (.int .i64 o.f2) ∧ w'.cell? ⟨(ada.add (k * 10)).block, (ada.add (k * 10)).off + 3, none⟩ = some (.slice P3 o.f3.length r3) ∧ w'.cell? ⟨(ada.add (k * 10)).block, (ada.add (k * 10)).off + 4, none⟩ = some (.slice P4 o.f4.f0.length r4) ∧ w'.cell? ⟨(ada.add (k * 10)).block, (ada.add (k * 10)).off + 5, none⟩ = some (.slice P5 o.f4.f1.length r5) ∧ w'.cell? ⟨(ada.add (k * 10)).block, (ada.add (k * 10)).off + 6, none⟩ = some (.slice P6 o.f5.f0.length r6) ∧ w'.cell? ⟨(ada.add (k * 10)).block, (ada.add (k * 10)).off + 7, none⟩ = some (.slice P7 o.f5.f1.length r7) ∧ w'.cell? ⟨(ada.add (k * 10)).block, (ada.add (k * 10)).off + 8, none⟩ = some (.slice P8 o.f6.length r8) ∧ w'.cell? ⟨(ada.add (k * 10)).block, (ada.add (k * 10)).off + 9, none⟩ = some (.int .i64 o.f7)) ∧ (w'.cell? (adb.add (k * 10)) = some (.int .i64 u.f0) ∧ w'.cell? ⟨(adb.add (k * 10)).block, (adb.add (k * 10)).off + 1, none⟩ = some (.int .i64 u.f1) ∧ w'.cell? ⟨(adb.add (k * 10)).block, (adb.add (k * 10)).off + 2, none⟩ = some (.int .i64 u.f2) ∧ w'.cell? ⟨(adb.add (k * 10)).block, (adb.add (k * 10)).off + 3, none⟩ = some (.slice Q3 u.f3.length s3) ∧ w'.cell? ⟨(adb.add (k * 10)).block, (adb.add (k * 10)).off + 4, none⟩ = some (.slice Q4 u.f4.f0.length s4) ∧ w'.cell? ⟨(adb.add (k * 10)).block, (adb.add (k * 10)).off + 5, none⟩ = some (.slice Q5 u.f4.f1.length s5) ∧ w'.cell? ⟨(adb.add (k * 10)).block, (adb.add (k * 10)).off + 6, none⟩ = some (.slice Q6 u.f5.f0.length s6) ∧ w'.cell? ⟨(adb.add (k * 10)).block, (adb.add (k * 10)).off + 7, none⟩ = some (.slice Q7 u.f5.f1.length s7) ∧ w'.cell? ⟨(adb.add (k * 10)).block, (adb.add (k * 10)).off + 8, none⟩ = some (.slice Q8 u.f6.length s8) ∧ w'.cell? ⟨(adb.add (k * 10)).block, (adb.add (k * 10)).off + 9, none⟩ = some (.int .i64 u.f7))) w4 := HF6.out _ HB4
        refine Za.takeL 11 (v := ?vaf11) rfl (by kernel_rfl) (by kernel_rfl) (by kernel_rfl) (by kernel_rfl) (fun _ _ _ h => h) (Or.inl ⟨by rfl, ?hyaf11⟩) HS ?restaf11
        case hyaf11 => (intro w hSw; (try dsimp only at hSw); go_simp; try with_reducible rfl)
        (try simp only [Act.put, List.setIfInBounds_toArray, List.set_cons_zero, List.set_cons_succ])
        refine Za.Walk.done (by kernel_rfl) ?_
        clear HS
        go_wp2
        go_ret
        exact ⟨ret_bool HF.out.symm, below_then HX.out HX.out.size HB3.out⟩
    · have hke : k = x.f1.length := by omega
      subst hke
      have g1 : decide (x.f1.length < x.f1.length) = false := decide_eq_false (by omega)
      have HV0 : Aside0 (eqQ sameNode x.f1 y.f1 = true) := ⟨by have h := HN.out; rwa [List.take_length, HE4.out, List.take_length] at h⟩
      have HF : Aside0 (sameGraph x y = true) := ⟨by unfold sameGraph; rw [HE0.out, HE1.out, HE2.out, HE3.out, HV0.out]; rfl⟩
      go_wp2
      go_ret
      exact ⟨ret_bool HF.out.symm, below_then HX.out HX.out.size HB.out⟩
set_option maxHeartbeats 8000000 in
set_option maxRecDepth 100000 in
theorem sEngSame_any (x y : TEng) (A0 : Option Addr) (c0 : Nat) (A1 : Option Addr) (c1 : Nat) (A2 : Option Addr) (c2 : Nat) (A3 : Option Addr) (c3 : Nat) (A4 : Option Addr) (c4 : Nat) (B0 : Option Addr) (d0 : Nat) (B1 : Option Addr) (d1 : Nat) (B2 : Option Addr) (d2 : Nat) (B3 : Option Addr) (d3 : Nat) (B4 : Option Addr) (d4 : Nat) (w : World) (hA0 : IsS kRule w x.f0 A0 c0) (hA1 : IsS kGraph w x.f1 A1 c1) (hA2 : IsS kEv w x.f2 A2 c2) (hA3 : IsS (Kd.int .i64) w x.f3 A3 c3) (hA4 : IsS kFire w x.f4 A4 c4) (hB0 : IsS kRule w y.f0 B0 d0) (hB1 : IsS kGraph w y.f1 B1 d1) (hB2 : IsS kEv w y.f2 B2 d2) (hB3 : IsS (Kd.int .i64) w y.f3 B3 d3) (hB4 : IsS kFire w y.f4 B4 d4) :
    Calls Try.prog 5 #[.agg #[.slice A0 x.f0.length c0, .slice A1 x.f1.length c1, .slice A2 x.f2.length c2, .slice A3 x.f3.length c3, .slice A4 x.f4.length c4], .agg #[.slice B0 y.f0.length d0, .slice B1 y.f1.length d1, .slice B2 y.f2.length d2, .slice B3 y.f3.length d3, .slice B4 y.f4.length d4]] w fun e w' => e = .returned (.bool (sameEng x y)) ∧ Below w.heap.size w w' := by
  obtain ⟨hb0, bP, bQ⟩ := boxes2 w #[.slice A0 x.f0.length c0, .slice A1 x.f1.length c1, .slice A2 x.f2.length c2, .slice A3 x.f3.length c3, .slice A4 x.f4.length c4] #[.slice B0 y.f0.length d0, .slice B1 y.f1.length d1, .slice B2 y.f2.length d2, .slice B3 y.f3.length d3, .slice B4 y.f4.length d4] 36 36
  have hna0 := hA0.len
  have hnb0 := hB0.len
  have HA0 := Aside0.mk (hA0.below hb0)
  have HB0 := Aside0.mk (hB0.below hb0)
  have hna1 := hA1.len
  have hnb1 := hB1.len
  have HA1 := Aside0.mk (hA1.below hb0)
  have HB1 := Aside0.mk (hB1.below hb0)
  have hna2 := hA2.len
  have hnb2 := hB2.len
  have HA2 := Aside0.mk (hA2.below hb0)
  have HB2 := Aside0.mk (hB2.below hb0)
  have hna3 := hA3.len
  have hnb3 := hB3.len
  have HA3 := Aside0.mk (hA3.below hb0)
  have HB3 := Aside0.mk (hB3.below hb0)
  have hna4 := hA4.len
  have hnb4 := hB4.len
  have HA4 := Aside0.mk (hA4.below hb0)
  have HB4 := Aside0.mk (hB4.below hb0)
  clear hA0 hB0 hA1 hB1 hA2 hB2 hA3 hB3 hA4 hB4
  obtain ⟨W, hW⟩ : ∃ W, W = (w.alloc (.cells #[.slice A0 x.f0.length c0, .slice A1 x.f1.length c1, .slice A2 x.f2.length c2, .slice A3 x.f3.length c3, .slice A4 x.f4.length c4] 36)).alloc (.cells #[.slice B0 y.f0.length d0, .slice B1 y.f1.length d1, .slice B2 y.f2.length d2, .slice B3 y.f3.length d3, .slice B4 y.f4.length d4] 36) := ⟨_, rfl⟩
  rw [← hW] at hb0 bP bQ HA0 HB0 HA1 HB1 HA2 HB2 HA3 HB3 HA4 HB4
  have HW := Aside0.mk hW
  have HX := Aside0.mk hb0
  clear hb0 hW
  have p0 := (blk_cell bP 0).trans rfl
  have q0 := (blk_cell bQ 0).trans rfl
  have p1 := (blk_cell bP 1).trans rfl
  have q1 := (blk_cell bQ 1).trans rfl
  have p2 := (blk_cell bP 2).trans rfl
  have q2 := (blk_cell bQ 2).trans rfl
  have p3 := (blk_cell bP 3).trans rfl
  have q3 := (blk_cell bQ 3).trans rfl
  have p4 := (blk_cell bP 4).trans rfl
  have q4 := (blk_cell bQ 4).trans rfl
  have BP := Aside0.mk bP
  have BQ := Aside0.mk bQ
  clear bP bQ
  have HC0 : Aside0 (Below W.heap.size W W) := ⟨Below.refl _ _⟩
  cases h0 : (eqQ sameR x.f0 y.f0) with
  | false =>
    have HF : Aside0 (sameEng x y = false) := ⟨by unfold sameEng; rw [h0]; simp⟩
    have HE0 := Aside0.mk h0
    clear h0
    go_enter Try.func5, Try.ntmps5
    go_upto_region 1 with fail
    rw [← HW.out]
    go_wp2_with (go_at_call 14; refine (sRulesSame_any A0 B0 c0 d0 x.f0 y.f0 _ (HA0.out.below HC0.out) (HB0.out.below HC0.out) ).mono ?_; rintro e w1 ⟨rfl, hb1⟩; rw [HE0.out]; have p1_0 := pw_cell_below hb1 p0; have q1_0 := pw_cell_below hb1 q0; have p1_1 := pw_cell_below hb1 p1; have q1_1 := pw_cell_below hb1 q1; have p1_2 := pw_cell_below hb1 p2; have q1_2 := pw_cell_below hb1 q2; have p1_3 := pw_cell_below hb1 p3; have q1_3 := pw_cell_below hb1 q3; have p1_4 := pw_cell_below hb1 p4; have q1_4 := pw_cell_below hb1 q4; have HC1 := Aside0.mk (below_then HC0.out HC0.out.size hb1); clear hb1)
    go_ret
    exact ⟨ret_bool HF.out.symm, below_then HX.out HX.out.size HC1.out⟩
  | true =>
  have HE0 := Aside0.mk h0
  clear h0
  rcases Decidable.em (x.f1.length = y.f1.length) with h1 | h1
  rotate_left
  · skip
    have n1 : ((x.f1.length : Int) != (y.f1.length : Int)) = true := by simp; omega
    have HF : Aside0 (sameEng x y = false) := ⟨by unfold sameEng; rw [eqQ_len sameGraph x.f1 y.f1 h1]; simp⟩
    clear h1
    go_enter Try.func5, Try.ntmps5
    go_upto_region 1 with fail
    rw [← HW.out]
    go_wp2_with (go_at_call 14; refine (sRulesSame_any A0 B0 c0 d0 x.f0 y.f0 _ (HA0.out.below HC0.out) (HB0.out.below HC0.out) ).mono ?_; rintro e w1 ⟨rfl, hb1⟩; rw [HE0.out]; have p1_0 := pw_cell_below hb1 p0; have q1_0 := pw_cell_below hb1 q0; have p1_1 := pw_cell_below hb1 p1; have q1_1 := pw_cell_below hb1 q1; have p1_2 := pw_cell_below hb1 p2; have q1_2 := pw_cell_below hb1 q2; have p1_3 := pw_cell_below hb1 p3; have q1_3 := pw_cell_below hb1 q3; have p1_4 := pw_cell_below hb1 p4; have q1_4 := pw_cell_below hb1 q4; have HC1 := Aside0.mk (below_then HC0.out HC0.out.size hb1); clear hb1)
    go_ret
    exact ⟨ret_bool HF.out.symm, below_then HX.out HX.out.size HC1.out⟩
  have n1 : ((x.f1.length : Int) != (y.f1.length : Int)) = false := by simp [h1]
  have HE1 := Aside0.mk h1
  clear h1
  cases h2 : (eqQ sameEv x.f2 y.f2) with
  | false =>
    have HF : Aside0 (sameEng x y = false) := ⟨by unfold sameEng; rw [h2]; simp⟩
    have HE2 := Aside0.mk h2
    clear h2
    go_enter Try.func5, Try.ntmps5
    go_upto_region 1 with fail
    rw [← HW.out]
    go_wp2_with (first | (go_at_call 15; refine (sEvsSame_any A2 B2 c2 d2 x.f2 y.f2 _ (HA2.out.below HC1.out) (HB2.out.below HC1.out) ).mono ?_; rintro e w2 ⟨rfl, hb2⟩; rw [HE2.out]; have p2_0 := pw_cell_below hb2 p1_0; have q2_0 := pw_cell_below hb2 q1_0; have p2_1 := pw_cell_below hb2 p1_1; have q2_1 := pw_cell_below hb2 q1_1; have p2_2 := pw_cell_below hb2 p1_2; have q2_2 := pw_cell_below hb2 q1_2; have p2_3 := pw_cell_below hb2 p1_3; have q2_3 := pw_cell_below hb2 q1_3; have p2_4 := pw_cell_below hb2 p1_4; have q2_4 := pw_cell_below hb2 q1_4; have HC2 := Aside0.mk (below_then HC1.out HC1.out.size hb2); clear hb2) | (go_at_call 14; refine (sRulesSame_any A0 B0 c0 d0 x.f0 y.f0 _ (HA0.out.below HC0.out) (HB0.out.below HC0.out) ).mono ?_; rintro e w1 ⟨rfl, hb1⟩; rw [HE0.out]; have p1_0 := pw_cell_below hb1 p0; have q1_0 := pw_cell_below hb1 q0; have p1_1 := pw_cell_below hb1 p1; have q1_1 := pw_cell_below hb1 q1; have p1_2 := pw_cell_below hb1 p2; have q1_2 := pw_cell_below hb1 q2; have p1_3 := pw_cell_below hb1 p3; have q1_3 := pw_cell_below hb1 q3; have p1_4 := pw_cell_below hb1 p4; have q1_4 := pw_cell_below hb1 q4; have HC1 := Aside0.mk (below_then HC0.out HC0.out.size hb1); clear hb1))
    go_ret
    exact ⟨ret_bool HF.out.symm, below_then HX.out HX.out.size HC2.out⟩
  | true =>
  have HE2 := Aside0.mk h2
  clear h2
  rcases Decidable.em (x.f3.length = y.f3.length) with h3 | h3
  rotate_left
  · skip
    have n3 : ((x.f3.length : Int) != (y.f3.length : Int)) = true := by simp; omega
    have HF : Aside0 (sameEng x y = false) := ⟨by unfold sameEng; rw [eqQ_len sameI x.f3 y.f3 h3]; simp⟩
    clear h3
    go_enter Try.func5, Try.ntmps5
    go_upto_region 1 with fail
    rw [← HW.out]
    go_wp2_with (first | (go_at_call 15; refine (sEvsSame_any A2 B2 c2 d2 x.f2 y.f2 _ (HA2.out.below HC1.out) (HB2.out.below HC1.out) ).mono ?_; rintro e w2 ⟨rfl, hb2⟩; rw [HE2.out]; have p2_0 := pw_cell_below hb2 p1_0; have q2_0 := pw_cell_below hb2 q1_0; have p2_1 := pw_cell_below hb2 p1_1; have q2_1 := pw_cell_below hb2 q1_1; have p2_2 := pw_cell_below hb2 p1_2; have q2_2 := pw_cell_below hb2 q1_2; have p2_3 := pw_cell_below hb2 p1_3; have q2_3 := pw_cell_below hb2 q1_3; have p2_4 := pw_cell_below hb2 p1_4; have q2_4 := pw_cell_below hb2 q1_4; have HC2 := Aside0.mk (below_then HC1.out HC1.out.size hb2); clear hb2) | (go_at_call 14; refine (sRulesSame_any A0 B0 c0 d0 x.f0 y.f0 _ (HA0.out.below HC0.out) (HB0.out.below HC0.out) ).mono ?_; rintro e w1 ⟨rfl, hb1⟩; rw [HE0.out]; have p1_0 := pw_cell_below hb1 p0; have q1_0 := pw_cell_below hb1 q0; have p1_1 := pw_cell_below hb1 p1; have q1_1 := pw_cell_below hb1 q1; have p1_2 := pw_cell_below hb1 p2; have q1_2 := pw_cell_below hb1 q2; have p1_3 := pw_cell_below hb1 p3; have q1_3 := pw_cell_below hb1 q3; have p1_4 := pw_cell_below hb1 p4; have q1_4 := pw_cell_below hb1 q4; have HC1 := Aside0.mk (below_then HC0.out HC0.out.size hb1); clear hb1))
    go_ret
    exact ⟨ret_bool HF.out.symm, below_then HX.out HX.out.size HC2.out⟩
  have n3 : ((x.f3.length : Int) != (y.f3.length : Int)) = false := by simp [h3]
  have HE3 := Aside0.mk h3
  clear h3
  cases h4 : (eqQ sameFire x.f4 y.f4) with
  | false =>
    have HF : Aside0 (sameEng x y = false) := ⟨by unfold sameEng; rw [h4]; simp⟩
    have HE4 := Aside0.mk h4
    clear h4
    go_enter Try.func5, Try.ntmps5
    go_upto_region 1 with fail
    rw [← HW.out]
    go_wp2_with (first | (go_at_call 16; refine (l9Fires_any A4 B4 c4 d4 x.f4 y.f4 _ (HA4.out.below HC2.out) (HB4.out.below HC2.out) ).mono ?_; rintro e w3 ⟨rfl, hb3⟩; rw [HE4.out]; have p3_0 := pw_cell_below hb3 p2_0; have q3_0 := pw_cell_below hb3 q2_0; have p3_1 := pw_cell_below hb3 p2_1; have q3_1 := pw_cell_below hb3 q2_1; have p3_2 := pw_cell_below hb3 p2_2; have q3_2 := pw_cell_below hb3 q2_2; have p3_3 := pw_cell_below hb3 p2_3; have q3_3 := pw_cell_below hb3 q2_3; have p3_4 := pw_cell_below hb3 p2_4; have q3_4 := pw_cell_below hb3 q2_4; have HC3 := Aside0.mk (below_then HC2.out HC2.out.size hb3); clear hb3) | (go_at_call 15; refine (sEvsSame_any A2 B2 c2 d2 x.f2 y.f2 _ (HA2.out.below HC1.out) (HB2.out.below HC1.out) ).mono ?_; rintro e w2 ⟨rfl, hb2⟩; rw [HE2.out]; have p2_0 := pw_cell_below hb2 p1_0; have q2_0 := pw_cell_below hb2 q1_0; have p2_1 := pw_cell_below hb2 p1_1; have q2_1 := pw_cell_below hb2 q1_1; have p2_2 := pw_cell_below hb2 p1_2; have q2_2 := pw_cell_below hb2 q1_2; have p2_3 := pw_cell_below hb2 p1_3; have q2_3 := pw_cell_below hb2 q1_3; have p2_4 := pw_cell_below hb2 p1_4; have q2_4 := pw_cell_below hb2 q1_4; have HC2 := Aside0.mk (below_then HC1.out HC1.out.size hb2); clear hb2) | (go_at_call 14; refine (sRulesSame_any A0 B0 c0 d0 x.f0 y.f0 _ (HA0.out.below HC0.out) (HB0.out.below HC0.out) ).mono ?_; rintro e w1 ⟨rfl, hb1⟩; rw [HE0.out]; have p1_0 := pw_cell_below hb1 p0; have q1_0 := pw_cell_below hb1 q0; have p1_1 := pw_cell_below hb1 p1; have q1_1 := pw_cell_below hb1 q1; have p1_2 := pw_cell_below hb1 p2; have q1_2 := pw_cell_below hb1 q2; have p1_3 := pw_cell_below hb1 p3; have q1_3 := pw_cell_below hb1 q3; have p1_4 := pw_cell_below hb1 p4; have q1_4 := pw_cell_below hb1 q4; have HC1 := Aside0.mk (below_then HC0.out HC0.out.size hb1); clear hb1))
    go_ret
    exact ⟨ret_bool HF.out.symm, below_then HX.out HX.out.size HC3.out⟩
  | true =>
  have HE4 := Aside0.mk h4
  clear h4
  go_enter Try.func5, Try.ntmps5
  go_upto_region 1 with fail
  rw [← HW.out]
  go_wp2_with (first | (go_at_call 16; refine (l9Fires_any A4 B4 c4 d4 x.f4 y.f4 _ (HA4.out.below HC2.out) (HB4.out.below HC2.out) ).mono ?_; rintro e w3 ⟨rfl, hb3⟩; rw [HE4.out]; have p3_0 := pw_cell_below hb3 p2_0; have q3_0 := pw_cell_below hb3 q2_0; have p3_1 := pw_cell_below hb3 p2_1; have q3_1 := pw_cell_below hb3 q2_1; have p3_2 := pw_cell_below hb3 p2_2; have q3_2 := pw_cell_below hb3 q2_2; have p3_3 := pw_cell_below hb3 p2_3; have q3_3 := pw_cell_below hb3 q2_3; have p3_4 := pw_cell_below hb3 p2_4; have q3_4 := pw_cell_below hb3 q2_4; have HC3 := Aside0.mk (below_then HC2.out HC2.out.size hb3); clear hb3) | (go_at_call 15; refine (sEvsSame_any A2 B2 c2 d2 x.f2 y.f2 _ (HA2.out.below HC1.out) (HB2.out.below HC1.out) ).mono ?_; rintro e w2 ⟨rfl, hb2⟩; rw [HE2.out]; have p2_0 := pw_cell_below hb2 p1_0; have q2_0 := pw_cell_below hb2 q1_0; have p2_1 := pw_cell_below hb2 p1_1; have q2_1 := pw_cell_below hb2 q1_1; have p2_2 := pw_cell_below hb2 p1_2; have q2_2 := pw_cell_below hb2 q1_2; have p2_3 := pw_cell_below hb2 p1_3; have q2_3 := pw_cell_below hb2 q1_3; have p2_4 := pw_cell_below hb2 p1_4; have q2_4 := pw_cell_below hb2 q1_4; have HC2 := Aside0.mk (below_then HC1.out HC1.out.size hb2); clear hb2) | (go_at_call 14; refine (sRulesSame_any A0 B0 c0 d0 x.f0 y.f0 _ (HA0.out.below HC0.out) (HB0.out.below HC0.out) ).mono ?_; rintro e w1 ⟨rfl, hb1⟩; rw [HE0.out]; have p1_0 := pw_cell_below hb1 p0; have q1_0 := pw_cell_below hb1 q0; have p1_1 := pw_cell_below hb1 p1; have q1_1 := pw_cell_below hb1 q1; have p1_2 := pw_cell_below hb1 p2; have q1_2 := pw_cell_below hb1 q2; have p1_3 := pw_cell_below hb1 p3; have q1_3 := pw_cell_below hb1 q3; have p1_4 := pw_cell_below hb1 p4; have q1_4 := pw_cell_below hb1 q4; have HC1 := Aside0.mk (below_then HC0.out HC0.out.size hb1); clear hb1))
  clear p0 q0 p1 q1 p2 q2 p3 q3 p4 q4 p1_0 q1_0 p1_1 q1_1 p1_2 q1_2 p1_3 q1_3 p1_4 q1_4 p2_0 q2_0 p2_1 q2_1 p2_2 q2_2 p2_3 q2_3 p2_4 q2_4 p3_0 q3_0 p3_1 q3_1 p3_2 q3_2 p3_3 q3_3 p3_4 q3_4 n1 n3
  have pL0 := (blk_cell (blk_below BP.out HC3.out) 1).trans rfl
  have qL0 := (blk_cell (blk_below BQ.out HC3.out) 1).trans rfl
  clear pL0 qL0
  go_loopw [5] (fun vi wr => ∃ (k : Nat), k ≤ x.f1.length ∧ vi = .int .i64 k ∧ Aside0 (eqQ sameGraph (x.f1.take k) (y.f1.take k) = true) ∧ Aside0 (Below W.heap.size W wr)) (fun vi _ => x.f1.length - (intOf vi).toNat)
  case atStart => exact ⟨0, Nat.zero_le _, rfl, ⟨by simp [eqQ]⟩, HC3⟩
  case round =>
    obtain ⟨k, hk, rfl, HN, HB⟩ := hrel
    have p3 := (blk_cell (blk_below BP.out HB.out) 1).trans rfl
    have q3 := (blk_cell (blk_below BQ.out HB.out) 1).trans rfl
    by_cases hlt : k < x.f1.length
    · have g1 : decide (k < x.f1.length) = true := decide_eq_true hlt
      have i1 : (k : Int) < x.f1.length := by omega
      have hltb : k < y.f1.length := by have := HE1.out; omega
      have i2 : (k : Int) < y.f1.length := by omega
      obtain ⟨ada, P1, r1, rfl, a0_, a1_, a2_, a3_, a4_, ja1⟩ := atGraph (HA1.out.below HB.out) k hlt
      obtain ⟨adb, Q1, s1, rfl, b0_, b1_, b2_, b3_, b4_, jb1⟩ := atGraph (HB1.out.below HB.out) k hltb
      have HSN := Aside0.mk (eqQ_snoc sameGraph zGraph x.f1 y.f1 k hlt HE1.out)
      have HNO := Aside0.mk (eqQ_no sameGraph zGraph x.f1 y.f1 k hlt HE1.out)
      generalize x.f1.getD k zGraph = o at a0_ a1_ a2_ a3_ a4_ ja1 HSN HNO
      generalize y.f1.getD k zGraph = u at b0_ b1_ b2_ b3_ b4_ jb1 HSN HNO
      have HIX1 := Aside0.mk ja1
      have HIY1 := Aside0.mk jb1
      have HF6 : Aside0 (∀ w', Below wr.heap.size wr w' → (fun w' => (w'.cell? ⟨w.heap.size, 1, none⟩ = some (.slice (some ada) x.f1.length c1) ∧ w'.cell? ⟨w.heap.size + 1, 1, none⟩ = some (.slice (some adb) y.f1.length d1)) ∧ (w'.cell? (ada.add (k * 5)) = some (.int .i64 o.f0) ∧ w'.cell? ⟨(ada.add (k * 5)).block, (ada.add (k * 5)).off + 1, none⟩ = some (.slice P1 o.f1.length r1) ∧ w'.cell? ⟨(ada.add (k * 5)).block, (ada.add (k * 5)).off + 2, none⟩ = some (.int .i64 o.f2) ∧ w'.cell? ⟨(ada.add (k * 5)).block, (ada.add (k * 5)).off + 3, none⟩ = some (.int .i64 o.f3) ∧ w'.cell? ⟨(ada.add (k * 5)).block, (ada.add (k * 5)).off + 4, none⟩ = some (.bool o.f4)) ∧ (w'.cell? (adb.add (k * 5)) = some (.int .i64 u.f0) ∧ w'.cell? ⟨(adb.add (k * 5)).block, (adb.add (k * 5)).off + 1, none⟩ = some (.slice Q1 u.f1.length s1) ∧ w'.cell? ⟨(adb.add (k * 5)).block, (adb.add (k * 5)).off + 2, none⟩ = some (.int .i64 u.f2) ∧ w'.cell? ⟨(adb.add (k * 5)).block, (adb.add (k * 5)).off + 3, none⟩ = some (.int .i64 u.f3) ∧ w'.cell? ⟨(adb.add (k * 5)).block, (adb.add (k * 5)).off + 4, none⟩ = some (.bool u.f4))) w') := ⟨fun w' h => ⟨⟨pw_cell_below h p3, pw_cell_below h q3⟩, ⟨pw_cell_below h a0_, pw_cell_below h a1_, pw_cell_below h a2_, pw_cell_below h a3_, pw_cell_below h a4_⟩, ⟨pw_cell_below h b0_, pw_cell_below h b1_, pw_cell_below h b2_, pw_cell_below h b3_, pw_cell_below h b4_⟩⟩⟩
      have HB0 : Below wr.heap.size wr wr.drew := below_drew (Below.refl _ _)
      clear a0_ a1_ a2_ a3_ a4_ ja1 b0_ b1_ b2_ b3_ b4_ jb1
      cases hd : sameGraph o u with
      | true =>
        have HEr : Aside0 (eqQ sameGraph (x.f1.take (k + 1)) (y.f1.take (k + 1)) = true) := ⟨by rw [HSN.out, HN.out, hd]; rfl⟩
        have HD := Aside0.mk hd
        clear hd
        go_upto_region 6 with fail
        refine Za.regionL (fun w' => (w'.cell? ⟨w.heap.size, 1, none⟩ = some (.slice (some ada) x.f1.length c1) ∧ w'.cell? ⟨w.heap.size + 1, 1, none⟩ = some (.slice (some adb) y.f1.length d1)) ∧ (w'.cell? (ada.add (k * 5)) = some (.int .i64 o.f0) ∧ w'.cell? ⟨(ada.add (k * 5)).block, (ada.add (k * 5)).off + 1, none⟩ = some (.slice P1 o.f1.length r1) ∧ w'.cell? ⟨(ada.add (k * 5)).block, (ada.add (k * 5)).off + 2, none⟩ = some (.int .i64 o.f2) ∧ w'.cell? ⟨(ada.add (k * 5)).block, (ada.add (k * 5)).off + 3, none⟩ = some (.int .i64 o.f3) ∧ w'.cell? ⟨(ada.add (k * 5)).block, (ada.add (k * 5)).off + 4, none⟩ = some (.bool o.f4)) ∧ (w'.cell? (adb.add (k * 5)) = some (.int .i64 u.f0) ∧ w'.cell? ⟨(adb.add (k * 5)).block, (adb.add (k * 5)).off + 1, none⟩ = some (.slice Q1 u.f1.length s1) ∧ w'.cell? ⟨(adb.add (k * 5)).block, (adb.add (k * 5)).off + 2, none⟩ = some (.int .i64 u.f2) ∧ w'.cell? ⟨(adb.add (k * 5)).block, (adb.add (k * 5)).off + 3, none⟩ = some (.int .i64 u.f3) ∧ w'.cell? ⟨(adb.add (k * 5)).block, (adb.add (k * 5)).off + 4, none⟩ = some (.bool u.f4))) [] (by kernel_rfl) ?_
        have HS : (fun w' => (w'.cell? ⟨w.heap.size, 1, none⟩ = some (.slice (some ada) x.f1.length c1) ∧ w'.cell? ⟨w.heap.size + 1, 1, none⟩ = some (.slice (some adb) y.f1.length d1)) ∧ (w'.cell? (ada.add (k * 5)) = some (.int .i64 o.f0) ∧ w'.cell? ⟨(ada.add (k * 5)).block, (ada.add (k * 5)).off + 1, none⟩ = some (.slice P1 o.f1.length r1) ∧ w'.cell? ⟨(ada.add (k * 5)).block, (ada.add (k * 5)).off + 2, none⟩ = some (.int .i64 o.f2) ∧ w'.cell? ⟨(ada.add (k * 5)).block, (ada.add (k * 5)).off + 3, none⟩ = some (.int .i64 o.f3) ∧ w'.cell? ⟨(ada.add (k * 5)).block, (ada.add (k * 5)).off + 4, none⟩ = some (.bool o.f4)) ∧ (w'.cell? (adb.add (k * 5)) = some (.int .i64 u.f0) ∧ w'.cell? ⟨(adb.add (k * 5)).block, (adb.add (k * 5)).off + 1, none⟩ = some (.slice Q1 u.f1.length s1) ∧ w'.cell? ⟨(adb.add (k * 5)).block, (adb.add (k * 5)).off + 2, none⟩ = some (.int .i64 u.f2) ∧ w'.cell? ⟨(adb.add (k * 5)).block, (adb.add (k * 5)).off + 3, none⟩ = some (.int .i64 u.f3) ∧ w'.cell? ⟨(adb.add (k * 5)).block, (adb.add (k * 5)).off + 4, none⟩ = some (.bool u.f4))) wr.drew := HF6.out _ HB0
        refine Za.takeL 0 (v := ?vat0) rfl (by kernel_rfl) (by kernel_rfl) (by kernel_rfl) (by kernel_rfl) (fun _ _ _ h => h) (Or.inl ⟨by rfl, ?hyat0⟩) HS ?restat0
        case hyat0 => (intro w hSw; (try dsimp only at hSw); go_simp; try with_reducible rfl)
        (try simp only [Act.put, List.setIfInBounds_toArray, List.set_cons_zero, List.set_cons_succ])
        refine Za.takeL 1 (v := ?vat1) rfl (by kernel_rfl) (by kernel_rfl) (by kernel_rfl) (by kernel_rfl) (fun _ _ _ h => h) (Or.inl ⟨by rfl, ?hyat1⟩) HS ?restat1
        case hyat1 => (intro w hSw; (try dsimp only at hSw); go_simp; try with_reducible rfl)
        (try simp only [Act.put, List.setIfInBounds_toArray, List.set_cons_zero, List.set_cons_succ])
        refine Za.takeL 2 (v := ?vat2) rfl (by kernel_rfl) (by kernel_rfl) (by kernel_rfl) (by kernel_rfl) (fun _ _ _ h => h) (Or.inl ⟨by rfl, ?hyat2⟩) HS ?restat2
        case hyat2 => (intro w hSw; (try dsimp only at hSw); go_simp; try with_reducible rfl)
        (try simp only [Act.put, List.setIfInBounds_toArray, List.set_cons_zero, List.set_cons_succ])
        refine Za.takeL 3 (v := ?vat3) rfl (by kernel_rfl) (by kernel_rfl) (by kernel_rfl) (by kernel_rfl) (fun _ _ _ h => h) (Or.inl ⟨by rfl, ?hyat3⟩) HS ?restat3
        case hyat3 => (intro w hSw; (try dsimp only at hSw); go_simp; try with_reducible rfl)
        (try simp only [Act.put, List.setIfInBounds_toArray, List.set_cons_zero, List.set_cons_succ])
        refine Za.takeL 4 (v := ?vat4) rfl (by kernel_rfl) (by kernel_rfl) (by kernel_rfl) (by kernel_rfl) (fun _ _ _ h => h) (Or.inl ⟨by rfl, ?hyat4⟩) HS ?restat4
        case hyat4 => (intro w hSw; (try dsimp only at hSw); go_simp; try with_reducible rfl)
        (try simp only [Act.put, List.setIfInBounds_toArray, List.set_cons_zero, List.set_cons_succ])
        refine Za.takeL 5 (v := ?vat5) rfl (by kernel_rfl) (by kernel_rfl) (by kernel_rfl) (by kernel_rfl) (fun _ _ _ h => h) (Or.inl ⟨by rfl, ?hyat5⟩) HS ?restat5
        case hyat5 => (intro w hSw; (try dsimp only at hSw); go_simp; try with_reducible rfl)
        (try simp only [Act.put, List.setIfInBounds_toArray, List.set_cons_zero, List.set_cons_succ])
        refine Za.takeL 6 (v := ?vat6) rfl (by kernel_rfl) (by kernel_rfl) (by kernel_rfl) (by kernel_rfl) (fun _ _ _ h => h) (Or.inl ⟨by rfl, ?hyat6⟩) HS ?restat6
        case hyat6 => (intro w hSw; (try dsimp only at hSw); go_simp; try with_reducible rfl)
        (try simp only [Act.put, List.setIfInBounds_toArray, List.set_cons_zero, List.set_cons_succ])
        refine Za.takeL 7 (v := ?vat7) rfl (by kernel_rfl) (by kernel_rfl) (by kernel_rfl) (by kernel_rfl) (fun _ _ _ h => h) (Or.inl ⟨by rfl, ?hyat7⟩) HS ?restat7
        case hyat7 => (intro w hSw; (try dsimp only at hSw); go_simp; try with_reducible rfl)
        (try simp only [Act.put, List.setIfInBounds_toArray, List.set_cons_zero, List.set_cons_succ])
        refine Za.takeL 8 (v := ?vat8) rfl (by kernel_rfl) (by kernel_rfl) (by kernel_rfl) (by kernel_rfl) (fun _ _ _ h => h) (Or.inl ⟨by rfl, ?hyat8⟩) HS ?restat8
        case hyat8 => (intro w hSw; (try dsimp only at hSw); go_simp; try with_reducible rfl)
        (try simp only [Act.put, List.setIfInBounds_toArray, List.set_cons_zero, List.set_cons_succ])
        refine Za.takeL 9 (v := ?vat9) rfl (by kernel_rfl) (by kernel_rfl) (by kernel_rfl) (by kernel_rfl) (fun _ _ _ h => h) (Or.inl ⟨by rfl, ?hyat9⟩) HS ?restat9
        case hyat9 => (intro w hSw; (try dsimp only at hSw); go_simp; try with_reducible rfl)
        (try simp only [Act.put, List.setIfInBounds_toArray, List.set_cons_zero, List.set_cons_succ])
        clear HS
        refine Za.nextL 10 (by kernel_rfl) rfl (fun K' hK => ?_)
        go_simp
        (go_at_call 17; refine (sGraphSame_any o u P1 r1 Q1 s1 _ (HIX1.out.below HB0) (HIY1.out.below HB0)).mono ?_; rintro e w4 ⟨rfl, hb4⟩; rw [HD.out]; have HB4 : Below wr.heap.size wr w4 := keepD hb4; have HB3 := Aside0.mk (below_then HB.out HB.out.size HB4); clear hb4)
        go_wp2_with fail
        refine hK.out _ _ ⟨fun _ => HF6.out _ HB4, ?_⟩
        clear hK K'
        (try simp only [Act.put, List.setIfInBounds_toArray, List.set_cons_zero, List.set_cons_succ])
        have HS : (fun w' => (w'.cell? ⟨w.heap.size, 1, none⟩ = some (.slice (some ada) x.f1.length c1) ∧ w'.cell? ⟨w.heap.size + 1, 1, none⟩ = some (.slice (some adb) y.f1.length d1)) ∧ (w'.cell? (ada.add (k * 5)) = some (.int .i64 o.f0) ∧ w'.cell? ⟨(ada.add (k * 5)).block, (ada.add (k * 5)).off + 1, none⟩ = some (.slice P1 o.f1.length r1) ∧ w'.cell? ⟨(ada.add (k * 5)).block, (ada.add (k * 5)).off + 2, none⟩ = some (.int .i64 o.f2) ∧ w'.cell? ⟨(ada.add (k * 5)).block, (ada.add (k * 5)).off + 3, none⟩ = some (.int .i64 o.f3) ∧ w'.cell? ⟨(ada.add (k * 5)).block, (ada.add (k * 5)).off + 4, none⟩ = some (.bool o.f4)) ∧ (w'.cell? (adb.add (k * 5)) = some (.int .i64 u.f0) ∧ w'.cell? ⟨(adb.add (k * 5)).block, (adb.add (k * 5)).off + 1, none⟩ = some (.slice Q1 u.f1.length s1) ∧ w'.cell? ⟨(adb.add (k * 5)).block, (adb.add (k * 5)).off + 2, none⟩ = some (.int .i64 u.f2) ∧ w'.cell? ⟨(adb.add (k * 5)).block, (adb.add (k * 5)).off + 3, none⟩ = some (.int .i64 u.f3) ∧ w'.cell? ⟨(adb.add (k * 5)).block, (adb.add (k * 5)).off + 4, none⟩ = some (.bool u.f4))) w4 := HF6.out _ HB4
        refine Za.takeL 11 (v := ?vat11) rfl (by kernel_rfl) (by kernel_rfl) (by kernel_rfl) (by kernel_rfl) (fun _ _ _ h => h) (Or.inl ⟨by rfl, ?hyat11⟩) HS ?restat11
        case hyat11 => (intro w hSw; (try dsimp only at hSw); go_simp; try with_reducible rfl)
        (try simp only [Act.put, List.setIfInBounds_toArray, List.set_cons_zero, List.set_cons_succ])
        refine Za.Walk.done (by kernel_rfl) ?_
        clear HS
        go_wp2
        go_roundw
        case rel => exact ⟨k + 1, by omega, by go_num, HEr, HB3⟩
        case measure => simp [intOf]; omega
      | false =>
        have HF : Aside0 (sameEng x y = false) := ⟨by unfold sameEng; rw [HNO.out hd]; simp⟩
        have HD := Aside0.mk hd
        clear hd
        go_upto_region 6 with fail
        refine Za.regionL (fun w' => (w'.cell? ⟨w.heap.size, 1, none⟩ = some (.slice (some ada) x.f1.length c1) ∧ w'.cell? ⟨w.heap.size + 1, 1, none⟩ = some (.slice (some adb) y.f1.length d1)) ∧ (w'.cell? (ada.add (k * 5)) = some (.int .i64 o.f0) ∧ w'.cell? ⟨(ada.add (k * 5)).block, (ada.add (k * 5)).off + 1, none⟩ = some (.slice P1 o.f1.length r1) ∧ w'.cell? ⟨(ada.add (k * 5)).block, (ada.add (k * 5)).off + 2, none⟩ = some (.int .i64 o.f2) ∧ w'.cell? ⟨(ada.add (k * 5)).block, (ada.add (k * 5)).off + 3, none⟩ = some (.int .i64 o.f3) ∧ w'.cell? ⟨(ada.add (k * 5)).block, (ada.add (k * 5)).off + 4, none⟩ = some (.bool o.f4)) ∧ (w'.cell? (adb.add (k * 5)) = some (.int .i64 u.f0) ∧ w'.cell? ⟨(adb.add (k * 5)).block, (adb.add (k * 5)).off + 1, none⟩ = some (.slice Q1 u.f1.length s1) ∧ w'.cell? ⟨(adb.add (k * 5)).block, (adb.add (k * 5)).off + 2, none⟩ = some (.int .i64 u.f2) ∧ w'.cell? ⟨(adb.add (k * 5)).block, (adb.add (k * 5)).off + 3, none⟩ = some (.int .i64 u.f3) ∧ w'.cell? ⟨(adb.add (k * 5)).block, (adb.add (k * 5)).off + 4, none⟩ = some (.bool u.f4))) [] (by kernel_rfl) ?_
        have HS : (fun w' => (w'.cell? ⟨w.heap.size, 1, none⟩ = some (.slice (some ada) x.f1.length c1) ∧ w'.cell? ⟨w.heap.size + 1, 1, none⟩ = some (.slice (some adb) y.f1.length d1)) ∧ (w'.cell? (ada.add (k * 5)) = some (.int .i64 o.f0) ∧ w'.cell? ⟨(ada.add (k * 5)).block, (ada.add (k * 5)).off + 1, none⟩ = some (.slice P1 o.f1.length r1) ∧ w'.cell? ⟨(ada.add (k * 5)).block, (ada.add (k * 5)).off + 2, none⟩ = some (.int .i64 o.f2) ∧ w'.cell? ⟨(ada.add (k * 5)).block, (ada.add (k * 5)).off + 3, none⟩ = some (.int .i64 o.f3) ∧ w'.cell? ⟨(ada.add (k * 5)).block, (ada.add (k * 5)).off + 4, none⟩ = some (.bool o.f4)) ∧ (w'.cell? (adb.add (k * 5)) = some (.int .i64 u.f0) ∧ w'.cell? ⟨(adb.add (k * 5)).block, (adb.add (k * 5)).off + 1, none⟩ = some (.slice Q1 u.f1.length s1) ∧ w'.cell? ⟨(adb.add (k * 5)).block, (adb.add (k * 5)).off + 2, none⟩ = some (.int .i64 u.f2) ∧ w'.cell? ⟨(adb.add (k * 5)).block, (adb.add (k * 5)).off + 3, none⟩ = some (.int .i64 u.f3) ∧ w'.cell? ⟨(adb.add (k * 5)).block, (adb.add (k * 5)).off + 4, none⟩ = some (.bool u.f4))) wr.drew := HF6.out _ HB0
        refine Za.takeL 0 (v := ?vaf0) rfl (by kernel_rfl) (by kernel_rfl) (by kernel_rfl) (by kernel_rfl) (fun _ _ _ h => h) (Or.inl ⟨by rfl, ?hyaf0⟩) HS ?restaf0
        case hyaf0 => (intro w hSw; (try dsimp only at hSw); go_simp; try with_reducible rfl)
        (try simp only [Act.put, List.setIfInBounds_toArray, List.set_cons_zero, List.set_cons_succ])
        refine Za.takeL 1 (v := ?vaf1) rfl (by kernel_rfl) (by kernel_rfl) (by kernel_rfl) (by kernel_rfl) (fun _ _ _ h => h) (Or.inl ⟨by rfl, ?hyaf1⟩) HS ?restaf1
        case hyaf1 => (intro w hSw; (try dsimp only at hSw); go_simp; try with_reducible rfl)
        (try simp only [Act.put, List.setIfInBounds_toArray, List.set_cons_zero, List.set_cons_succ])
        refine Za.takeL 2 (v := ?vaf2) rfl (by kernel_rfl) (by kernel_rfl) (by kernel_rfl) (by kernel_rfl) (fun _ _ _ h => h) (Or.inl ⟨by rfl, ?hyaf2⟩) HS ?restaf2
        case hyaf2 => (intro w hSw; (try dsimp only at hSw); go_simp; try with_reducible rfl)
        (try simp only [Act.put, List.setIfInBounds_toArray, List.set_cons_zero, List.set_cons_succ])
        refine Za.takeL 3 (v := ?vaf3) rfl (by kernel_rfl) (by kernel_rfl) (by kernel_rfl) (by kernel_rfl) (fun _ _ _ h => h) (Or.inl ⟨by rfl, ?hyaf3⟩) HS ?restaf3
        case hyaf3 => (intro w hSw; (try dsimp only at hSw); go_simp; try with_reducible rfl)
        (try simp only [Act.put, List.setIfInBounds_toArray, List.set_cons_zero, List.set_cons_succ])
        refine Za.takeL 4 (v := ?vaf4) rfl (by kernel_rfl) (by kernel_rfl) (by kernel_rfl) (by kernel_rfl) (fun _ _ _ h => h) (Or.inl ⟨by rfl, ?hyaf4⟩) HS ?restaf4
        case hyaf4 => (intro w hSw; (try dsimp only at hSw); go_simp; try with_reducible rfl)
        (try simp only [Act.put, List.setIfInBounds_toArray, List.set_cons_zero, List.set_cons_succ])
        refine Za.takeL 5 (v := ?vaf5) rfl (by kernel_rfl) (by kernel_rfl) (by kernel_rfl) (by kernel_rfl) (fun _ _ _ h => h) (Or.inl ⟨by rfl, ?hyaf5⟩) HS ?restaf5
        case hyaf5 => (intro w hSw; (try dsimp only at hSw); go_simp; try with_reducible rfl)
        (try simp only [Act.put, List.setIfInBounds_toArray, List.set_cons_zero, List.set_cons_succ])
        refine Za.takeL 6 (v := ?vaf6) rfl (by kernel_rfl) (by kernel_rfl) (by kernel_rfl) (by kernel_rfl) (fun _ _ _ h => h) (Or.inl ⟨by rfl, ?hyaf6⟩) HS ?restaf6
        case hyaf6 => (intro w hSw; (try dsimp only at hSw); go_simp; try with_reducible rfl)
        (try simp only [Act.put, List.setIfInBounds_toArray, List.set_cons_zero, List.set_cons_succ])
        refine Za.takeL 7 (v := ?vaf7) rfl (by kernel_rfl) (by kernel_rfl) (by kernel_rfl) (by kernel_rfl) (fun _ _ _ h => h) (Or.inl ⟨by rfl, ?hyaf7⟩) HS ?restaf7
        case hyaf7 => (intro w hSw; (try dsimp only at hSw); go_simp; try with_reducible rfl)
        (try simp only [Act.put, List.setIfInBounds_toArray, List.set_cons_zero, List.set_cons_succ])
        refine Za.takeL 8 (v := ?vaf8) rfl (by kernel_rfl) (by kernel_rfl) (by kernel_rfl) (by kernel_rfl) (fun _ _ _ h => h) (Or.inl ⟨by rfl, ?hyaf8⟩) HS ?restaf8
        case hyaf8 => (intro w hSw; (try dsimp only at hSw); go_simp; try with_reducible rfl)
        (try simp only [Act.put, List.setIfInBounds_toArray, List.set_cons_zero, List.set_cons_succ])
        refine Za.takeL 9 (v := ?vaf9) rfl (by kernel_rfl) (by kernel_rfl) (by kernel_rfl) (by kernel_rfl) (fun _ _ _ h => h) (Or.inl ⟨by rfl, ?hyaf9⟩) HS ?restaf9
        case hyaf9 => (intro w hSw; (try dsimp only at hSw); go_simp; try with_reducible rfl)
        (try simp only [Act.put, List.setIfInBounds_toArray, List.set_cons_zero, List.set_cons_succ])
        clear HS
        refine Za.nextL 10 (by kernel_rfl) rfl (fun K' hK => ?_)
        go_simp
        (go_at_call 17; refine (sGraphSame_any o u P1 r1 Q1 s1 _ (HIX1.out.below HB0) (HIY1.out.below HB0)).mono ?_; rintro e w4 ⟨rfl, hb4⟩; rw [HD.out]; have HB4 : Below wr.heap.size wr w4 := keepD hb4; have HB3 := Aside0.mk (below_then HB.out HB.out.size HB4); clear hb4)
        go_wp2_with fail
        refine hK.out _ _ ⟨fun _ => HF6.out _ HB4, ?_⟩
        clear hK K'
        (try simp only [Act.put, List.setIfInBounds_toArray, List.set_cons_zero, List.set_cons_succ])
        have HS : (fun w' => (w'.cell? ⟨w.heap.size, 1, none⟩ = some (.slice (some ada) x.f1.length c1) ∧ w'.cell? ⟨w.heap.size + 1, 1, none⟩ = some (.slice (some adb) y.f1.length d1)) ∧ (w'.cell? (ada.add (k * 5)) = some (.int .i64 o.f0) ∧ w'.cell? ⟨(ada.add (k * 5)).block, (ada.add (k * 5)).off + 1, none⟩ = some (.slice P1 o.f1.length r1) ∧ w'.cell? ⟨(ada.add (k * 5)).block, (ada.add (k * 5)).off + 2, none⟩ = some (.int .i64 o.f2) ∧ w'.cell? ⟨(ada.add (k * 5)).block, (ada.add (k * 5)).off + 3, none⟩ = some (.int .i64 o.f3) ∧ w'.cell? ⟨(ada.add (k * 5)).block, (ada.add (k * 5)).off + 4, none⟩ = some (.bool o.f4)) ∧ (w'.cell? (adb.add (k * 5)) = some (.int .i64 u.f0) ∧ w'.cell? ⟨(adb.add (k * 5)).block, (adb.add (k * 5)).off + 1, none⟩ = some (.slice Q1 u.f1.length s1) ∧ w'.cell? ⟨(adb.add (k * 5)).block, (adb.add (k * 5)).off + 2, none⟩ = some (.int .i64 u.f2) ∧ w'.cell? ⟨(adb.add (k * 5)).block, (adb.add (k * 5)).off + 3, none⟩ = some (.int .i64 u.f3) ∧ w'.cell? ⟨(adb.add (k * 5)).block, (adb.add (k * 5)).off + 4, none⟩ = some (.bool u.f4))) w4 := HF6.out _ HB4
        refine Za.takeL 11 (v := ?vaf11) rfl (by kernel_rfl) (by kernel_rfl) (by kernel_rfl) (by kernel_rfl) (fun _ _ _ h => h) (Or.inl ⟨by rfl, ?hyaf11⟩) HS ?restaf11
        case hyaf11 => (intro w hSw; (try dsimp only at hSw); go_simp; try with_reducible rfl)
        (try simp only [Act.put, List.setIfInBounds_toArray, List.set_cons_zero, List.set_cons_succ])
        refine Za.Walk.done (by kernel_rfl) ?_
        clear HS
        go_wp2
        go_ret
        exact ⟨ret_bool HF.out.symm, below_then HX.out HX.out.size HB3.out⟩
    · have hke : k = x.f1.length := by omega
      subst hke
      have g1 : decide (x.f1.length < x.f1.length) = false := decide_eq_false (by omega)
      have HV0 : Aside0 (eqQ sameGraph x.f1 y.f1 = true) := ⟨by have h := HN.out; rwa [List.take_length, HE1.out, List.take_length] at h⟩
      go_wp2
      clear p3 q3
      have pL1 := (blk_cell (blk_below BP.out HB.out) 3).trans rfl
      have qL1 := (blk_cell (blk_below BQ.out HB.out) 3).trans rfl
      clear pL1 qL1
      go_loopw [6] (fun vi wr => ∃ (k : Nat), k ≤ x.f3.length ∧ vi = .int .i64 k ∧ Aside0 (eqQ sameI (x.f3.take k) (y.f3.take k) = true) ∧ Aside0 (Below W.heap.size W wr)) (fun vi _ => x.f3.length - (intOf vi).toNat)
      case atStart => exact ⟨0, Nat.zero_le _, rfl, ⟨by simp [eqQ]⟩, HB⟩
      case round =>
        obtain ⟨k, hk, rfl, HN, HB⟩ := hrel
        have p3 := (blk_cell (blk_below BP.out HB.out) 3).trans rfl
        have q3 := (blk_cell (blk_below BQ.out HB.out) 3).trans rfl
        by_cases hlt : k < x.f3.length
        · have g1 : decide (k < x.f3.length) = true := decide_eq_true hlt
          have i1 : (k : Int) < x.f3.length := by omega
          have hltb : k < y.f3.length := by have := HE3.out; omega
          have i2 : (k : Int) < y.f3.length := by omega
          obtain ⟨ad, rfl, hc⟩ := atI (HA3.out.below HB.out) k hlt
          obtain ⟨ad2, rfl, hc2⟩ := atI (HB3.out.below HB.out) k hltb
          have HSN := Aside0.mk (eqQ_snoc sameI 0 x.f3 y.f3 k hlt HE3.out)
          have HNO := Aside0.mk (eqQ_no sameI 0 x.f3 y.f3 k hlt HE3.out)
          generalize x.f3.getD k 0 = u at hc HSN HNO
          generalize y.f3.getD k 0 = v at hc2 HSN HNO
          replace hc := cellE hc
          replace hc2 := cellE hc2
          by_cases hd : u = v
          · have hx : (u != v) = false := by simp [hd]
            have HEr : Aside0 (eqQ sameI (x.f3.take (k + 1)) (y.f3.take (k + 1)) = true) := ⟨by rw [HSN.out, HN.out]; simp [sameI, hd]⟩
            clear hd
            have HBx := HB
            go_upto_region 11 with fail
            clear p3 q3
            have p3 := cellE ((blk_cell (blk_below BP.out HBx.out) 3).trans rfl)
            have q3 := cellE ((blk_cell (blk_below BQ.out HBx.out) 3).trans rfl)
            refine region_ext (W := wr) (Below.refl _ _) (by kernel_rfl) (by kernel_rfl) ?_
            repeat (first | go_big_quiet_step (fail) | quiet_step (fail))
            refine wpQuiet_nil ?_
            rintro _ ⟨s, rfl⟩
            have HB3 := Aside0.mk (below_then HB.out HB.out.size s.2)
            generalize s.1 = W2 at HB3
            go_wp2
            go_roundw
            case rel => exact ⟨k + 1, by omega, by go_num, HEr, HB3⟩
            case measure => simp [intOf]; omega
          · have hx : (u != v) = true := by simp [hd]
            have HF : Aside0 (sameEng x y = false) := ⟨by unfold sameEng; rw [HNO.out (by simp [sameI, hd])]; simp⟩
            clear hd
            have HBx := HB
            go_upto_region 11 with fail
            clear p3 q3
            have p3 := cellE ((blk_cell (blk_below BP.out HBx.out) 3).trans rfl)
            have q3 := cellE ((blk_cell (blk_below BQ.out HBx.out) 3).trans rfl)
            refine region_ext (W := wr) (Below.refl _ _) (by kernel_rfl) (by kernel_rfl) ?_
            repeat (first | go_big_quiet_step (fail) | quiet_step (fail))
            refine wpQuiet_nil ?_
            rintro _ ⟨s, rfl⟩
            have HB3 := Aside0.mk (below_then HB.out HB.out.size s.2)
            generalize s.1 = W2 at HB3
            go_wp2
            go_ret
            exact ⟨ret_bool HF.out.symm, below_then HX.out HX.out.size HB3.out⟩
        · have hke : k = x.f3.length := by omega
          subst hke
          have g1 : decide (x.f3.length < x.f3.length) = false := decide_eq_false (by omega)
          have HV1 : Aside0 (eqQ sameI x.f3 y.f3 = true) := ⟨by have h := HN.out; rwa [List.take_length, HE3.out, List.take_length] at h⟩
          have HF : Aside0 (sameEng x y = true) := ⟨by unfold sameEng; rw [HE0.out, HE2.out, HE4.out, HV0.out, HV1.out]; rfl⟩
          go_wp2
          go_ret
          exact ⟨ret_bool HF.out.symm, below_then HX.out HX.out.size HB.out⟩
end Go.Proofs.Ytbbdkhffacoglaa.Kq
