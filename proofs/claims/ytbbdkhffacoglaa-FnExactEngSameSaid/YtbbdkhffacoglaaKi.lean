
/- Are two rows of numbers one, two nodes, two graphs, two lists of rules, two firings: the program's. Printed by genTy.py. -/
import Derived.Test.YtbbdkhffacoglaaKh
set_option linter.unusedVariables false
set_option linter.unusedSimpArgs false
namespace Go.Proofs.Ytbbdkhffacoglaa.Ki
open Go.RowKit Go.Proofs.YtbbdkhffacoglaaW.PrintWords Go.Proofs.Ytbbdkhffacoglaa.Ja Go.Proofs.Ytbbdkhffacoglaa.Jb Go.Proofs.Ytbbdkhffacoglaa.Jc Go.Proofs.Ytbbdkhffacoglaa.Jd Go.Proofs.Ytbbdkhffacoglaa.Ka Go.Proofs.Ytbbdkhffacoglaa.Ke Go.Proofs.Ytbbdkhffacoglaa.Kf Go.Proofs.Ytbbdkhffacoglaa.Kg Go.Proofs.Ytbbdkhffacoglaa.Kh
def sameI (x y : Int) : Bool := x == y
set_option maxHeartbeats 2000000 in
set_option maxRecDepth 100000 in
theorem intsEqual_any (A B : Option Addr) (c d : Nat) (a b : List Int) (w : World) (ha : IsS (Kd.int .i64) w a A c) (hb : IsS (Kd.int .i64) w b B d) :
    Calls Try.prog 27 #[.slice A a.length c, .slice B b.length d] w fun e w' => e = .returned (.bool (eqQ sameI a b)) ∧ Below w.heap.size w w' := by
  have hna := ha.len
  have hnb := hb.len
  have HA := Aside0.mk ha
  have HBb := Aside0.mk hb
  clear ha hb
  by_cases hl : a.length = b.length
  · have n0 : ((a.length : Int) != (b.length : Int)) = false := by simp [hl]
    go_enter Try.func27, Try.ntmps27
    have HLN := Aside0.mk hl
    clear hl
    go_wp2
    go_loopw [13] (fun vi wr => ∃ (k : Nat), k ≤ a.length ∧ vi = .int .i64 k ∧ Aside0 (eqQ sameI (a.take k) (b.take k) = true) ∧ Aside0 (Below w.heap.size w wr)) (fun vi _ => a.length - (intOf vi).toNat)
    case atStart => exact ⟨0, Nat.zero_le _, rfl, ⟨by simp [eqQ]⟩, ⟨Below.refl _ _⟩⟩
    case round =>
      obtain ⟨k, hk, rfl, HN, HB⟩ := hrel
      by_cases hlt : k < a.length
      · have g1 : decide (k < a.length) = true := decide_eq_true hlt
        have i1 : (k : Int) < a.length := by omega
        have hltb : k < b.length := by have := HLN.out; omega
        have i2 : (k : Int) < b.length := by omega
        obtain ⟨ad, rfl, hc⟩ := atI (HA.out.below HB.out) k hlt
        obtain ⟨ad2, rfl, hc2⟩ := atI (HBb.out.below HB.out) k hltb
        have HSN := Aside0.mk (eqQ_snoc sameI 0 a b k hlt HLN.out)
        have HNO := Aside0.mk (eqQ_no sameI 0 a b k hlt HLN.out)
        generalize a.getD k 0 = x at hc HSN HNO
        generalize b.getD k 0 = y at hc2 HSN HNO
        replace hc := cellE hc
        replace hc2 := cellE hc2
        by_cases hd : x = y
        · have hx : (x != y) = false := by simp [hd]
          have HE2 : Aside0 (eqQ sameI (a.take (k + 1)) (b.take (k + 1)) = true) := ⟨by rw [HSN.out, HN.out]; simp [sameI, hd]⟩
          clear hd
          go_wp2
          refine region_ext (W := wr) (Below.refl _ _) (by kernel_rfl) (by kernel_rfl) ?_
          repeat (first | go_big_quiet_step (fail) | quiet_step (fail))
          refine wpQuiet_nil ?_
          rintro _ ⟨s, rfl⟩
          have HB3 := Aside0.mk (below_then HB.out HB.out.size s.2)
          generalize s.1 = W2 at HB3
          go_wp2
          go_roundw
          case rel => exact ⟨k + 1, by omega, by go_num, HE2, HB3⟩
          case measure => simp [intOf]; omega
        · have hx : (x != y) = true := by simp [hd]
          have HE2 : Aside0 (eqQ sameI a b = false) := ⟨HNO.out (by simp [sameI, hd])⟩
          clear hd
          go_wp2
          refine region_ext (W := wr) (Below.refl _ _) (by kernel_rfl) (by kernel_rfl) ?_
          repeat (first | go_big_quiet_step (fail) | quiet_step (fail))
          refine wpQuiet_nil ?_
          rintro _ ⟨s, rfl⟩
          have HB3 := Aside0.mk (below_then HB.out HB.out.size s.2)
          generalize s.1 = W2 at HB3
          go_wp2
          go_ret
          exact ⟨ret_bool HE2.out.symm, HB3.out⟩
      · have hke : k = a.length := by omega
        subst hke
        have g1 : decide (a.length < a.length) = false := decide_eq_false (by omega)
        have HE2 : Aside0 (eqQ sameI a b = true) := ⟨by have h := HN.out; rwa [List.take_length, HLN.out, List.take_length] at h⟩
        go_wp2
        go_ret
        exact ⟨ret_bool HE2.out.symm, HB.out⟩
  · have n0 : ((a.length : Int) != (b.length : Int)) = true := by simp; omega
    have HE2 : Aside0 (eqQ sameI a b = false) := ⟨eqQ_len sameI a b hl⟩
    clear hl
    go_enter Try.func27, Try.ntmps27
    go_wp2
    go_ret
    exact ⟨ret_bool HE2.out.symm, Below.refl _ _⟩
def sameNode (x y : TNode) : Bool := (x.f0 == y.f0) && (x.f1 == y.f1) && (x.f2 == y.f2) && eqQ sameI x.f3 y.f3 && samePair x.f4 y.f4 && sameSpan x.f5 y.f5 && eqQ sameO x.f6 y.f6 && (x.f7 == y.f7)
theorem sameNode_eq (x y : TNode) : sameNode x y = ((x.f0 == y.f0) && (x.f1 == y.f1) && (x.f2 == y.f2) && eqQ sameI x.f3 y.f3 && samePair x.f4 y.f4 && sameSpan x.f5 y.f5 && eqQ sameO x.f6 y.f6 && (x.f7 == y.f7)) := rfl
set_option maxHeartbeats 4000000 in
set_option maxRecDepth 100000 in
theorem nodeSame_any (x y : TNode) (A3 : Option Addr) (c3 : Nat) (A4 : Option Addr) (c4 : Nat) (A5 : Option Addr) (c5 : Nat) (A6 : Option Addr) (c6 : Nat) (A7 : Option Addr) (c7 : Nat) (A8 : Option Addr) (c8 : Nat) (B3 : Option Addr) (d3 : Nat) (B4 : Option Addr) (d4 : Nat) (B5 : Option Addr) (d5 : Nat) (B6 : Option Addr) (d6 : Nat) (B7 : Option Addr) (d7 : Nat) (B8 : Option Addr) (d8 : Nat) (w : World) (hA3 : IsS (Kd.int .i64) w x.f3 A3 c3) (hA4 : IsS kOcc w x.f4.f0 A4 c4) (hA5 : IsS kOcc w x.f4.f1 A5 c5) (hA6 : IsS kOcc w x.f5.f0 A6 c6) (hA7 : IsS kOcc w x.f5.f1 A7 c7) (hA8 : IsS kOcc w x.f6 A8 c8) (hB3 : IsS (Kd.int .i64) w y.f3 B3 d3) (hB4 : IsS kOcc w y.f4.f0 B4 d4) (hB5 : IsS kOcc w y.f4.f1 B5 d5) (hB6 : IsS kOcc w y.f5.f0 B6 d6) (hB7 : IsS kOcc w y.f5.f1 B7 d7) (hB8 : IsS kOcc w y.f6 B8 d8) :
    Calls Try.prog 50 #[.agg #[.int .i64 x.f0, .int .i64 x.f1, .int .i64 x.f2, .slice A3 x.f3.length c3, .slice A4 x.f4.f0.length c4, .slice A5 x.f4.f1.length c5, .slice A6 x.f5.f0.length c6, .slice A7 x.f5.f1.length c7, .slice A8 x.f6.length c8, .int .i64 x.f7], .agg #[.int .i64 y.f0, .int .i64 y.f1, .int .i64 y.f2, .slice B3 y.f3.length d3, .slice B4 y.f4.f0.length d4, .slice B5 y.f4.f1.length d5, .slice B6 y.f5.f0.length d6, .slice B7 y.f5.f1.length d7, .slice B8 y.f6.length d8, .int .i64 y.f7]] w fun e w' => e = .returned (.bool (sameNode x y)) ∧ Below w.heap.size w w' := by
  obtain ⟨hb0, bP, bQ⟩ := boxes2 w #[.int .i64 x.f0, .int .i64 x.f1, .int .i64 x.f2, .slice A3 x.f3.length c3, .slice A4 x.f4.f0.length c4, .slice A5 x.f4.f1.length c5, .slice A6 x.f5.f0.length c6, .slice A7 x.f5.f1.length c7, .slice A8 x.f6.length c8, .int .i64 x.f7] #[.int .i64 y.f0, .int .i64 y.f1, .int .i64 y.f2, .slice B3 y.f3.length d3, .slice B4 y.f4.f0.length d4, .slice B5 y.f4.f1.length d5, .slice B6 y.f5.f0.length d6, .slice B7 y.f5.f1.length d7, .slice B8 y.f6.length d8, .int .i64 y.f7] 96 96
  have HA3 := Aside0.mk (hA3.below hb0)
  have HB3 := Aside0.mk (hB3.below hb0)
  have HA4 := Aside0.mk (hA4.below hb0)
  have HB4 := Aside0.mk (hB4.below hb0)
  have HA5 := Aside0.mk (hA5.below hb0)
  have HB5 := Aside0.mk (hB5.below hb0)
  have HA6 := Aside0.mk (hA6.below hb0)
  have HB6 := Aside0.mk (hB6.below hb0)
  have HA7 := Aside0.mk (hA7.below hb0)
  have HB7 := Aside0.mk (hB7.below hb0)
  have HA8 := Aside0.mk (hA8.below hb0)
  have HB8 := Aside0.mk (hB8.below hb0)
  clear hA3 hB3 hA4 hB4 hA5 hB5 hA6 hB6 hA7 hB7 hA8 hB8
  obtain ⟨W, hW⟩ : ∃ W, W = (w.alloc (.cells #[.int .i64 x.f0, .int .i64 x.f1, .int .i64 x.f2, .slice A3 x.f3.length c3, .slice A4 x.f4.f0.length c4, .slice A5 x.f4.f1.length c5, .slice A6 x.f5.f0.length c6, .slice A7 x.f5.f1.length c7, .slice A8 x.f6.length c8, .int .i64 x.f7] 96)).alloc (.cells #[.int .i64 y.f0, .int .i64 y.f1, .int .i64 y.f2, .slice B3 y.f3.length d3, .slice B4 y.f4.f0.length d4, .slice B5 y.f4.f1.length d5, .slice B6 y.f5.f0.length d6, .slice B7 y.f5.f1.length d7, .slice B8 y.f6.length d8, .int .i64 y.f7] 96) := ⟨_, rfl⟩
  rw [← hW] at hb0 bP bQ HA3 HB3 HA4 HB4 HA5 HB5 HA6 HB6 HA7 HB7 HA8 HB8
  have HW := Aside0.mk hW
  have HX := Aside0.mk hb0
  clear hb0 hW
  have p0 := (blk_cell bP 0).trans rfl
  have q0 := (blk_cell bQ 0).trans rfl
  have p1 := (blk_cell bP 1).trans rfl
  have q1 := (blk_cell bQ 1).trans rfl
  have p2 := (blk_cell bP 2).trans rfl
  have q2 := (blk_cell bQ 2).trans rfl
  have p3 := (blk_cell bP 3).trans rfl
  have q3 := (blk_cell bQ 3).trans rfl
  have p4 := (blk_cell bP 4).trans rfl
  have q4 := (blk_cell bQ 4).trans rfl
  have p5 := (blk_cell bP 5).trans rfl
  have q5 := (blk_cell bQ 5).trans rfl
  have p6 := (blk_cell bP 6).trans rfl
  have q6 := (blk_cell bQ 6).trans rfl
  have p7 := (blk_cell bP 7).trans rfl
  have q7 := (blk_cell bQ 7).trans rfl
  have p8 := (blk_cell bP 8).trans rfl
  have q8 := (blk_cell bQ 8).trans rfl
  have p9 := (blk_cell bP 9).trans rfl
  have q9 := (blk_cell bQ 9).trans rfl
  have HC0 : Aside0 (Below W.heap.size W W) := ⟨Below.refl _ _⟩
  have HV : Aside0 (sameNode x y = ((x.f0 == y.f0) && (x.f1 == y.f1) && (x.f2 == y.f2) && (eqQ sameI x.f3 y.f3) && (samePair x.f4 y.f4) && (sameSpan x.f5 y.f5) && (eqQ sameO x.f6 y.f6) && (x.f7 == y.f7))) := ⟨by exact sameNode_eq x y⟩
  cases h0 : (x.f0 == y.f0) with
  | false =>
    have HF : Aside0 (sameNode x y = false) := ⟨by rw [HV.out, h0]; simp⟩
    go_enter Try.func50, Try.ntmps50
    go_upto_region 1 with fail
    rw [← HW.out]
    go_wp2
    go_ret
    exact ⟨ret_bool HF.out.symm, below_then HX.out HX.out.size HC0.out⟩
  | true =>
  cases h1 : (x.f1 == y.f1) with
  | false =>
    have HF : Aside0 (sameNode x y = false) := ⟨by rw [HV.out, h0, h1]; simp⟩
    go_enter Try.func50, Try.ntmps50
    go_upto_region 1 with fail
    rw [← HW.out]
    go_wp2
    go_ret
    exact ⟨ret_bool HF.out.symm, below_then HX.out HX.out.size HC0.out⟩
  | true =>
  cases h2 : (x.f2 == y.f2) with
  | false =>
    have HF : Aside0 (sameNode x y = false) := ⟨by rw [HV.out, h0, h1, h2]; simp⟩
    go_enter Try.func50, Try.ntmps50
    go_upto_region 1 with fail
    rw [← HW.out]
    go_wp2
    go_ret
    exact ⟨ret_bool HF.out.symm, below_then HX.out HX.out.size HC0.out⟩
  | true =>
  cases h3 : (eqQ sameI x.f3 y.f3) with
  | false =>
    have HF : Aside0 (sameNode x y = false) := ⟨by rw [HV.out, h0, h1, h2, h3]; simp⟩
    have HE3 := Aside0.mk h3
    clear h3
    go_enter Try.func50, Try.ntmps50
    go_upto_region 1 with fail
    rw [← HW.out]
    go_wp2_with (go_at_call 27; refine (intsEqual_any A3 B3 c3 d3 x.f3 y.f3 _ (HA3.out.below HC0.out) (HB3.out.below HC0.out) ).mono ?_; rintro e w1 ⟨rfl, hb1⟩; rw [HE3.out]; have p1_0 := pw_cell_below hb1 p0; have q1_0 := pw_cell_below hb1 q0; have p1_1 := pw_cell_below hb1 p1; have q1_1 := pw_cell_below hb1 q1; have p1_2 := pw_cell_below hb1 p2; have q1_2 := pw_cell_below hb1 q2; have p1_3 := pw_cell_below hb1 p3; have q1_3 := pw_cell_below hb1 q3; have p1_4 := pw_cell_below hb1 p4; have q1_4 := pw_cell_below hb1 q4; have p1_5 := pw_cell_below hb1 p5; have q1_5 := pw_cell_below hb1 q5; have p1_6 := pw_cell_below hb1 p6; have q1_6 := pw_cell_below hb1 q6; have p1_7 := pw_cell_below hb1 p7; have q1_7 := pw_cell_below hb1 q7; have p1_8 := pw_cell_below hb1 p8; have q1_8 := pw_cell_below hb1 q8; have p1_9 := pw_cell_below hb1 p9; have q1_9 := pw_cell_below hb1 q9; have HC1 := Aside0.mk (below_then HC0.out HC0.out.size hb1); clear hb1)
    go_ret
    exact ⟨ret_bool HF.out.symm, below_then HX.out HX.out.size HC1.out⟩
  | true =>
  cases h4 : (samePair x.f4 y.f4) with
  | false =>
    have HF : Aside0 (sameNode x y = false) := ⟨by rw [HV.out, h0, h1, h2, h3, h4]; simp⟩
    have HE3 := Aside0.mk h3
    clear h3
    have HE4 := Aside0.mk h4
    clear h4
    go_enter Try.func50, Try.ntmps50
    go_upto_region 1 with fail
    rw [← HW.out]
    go_wp2_with (first | (go_at_call 51; refine (pairSame_any x.f4 y.f4 A4 c4 A5 c5 B4 d4 B5 d5 _ (HA4.out.below HC1.out) (HA5.out.below HC1.out) (HB4.out.below HC1.out) (HB5.out.below HC1.out) ).mono ?_; rintro e w2 ⟨rfl, hb2⟩; rw [HE4.out]; have p2_0 := pw_cell_below hb2 p1_0; have q2_0 := pw_cell_below hb2 q1_0; have p2_1 := pw_cell_below hb2 p1_1; have q2_1 := pw_cell_below hb2 q1_1; have p2_2 := pw_cell_below hb2 p1_2; have q2_2 := pw_cell_below hb2 q1_2; have p2_3 := pw_cell_below hb2 p1_3; have q2_3 := pw_cell_below hb2 q1_3; have p2_4 := pw_cell_below hb2 p1_4; have q2_4 := pw_cell_below hb2 q1_4; have p2_5 := pw_cell_below hb2 p1_5; have q2_5 := pw_cell_below hb2 q1_5; have p2_6 := pw_cell_below hb2 p1_6; have q2_6 := pw_cell_below hb2 q1_6; have p2_7 := pw_cell_below hb2 p1_7; have q2_7 := pw_cell_below hb2 q1_7; have p2_8 := pw_cell_below hb2 p1_8; have q2_8 := pw_cell_below hb2 q1_8; have p2_9 := pw_cell_below hb2 p1_9; have q2_9 := pw_cell_below hb2 q1_9; have HC2 := Aside0.mk (below_then HC1.out HC1.out.size hb2); clear hb2) | (go_at_call 27; refine (intsEqual_any A3 B3 c3 d3 x.f3 y.f3 _ (HA3.out.below HC0.out) (HB3.out.below HC0.out) ).mono ?_; rintro e w1 ⟨rfl, hb1⟩; rw [HE3.out]; have p1_0 := pw_cell_below hb1 p0; have q1_0 := pw_cell_below hb1 q0; have p1_1 := pw_cell_below hb1 p1; have q1_1 := pw_cell_below hb1 q1; have p1_2 := pw_cell_below hb1 p2; have q1_2 := pw_cell_below hb1 q2; have p1_3 := pw_cell_below hb1 p3; have q1_3 := pw_cell_below hb1 q3; have p1_4 := pw_cell_below hb1 p4; have q1_4 := pw_cell_below hb1 q4; have p1_5 := pw_cell_below hb1 p5; have q1_5 := pw_cell_below hb1 q5; have p1_6 := pw_cell_below hb1 p6; have q1_6 := pw_cell_below hb1 q6; have p1_7 := pw_cell_below hb1 p7; have q1_7 := pw_cell_below hb1 q7; have p1_8 := pw_cell_below hb1 p8; have q1_8 := pw_cell_below hb1 q8; have p1_9 := pw_cell_below hb1 p9; have q1_9 := pw_cell_below hb1 q9; have HC1 := Aside0.mk (below_then HC0.out HC0.out.size hb1); clear hb1))
    go_ret
    exact ⟨ret_bool HF.out.symm, below_then HX.out HX.out.size HC2.out⟩
  | true =>
  cases h5 : (sameSpan x.f5 y.f5) with
  | false =>
    have HF : Aside0 (sameNode x y = false) := ⟨by rw [HV.out, h0, h1, h2, h3, h4, h5]; simp⟩
    have HE3 := Aside0.mk h3
    clear h3
    have HE4 := Aside0.mk h4
    clear h4
    have HE5 := Aside0.mk h5
    clear h5
    go_enter Try.func50, Try.ntmps50
    go_upto_region 1 with fail
    rw [← HW.out]
    go_wp2_with (first | (go_at_call 52; refine (spanSame_any x.f5 y.f5 A6 c6 A7 c7 B6 d6 B7 d7 _ (HA6.out.below HC2.out) (HA7.out.below HC2.out) (HB6.out.below HC2.out) (HB7.out.below HC2.out) ).mono ?_; rintro e w3 ⟨rfl, hb3⟩; rw [HE5.out]; have p3_0 := pw_cell_below hb3 p2_0; have q3_0 := pw_cell_below hb3 q2_0; have p3_1 := pw_cell_below hb3 p2_1; have q3_1 := pw_cell_below hb3 q2_1; have p3_2 := pw_cell_below hb3 p2_2; have q3_2 := pw_cell_below hb3 q2_2; have p3_3 := pw_cell_below hb3 p2_3; have q3_3 := pw_cell_below hb3 q2_3; have p3_4 := pw_cell_below hb3 p2_4; have q3_4 := pw_cell_below hb3 q2_4; have p3_5 := pw_cell_below hb3 p2_5; have q3_5 := pw_cell_below hb3 q2_5; have p3_6 := pw_cell_below hb3 p2_6; have q3_6 := pw_cell_below hb3 q2_6; have p3_7 := pw_cell_below hb3 p2_7; have q3_7 := pw_cell_below hb3 q2_7; have p3_8 := pw_cell_below hb3 p2_8; have q3_8 := pw_cell_below hb3 q2_8; have p3_9 := pw_cell_below hb3 p2_9; have q3_9 := pw_cell_below hb3 q2_9; have HC3 := Aside0.mk (below_then HC2.out HC2.out.size hb3); clear hb3) | (go_at_call 51; refine (pairSame_any x.f4 y.f4 A4 c4 A5 c5 B4 d4 B5 d5 _ (HA4.out.below HC1.out) (HA5.out.below HC1.out) (HB4.out.below HC1.out) (HB5.out.below HC1.out) ).mono ?_; rintro e w2 ⟨rfl, hb2⟩; rw [HE4.out]; have p2_0 := pw_cell_below hb2 p1_0; have q2_0 := pw_cell_below hb2 q1_0; have p2_1 := pw_cell_below hb2 p1_1; have q2_1 := pw_cell_below hb2 q1_1; have p2_2 := pw_cell_below hb2 p1_2; have q2_2 := pw_cell_below hb2 q1_2; have p2_3 := pw_cell_below hb2 p1_3; have q2_3 := pw_cell_below hb2 q1_3; have p2_4 := pw_cell_below hb2 p1_4; have q2_4 := pw_cell_below hb2 q1_4; have p2_5 := pw_cell_below hb2 p1_5; have q2_5 := pw_cell_below hb2 q1_5; have p2_6 := pw_cell_below hb2 p1_6; have q2_6 := pw_cell_below hb2 q1_6; have p2_7 := pw_cell_below hb2 p1_7; have q2_7 := pw_cell_below hb2 q1_7; have p2_8 := pw_cell_below hb2 p1_8; have q2_8 := pw_cell_below hb2 q1_8; have p2_9 := pw_cell_below hb2 p1_9; have q2_9 := pw_cell_below hb2 q1_9; have HC2 := Aside0.mk (below_then HC1.out HC1.out.size hb2); clear hb2) | (go_at_call 27; refine (intsEqual_any A3 B3 c3 d3 x.f3 y.f3 _ (HA3.out.below HC0.out) (HB3.out.below HC0.out) ).mono ?_; rintro e w1 ⟨rfl, hb1⟩; rw [HE3.out]; have p1_0 := pw_cell_below hb1 p0; have q1_0 := pw_cell_below hb1 q0; have p1_1 := pw_cell_below hb1 p1; have q1_1 := pw_cell_below hb1 q1; have p1_2 := pw_cell_below hb1 p2; have q1_2 := pw_cell_below hb1 q2; have p1_3 := pw_cell_below hb1 p3; have q1_3 := pw_cell_below hb1 q3; have p1_4 := pw_cell_below hb1 p4; have q1_4 := pw_cell_below hb1 q4; have p1_5 := pw_cell_below hb1 p5; have q1_5 := pw_cell_below hb1 q5; have p1_6 := pw_cell_below hb1 p6; have q1_6 := pw_cell_below hb1 q6; have p1_7 := pw_cell_below hb1 p7; have q1_7 := pw_cell_below hb1 q7; have p1_8 := pw_cell_below hb1 p8; have q1_8 := pw_cell_below hb1 q8; have p1_9 := pw_cell_below hb1 p9; have q1_9 := pw_cell_below hb1 q9; have HC1 := Aside0.mk (below_then HC0.out HC0.out.size hb1); clear hb1))
    go_ret
    exact ⟨ret_bool HF.out.symm, below_then HX.out HX.out.size HC3.out⟩
  | true =>
  cases h6 : (eqQ sameO x.f6 y.f6) with
  | false =>
    have HF : Aside0 (sameNode x y = false) := ⟨by rw [HV.out, h0, h1, h2, h3, h4, h5, h6]; simp⟩
    have HE3 := Aside0.mk h3
    clear h3
    have HE4 := Aside0.mk h4
    clear h4
    have HE5 := Aside0.mk h5
    clear h5
    have HE6 := Aside0.mk h6
    clear h6
    go_enter Try.func50, Try.ntmps50
    go_upto_region 1 with fail
    rw [← HW.out]
    go_wp2_with (first | (go_at_call 53; refine (occsSame_any A8 B8 c8 d8 x.f6 y.f6 _ (HA8.out.below HC3.out) (HB8.out.below HC3.out) ).mono ?_; rintro e w4 ⟨rfl, hb4⟩; rw [HE6.out]; have p4_0 := pw_cell_below hb4 p3_0; have q4_0 := pw_cell_below hb4 q3_0; have p4_1 := pw_cell_below hb4 p3_1; have q4_1 := pw_cell_below hb4 q3_1; have p4_2 := pw_cell_below hb4 p3_2; have q4_2 := pw_cell_below hb4 q3_2; have p4_3 := pw_cell_below hb4 p3_3; have q4_3 := pw_cell_below hb4 q3_3; have p4_4 := pw_cell_below hb4 p3_4; have q4_4 := pw_cell_below hb4 q3_4; have p4_5 := pw_cell_below hb4 p3_5; have q4_5 := pw_cell_below hb4 q3_5; have p4_6 := pw_cell_below hb4 p3_6; have q4_6 := pw_cell_below hb4 q3_6; have p4_7 := pw_cell_below hb4 p3_7; have q4_7 := pw_cell_below hb4 q3_7; have p4_8 := pw_cell_below hb4 p3_8; have q4_8 := pw_cell_below hb4 q3_8; have p4_9 := pw_cell_below hb4 p3_9; have q4_9 := pw_cell_below hb4 q3_9; have HC4 := Aside0.mk (below_then HC3.out HC3.out.size hb4); clear hb4) | (go_at_call 52; refine (spanSame_any x.f5 y.f5 A6 c6 A7 c7 B6 d6 B7 d7 _ (HA6.out.below HC2.out) (HA7.out.below HC2.out) (HB6.out.below HC2.out) (HB7.out.below HC2.out) ).mono ?_; rintro e w3 ⟨rfl, hb3⟩; rw [HE5.out]; have p3_0 := pw_cell_below hb3 p2_0; have q3_0 := pw_cell_below hb3 q2_0; have p3_1 := pw_cell_below hb3 p2_1; have q3_1 := pw_cell_below hb3 q2_1; have p3_2 := pw_cell_below hb3 p2_2; have q3_2 := pw_cell_below hb3 q2_2; have p3_3 := pw_cell_below hb3 p2_3; have q3_3 := pw_cell_below hb3 q2_3; have p3_4 := pw_cell_below hb3 p2_4; have q3_4 := pw_cell_below hb3 q2_4; have p3_5 := pw_cell_below hb3 p2_5; have q3_5 := pw_cell_below hb3 q2_5; have p3_6 := pw_cell_below hb3 p2_6; have q3_6 := pw_cell_below hb3 q2_6; have p3_7 := pw_cell_below hb3 p2_7; have q3_7 := pw_cell_below hb3 q2_7; have p3_8 := pw_cell_below hb3 p2_8; have q3_8 := pw_cell_below hb3 q2_8; have p3_9 := pw_cell_below hb3 p2_9; have q3_9 := pw_cell_below hb3 q2_9; have HC3 := Aside0.mk (below_then HC2.out HC2.out.size hb3); clear hb3) | (go_at_call 51; refine (pairSame_any x.f4 y.f4 A4 c4 A5 c5 B4 d4 B5 d5 _ (HA4.out.below HC1.out) (HA5.out.below HC1.out) (HB4.out.below HC1.out) (HB5.out.below HC1.out) ).mono ?_; rintro e w2 ⟨rfl, hb2⟩; rw [HE4.out]; have p2_0 := pw_cell_below hb2 p1_0; have q2_0 := pw_cell_below hb2 q1_0; have p2_1 := pw_cell_below hb2 p1_1; have q2_1 := pw_cell_below hb2 q1_1; have p2_2 := pw_cell_below hb2 p1_2; have q2_2 := pw_cell_below hb2 q1_2; have p2_3 := pw_cell_below hb2 p1_3; have q2_3 := pw_cell_below hb2 q1_3; have p2_4 := pw_cell_below hb2 p1_4; have q2_4 := pw_cell_below hb2 q1_4; have p2_5 := pw_cell_below hb2 p1_5; have q2_5 := pw_cell_below hb2 q1_5; have p2_6 := pw_cell_below hb2 p1_6; have q2_6 := pw_cell_below hb2 q1_6; have p2_7 := pw_cell_below hb2 p1_7; have q2_7 := pw_cell_below hb2 q1_7; have p2_8 := pw_cell_below hb2 p1_8; have q2_8 := pw_cell_below hb2 q1_8; have p2_9 := pw_cell_below hb2 p1_9; have q2_9 := pw_cell_below hb2 q1_9; have HC2 := Aside0.mk (below_then HC1.out HC1.out.size hb2); clear hb2) | (go_at_call 27; refine (intsEqual_any A3 B3 c3 d3 x.f3 y.f3 _ (HA3.out.below HC0.out) (HB3.out.below HC0.out) ).mono ?_; rintro e w1 ⟨rfl, hb1⟩; rw [HE3.out]; have p1_0 := pw_cell_below hb1 p0; have q1_0 := pw_cell_below hb1 q0; have p1_1 := pw_cell_below hb1 p1; have q1_1 := pw_cell_below hb1 q1; have p1_2 := pw_cell_below hb1 p2; have q1_2 := pw_cell_below hb1 q2; have p1_3 := pw_cell_below hb1 p3; have q1_3 := pw_cell_below hb1 q3; have p1_4 := pw_cell_below hb1 p4; have q1_4 := pw_cell_below hb1 q4; have p1_5 := pw_cell_below hb1 p5; have q1_5 := pw_cell_below hb1 q5; have p1_6 := pw_cell_below hb1 p6; have q1_6 := pw_cell_below hb1 q6; have p1_7 := pw_cell_below hb1 p7; have q1_7 := pw_cell_below hb1 q7; have p1_8 := pw_cell_below hb1 p8; have q1_8 := pw_cell_below hb1 q8; have p1_9 := pw_cell_below hb1 p9; have q1_9 := pw_cell_below hb1 q9; have HC1 := Aside0.mk (below_then HC0.out HC0.out.size hb1); clear hb1))
    go_ret
    exact ⟨ret_bool HF.out.symm, below_then HX.out HX.out.size HC4.out⟩
  | true =>
  cases h7 : (x.f7 == y.f7) with
  | false =>
    have HF : Aside0 (sameNode x y = false) := ⟨by rw [HV.out, h0, h1, h2, h3, h4, h5, h6, h7]; simp⟩
    have HE3 := Aside0.mk h3
    clear h3
    have HE4 := Aside0.mk h4
    clear h4
    have HE5 := Aside0.mk h5
    clear h5
    have HE6 := Aside0.mk h6
    clear h6
    go_enter Try.func50, Try.ntmps50
    go_upto_region 1 with fail
    rw [← HW.out]
    go_wp2_with (first | (go_at_call 53; refine (occsSame_any A8 B8 c8 d8 x.f6 y.f6 _ (HA8.out.below HC3.out) (HB8.out.below HC3.out) ).mono ?_; rintro e w4 ⟨rfl, hb4⟩; rw [HE6.out]; have p4_0 := pw_cell_below hb4 p3_0; have q4_0 := pw_cell_below hb4 q3_0; have p4_1 := pw_cell_below hb4 p3_1; have q4_1 := pw_cell_below hb4 q3_1; have p4_2 := pw_cell_below hb4 p3_2; have q4_2 := pw_cell_below hb4 q3_2; have p4_3 := pw_cell_below hb4 p3_3; have q4_3 := pw_cell_below hb4 q3_3; have p4_4 := pw_cell_below hb4 p3_4; have q4_4 := pw_cell_below hb4 q3_4; have p4_5 := pw_cell_below hb4 p3_5; have q4_5 := pw_cell_below hb4 q3_5; have p4_6 := pw_cell_below hb4 p3_6; have q4_6 := pw_cell_below hb4 q3_6; have p4_7 := pw_cell_below hb4 p3_7; have q4_7 := pw_cell_below hb4 q3_7; have p4_8 := pw_cell_below hb4 p3_8; have q4_8 := pw_cell_below hb4 q3_8; have p4_9 := pw_cell_below hb4 p3_9; have q4_9 := pw_cell_below hb4 q3_9; have HC4 := Aside0.mk (below_then HC3.out HC3.out.size hb4); clear hb4) | (go_at_call 52; refine (spanSame_any x.f5 y.f5 A6 c6 A7 c7 B6 d6 B7 d7 _ (HA6.out.below HC2.out) (HA7.out.below HC2.out) (HB6.out.below HC2.out) (HB7.out.below HC2.out) ).mono ?_; rintro e w3 ⟨rfl, hb3⟩; rw [HE5.out]; have p3_0 := pw_cell_below hb3 p2_0; have q3_0 := pw_cell_below hb3 q2_0; have p3_1 := pw_cell_below hb3 p2_1; have q3_1 := pw_cell_below hb3 q2_1; have p3_2 := pw_cell_below hb3 p2_2; have q3_2 := pw_cell_below hb3 q2_2; have p3_3 := pw_cell_below hb3 p2_3; have q3_3 := pw_cell_below hb3 q2_3; have p3_4 := pw_cell_below hb3 p2_4; have q3_4 := pw_cell_below hb3 q2_4; have p3_5 := pw_cell_below hb3 p2_5; have q3_5 := pw_cell_below hb3 q2_5; have p3_6 := pw_cell_below hb3 p2_6; have q3_6 := pw_cell_below hb3 q2_6; have p3_7 := pw_cell_below hb3 p2_7; have q3_7 := pw_cell_below hb3 q2_7; have p3_8 := pw_cell_below hb3 p2_8; have q3_8 := pw_cell_below hb3 q2_8; have p3_9 := pw_cell_below hb3 p2_9; have q3_9 := pw_cell_below hb3 q2_9; have HC3 := Aside0.mk (below_then HC2.out HC2.out.size hb3); clear hb3) | (go_at_call 51; refine (pairSame_any x.f4 y.f4 A4 c4 A5 c5 B4 d4 B5 d5 _ (HA4.out.below HC1.out) (HA5.out.below HC1.out) (HB4.out.below HC1.out) (HB5.out.below HC1.out) ).mono ?_; rintro e w2 ⟨rfl, hb2⟩; rw [HE4.out]; have p2_0 := pw_cell_below hb2 p1_0; have q2_0 := pw_cell_below hb2 q1_0; have p2_1 := pw_cell_below hb2 p1_1; have q2_1 := pw_cell_below hb2 q1_1; have p2_2 := pw_cell_below hb2 p1_2; have q2_2 := pw_cell_below hb2 q1_2; have p2_3 := pw_cell_below hb2 p1_3; have q2_3 := pw_cell_below hb2 q1_3; have p2_4 := pw_cell_below hb2 p1_4; have q2_4 := pw_cell_below hb2 q1_4; have p2_5 := pw_cell_below hb2 p1_5; have q2_5 := pw_cell_below hb2 q1_5; have p2_6 := pw_cell_below hb2 p1_6; have q2_6 := pw_cell_below hb2 q1_6; have p2_7 := pw_cell_below hb2 p1_7; have q2_7 := pw_cell_below hb2 q1_7; have p2_8 := pw_cell_below hb2 p1_8; have q2_8 := pw_cell_below hb2 q1_8; have p2_9 := pw_cell_below hb2 p1_9; have q2_9 := pw_cell_below hb2 q1_9; have HC2 := Aside0.mk (below_then HC1.out HC1.out.size hb2); clear hb2) | (go_at_call 27; refine (intsEqual_any A3 B3 c3 d3 x.f3 y.f3 _ (HA3.out.below HC0.out) (HB3.out.below HC0.out) ).mono ?_; rintro e w1 ⟨rfl, hb1⟩; rw [HE3.out]; have p1_0 := pw_cell_below hb1 p0; have q1_0 := pw_cell_below hb1 q0; have p1_1 := pw_cell_below hb1 p1; have q1_1 := pw_cell_below hb1 q1; have p1_2 := pw_cell_below hb1 p2; have q1_2 := pw_cell_below hb1 q2; have p1_3 := pw_cell_below hb1 p3; have q1_3 := pw_cell_below hb1 q3; have p1_4 := pw_cell_below hb1 p4; have q1_4 := pw_cell_below hb1 q4; have p1_5 := pw_cell_below hb1 p5; have q1_5 := pw_cell_below hb1 q5; have p1_6 := pw_cell_below hb1 p6; have q1_6 := pw_cell_below hb1 q6; have p1_7 := pw_cell_below hb1 p7; have q1_7 := pw_cell_below hb1 q7; have p1_8 := pw_cell_below hb1 p8; have q1_8 := pw_cell_below hb1 q8; have p1_9 := pw_cell_below hb1 p9; have q1_9 := pw_cell_below hb1 q9; have HC1 := Aside0.mk (below_then HC0.out HC0.out.size hb1); clear hb1))
    go_ret
    exact ⟨ret_bool HF.out.symm, below_then HX.out HX.out.size HC4.out⟩
  | true =>
  have HF : Aside0 (sameNode x y = true) := ⟨by rw [HV.out, h0, h1, h2, h3, h4, h5, h6, h7]; simp⟩
  have HE3 := Aside0.mk h3
  clear h3
  have HE4 := Aside0.mk h4
  clear h4
  have HE5 := Aside0.mk h5
  clear h5
  have HE6 := Aside0.mk h6
  clear h6
  go_enter Try.func50, Try.ntmps50
  go_upto_region 1 with fail
  rw [← HW.out]
  go_wp2_with (first | (go_at_call 53; refine (occsSame_any A8 B8 c8 d8 x.f6 y.f6 _ (HA8.out.below HC3.out) (HB8.out.below HC3.out) ).mono ?_; rintro e w4 ⟨rfl, hb4⟩; rw [HE6.out]; have p4_0 := pw_cell_below hb4 p3_0; have q4_0 := pw_cell_below hb4 q3_0; have p4_1 := pw_cell_below hb4 p3_1; have q4_1 := pw_cell_below hb4 q3_1; have p4_2 := pw_cell_below hb4 p3_2; have q4_2 := pw_cell_below hb4 q3_2; have p4_3 := pw_cell_below hb4 p3_3; have q4_3 := pw_cell_below hb4 q3_3; have p4_4 := pw_cell_below hb4 p3_4; have q4_4 := pw_cell_below hb4 q3_4; have p4_5 := pw_cell_below hb4 p3_5; have q4_5 := pw_cell_below hb4 q3_5; have p4_6 := pw_cell_below hb4 p3_6; have q4_6 := pw_cell_below hb4 q3_6; have p4_7 := pw_cell_below hb4 p3_7; have q4_7 := pw_cell_below hb4 q3_7; have p4_8 := pw_cell_below hb4 p3_8; have q4_8 := pw_cell_below hb4 q3_8; have p4_9 := pw_cell_below hb4 p3_9; have q4_9 := pw_cell_below hb4 q3_9; have HC4 := Aside0.mk (below_then HC3.out HC3.out.size hb4); clear hb4) | (go_at_call 52; refine (spanSame_any x.f5 y.f5 A6 c6 A7 c7 B6 d6 B7 d7 _ (HA6.out.below HC2.out) (HA7.out.below HC2.out) (HB6.out.below HC2.out) (HB7.out.below HC2.out) ).mono ?_; rintro e w3 ⟨rfl, hb3⟩; rw [HE5.out]; have p3_0 := pw_cell_below hb3 p2_0; have q3_0 := pw_cell_below hb3 q2_0; have p3_1 := pw_cell_below hb3 p2_1; have q3_1 := pw_cell_below hb3 q2_1; have p3_2 := pw_cell_below hb3 p2_2; have q3_2 := pw_cell_below hb3 q2_2; have p3_3 := pw_cell_below hb3 p2_3; have q3_3 := pw_cell_below hb3 q2_3; have p3_4 := pw_cell_below hb3 p2_4; have q3_4 := pw_cell_below hb3 q2_4; have p3_5 := pw_cell_below hb3 p2_5; have q3_5 := pw_cell_below hb3 q2_5; have p3_6 := pw_cell_below hb3 p2_6; have q3_6 := pw_cell_below hb3 q2_6; have p3_7 := pw_cell_below hb3 p2_7; have q3_7 := pw_cell_below hb3 q2_7; have p3_8 := pw_cell_below hb3 p2_8; have q3_8 := pw_cell_below hb3 q2_8; have p3_9 := pw_cell_below hb3 p2_9; have q3_9 := pw_cell_below hb3 q2_9; have HC3 := Aside0.mk (below_then HC2.out HC2.out.size hb3); clear hb3) | (go_at_call 51; refine (pairSame_any x.f4 y.f4 A4 c4 A5 c5 B4 d4 B5 d5 _ (HA4.out.below HC1.out) (HA5.out.below HC1.out) (HB4.out.below HC1.out) (HB5.out.below HC1.out) ).mono ?_; rintro e w2 ⟨rfl, hb2⟩; rw [HE4.out]; have p2_0 := pw_cell_below hb2 p1_0; have q2_0 := pw_cell_below hb2 q1_0; have p2_1 := pw_cell_below hb2 p1_1; have q2_1 := pw_cell_below hb2 q1_1; have p2_2 := pw_cell_below hb2 p1_2; have q2_2 := pw_cell_below hb2 q1_2; have p2_3 := pw_cell_below hb2 p1_3; have q2_3 := pw_cell_below hb2 q1_3; have p2_4 := pw_cell_below hb2 p1_4; have q2_4 := pw_cell_below hb2 q1_4; have p2_5 := pw_cell_below hb2 p1_5; have q2_5 := pw_cell_below hb2 q1_5; have p2_6 := pw_cell_below hb2 p1_6; have q2_6 := pw_cell_below hb2 q1_6; have p2_7 := pw_cell_below hb2 p1_7; have q2_7 := pw_cell_below hb2 q1_7; have p2_8 := pw_cell_below hb2 p1_8; have q2_8 := pw_cell_below hb2 q1_8; have p2_9 := pw_cell_below hb2 p1_9; have q2_9 := pw_cell_below hb2 q1_9; have HC2 := Aside0.mk (below_then HC1.out HC1.out.size hb2); clear hb2) | (go_at_call 27; refine (intsEqual_any A3 B3 c3 d3 x.f3 y.f3 _ (HA3.out.below HC0.out) (HB3.out.below HC0.out) ).mono ?_; rintro e w1 ⟨rfl, hb1⟩; rw [HE3.out]; have p1_0 := pw_cell_below hb1 p0; have q1_0 := pw_cell_below hb1 q0; have p1_1 := pw_cell_below hb1 p1; have q1_1 := pw_cell_below hb1 q1; have p1_2 := pw_cell_below hb1 p2; have q1_2 := pw_cell_below hb1 q2; have p1_3 := pw_cell_below hb1 p3; have q1_3 := pw_cell_below hb1 q3; have p1_4 := pw_cell_below hb1 p4; have q1_4 := pw_cell_below hb1 q4; have p1_5 := pw_cell_below hb1 p5; have q1_5 := pw_cell_below hb1 q5; have p1_6 := pw_cell_below hb1 p6; have q1_6 := pw_cell_below hb1 q6; have p1_7 := pw_cell_below hb1 p7; have q1_7 := pw_cell_below hb1 q7; have p1_8 := pw_cell_below hb1 p8; have q1_8 := pw_cell_below hb1 q8; have p1_9 := pw_cell_below hb1 p9; have q1_9 := pw_cell_below hb1 q9; have HC1 := Aside0.mk (below_then HC0.out HC0.out.size hb1); clear hb1))
  go_ret
  exact ⟨ret_bool HF.out.symm, below_then HX.out HX.out.size HC4.out⟩
def sameGraph (x y : TGraph) : Bool := (x.f0 == y.f0) && (x.f2 == y.f2) && (x.f3 == y.f3) && (x.f4 == y.f4) && eqQ sameNode x.f1 y.f1
theorem sameGraph_eq (x y : TGraph) : sameGraph x y = ((x.f0 == y.f0) && (x.f2 == y.f2) && (x.f3 == y.f3) && (x.f4 == y.f4) && eqQ sameNode x.f1 y.f1) := rfl
theorem nodeSame_any' (x y : TNode) : QCallNode sameNode x y := fun A3 c3 A4 c4 A5 c5 A6 c6 A7 c7 A8 c8 B3 d3 B4 d4 B5 d5 B6 d6 B7 d7 B8 d8 w h3 h4 h5 h6 h7 h8 g3 g4 g5 g6 g7 g8 => nodeSame_any x y A3 c3 A4 c4 A5 c5 A6 c6 A7 c7 A8 c8 B3 d3 B4 d4 B5 d5 B6 d6 B7 d7 B8 d8 w h3 h4 h5 h6 h7 h8 g3 g4 g5 g6 g7 g8
set_option maxHeartbeats 4000000 in
set_option maxRecDepth 100000 in
theorem graphSame_any (x y : TGraph) (A1 : Option Addr) (c1 : Nat) (B1 : Option Addr) (d1 : Nat) (w : World) (hA1 : IsS kNode w x.f1 A1 c1) (hB1 : IsS kNode w y.f1 B1 d1) :
    Calls Try.prog 25 #[.agg #[.int .i64 x.f0, .slice A1 x.f1.length c1, .int .i64 x.f2, .int .i64 x.f3, .bool x.f4], .agg #[.int .i64 y.f0, .slice B1 y.f1.length d1, .int .i64 y.f2, .int .i64 y.f3, .bool y.f4]] w fun e w' => e = .returned (.bool (sameGraph x y)) ∧ Below w.heap.size w w' := by
  obtain ⟨hb0, bP, bQ⟩ := boxes2 w #[.int .i64 x.f0, .slice A1 x.f1.length c1, .int .i64 x.f2, .int .i64 x.f3, .bool x.f4] #[.int .i64 y.f0, .slice B1 y.f1.length d1, .int .i64 y.f2, .int .i64 y.f3, .bool y.f4] 50 50
  have HA1 := Aside0.mk (hA1.below hb0)
  have HB1 := Aside0.mk (hB1.below hb0)
  clear hA1 hB1
  obtain ⟨W, hW⟩ : ∃ W, W = (w.alloc (.cells #[.int .i64 x.f0, .slice A1 x.f1.length c1, .int .i64 x.f2, .int .i64 x.f3, .bool x.f4] 50)).alloc (.cells #[.int .i64 y.f0, .slice B1 y.f1.length d1, .int .i64 y.f2, .int .i64 y.f3, .bool y.f4] 50) := ⟨_, rfl⟩
  rw [← hW] at hb0 bP bQ HA1 HB1
  have HW := Aside0.mk hW
  have HX := Aside0.mk hb0
  clear hb0 hW
  have p0 := (blk_cell bP 0).trans rfl
  have q0 := (blk_cell bQ 0).trans rfl
  have p1 := (blk_cell bP 1).trans rfl
  have q1 := (blk_cell bQ 1).trans rfl
  have p2 := (blk_cell bP 2).trans rfl
  have q2 := (blk_cell bQ 2).trans rfl
  have p3 := (blk_cell bP 3).trans rfl
  have q3 := (blk_cell bQ 3).trans rfl
  have p4 := (blk_cell bP 4).trans rfl
  have q4 := (blk_cell bQ 4).trans rfl
  have HC0 : Aside0 (Below W.heap.size W W) := ⟨Below.refl _ _⟩
  have HV : Aside0 (sameGraph x y = ((x.f0 == y.f0) && (x.f2 == y.f2) && (x.f3 == y.f3) && (x.f4 == y.f4) && (eqQ sameNode x.f1 y.f1))) := ⟨by exact sameGraph_eq x y⟩
  cases h0 : (x.f0 == y.f0) with
  | false =>
    have HF : Aside0 (sameGraph x y = false) := ⟨by rw [HV.out, h0]; simp⟩
    go_enter Try.func25, Try.ntmps25
    go_upto_region 1 with fail
    rw [← HW.out]
    go_wp2
    go_ret
    exact ⟨ret_bool HF.out.symm, below_then HX.out HX.out.size HC0.out⟩
  | true =>
  cases h1 : (x.f2 == y.f2) with
  | false =>
    have HF : Aside0 (sameGraph x y = false) := ⟨by rw [HV.out, h0, h1]; simp⟩
    go_enter Try.func25, Try.ntmps25
    go_upto_region 1 with fail
    rw [← HW.out]
    go_wp2
    go_ret
    exact ⟨ret_bool HF.out.symm, below_then HX.out HX.out.size HC0.out⟩
  | true =>
  cases h2 : (x.f3 == y.f3) with
  | false =>
    have HF : Aside0 (sameGraph x y = false) := ⟨by rw [HV.out, h0, h1, h2]; simp⟩
    go_enter Try.func25, Try.ntmps25
    go_upto_region 1 with fail
    rw [← HW.out]
    go_wp2
    go_ret
    exact ⟨ret_bool HF.out.symm, below_then HX.out HX.out.size HC0.out⟩
  | true =>
  cases h3 : (x.f4 == y.f4) with
  | false =>
    have HF : Aside0 (sameGraph x y = false) := ⟨by rw [HV.out, h0, h1, h2, h3]; simp⟩
    go_enter Try.func25, Try.ntmps25
    go_upto_region 1 with fail
    rw [← HW.out]
    go_wp2
    go_ret
    exact ⟨ret_bool HF.out.symm, below_then HX.out HX.out.size HC0.out⟩
  | true =>
  cases h4 : (eqQ sameNode x.f1 y.f1) with
  | false =>
    have HF : Aside0 (sameGraph x y = false) := ⟨by rw [HV.out, h0, h1, h2, h3, h4]; simp⟩
    have HE4 := Aside0.mk h4
    clear h4
    go_enter Try.func25, Try.ntmps25
    go_upto_region 1 with fail
    rw [← HW.out]
    go_wp2_with (go_at_call 49; refine (equalFNode_of sameNode A1 B1 c1 d1 x.f1 y.f1 _ (HA1.out.below HC0.out) (HB1.out.below HC0.out) (fun x _ y _ => nodeSame_any' x y)).mono ?_; rintro e w1 ⟨rfl, hb1⟩; rw [HE4.out]; have p1_0 := pw_cell_below hb1 p0; have q1_0 := pw_cell_below hb1 q0; have p1_1 := pw_cell_below hb1 p1; have q1_1 := pw_cell_below hb1 q1; have p1_2 := pw_cell_below hb1 p2; have q1_2 := pw_cell_below hb1 q2; have p1_3 := pw_cell_below hb1 p3; have q1_3 := pw_cell_below hb1 q3; have p1_4 := pw_cell_below hb1 p4; have q1_4 := pw_cell_below hb1 q4; have HC1 := Aside0.mk (below_then HC0.out HC0.out.size hb1); clear hb1)
    go_ret
    exact ⟨ret_bool HF.out.symm, below_then HX.out HX.out.size HC1.out⟩
  | true =>
  have HF : Aside0 (sameGraph x y = true) := ⟨by rw [HV.out, h0, h1, h2, h3, h4]; simp⟩
  have HE4 := Aside0.mk h4
  clear h4
  go_enter Try.func25, Try.ntmps25
  go_upto_region 1 with fail
  rw [← HW.out]
  go_wp2_with (go_at_call 49; refine (equalFNode_of sameNode A1 B1 c1 d1 x.f1 y.f1 _ (HA1.out.below HC0.out) (HB1.out.below HC0.out) (fun x _ y _ => nodeSame_any' x y)).mono ?_; rintro e w1 ⟨rfl, hb1⟩; rw [HE4.out]; have p1_0 := pw_cell_below hb1 p0; have q1_0 := pw_cell_below hb1 q0; have p1_1 := pw_cell_below hb1 p1; have q1_1 := pw_cell_below hb1 q1; have p1_2 := pw_cell_below hb1 p2; have q1_2 := pw_cell_below hb1 q2; have p1_3 := pw_cell_below hb1 p3; have q1_3 := pw_cell_below hb1 q3; have p1_4 := pw_cell_below hb1 p4; have q1_4 := pw_cell_below hb1 q4; have HC1 := Aside0.mk (below_then HC0.out HC0.out.size hb1); clear hb1)
  go_ret
  exact ⟨ret_bool HF.out.symm, below_then HX.out HX.out.size HC1.out⟩
set_option maxRecDepth 100000 in
theorem rulesSame_any (A B : Option Addr) (c d : Nat) (a b : List TRule) (w : World) (ha : IsS kRule w a A c) (hb : IsS kRule w b B d) :
    Calls Try.prog 23 #[.slice A a.length c, .slice B b.length d] w fun e w' => e = .returned (.bool (eqQ sameR a b)) ∧ Below w.heap.size w w' := by
  go_enter Try.func23, Try.ntmps23
  go_wp2_with (go_at_call 46; refine (equalFRule_of sameR A B c d a b _ ha hb (fun x _ y _ => ruleSame_any x y)).mono ?_; rintro e w2 ⟨rfl, hb2⟩; have HB2 := Aside0.mk hb2; clear hb2)
  go_ret
  exact ⟨rfl, HB2.out⟩
end Go.Proofs.Ytbbdkhffacoglaa.Ki
