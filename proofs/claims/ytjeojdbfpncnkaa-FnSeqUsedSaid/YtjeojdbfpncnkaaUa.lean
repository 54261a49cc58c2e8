
/- FnSeqUsed: the walk. -/
import Derived.Test.YtjeojdbfpncnkaaB7
import Derived.Test.YtjeojdbfpncnkaaB6
set_option linter.unusedVariables false
set_option linter.unusedSimpArgs false
namespace Go.Proofs.Ytjeojdbfpncnkaa.Ua
open Go.RowKit Go.Proofs.YtjeojdbfpncnkaaW.PrintWords Go.Proofs.Ytjeojdbfpncnkaa.Wd Go.Proofs.Ytjeojdbfpncnkaa.Pu Go.Proofs.Ytjeojdbfpncnkaa.Pv Go.Proofs.Ytjeojdbfpncnkaa.Ca Go.Proofs.Ytjeojdbfpncnkaa.Cb Go.Proofs.Ytjeojdbfpncnkaa.Cc Go.Proofs.Ytjeojdbfpncnkaa.Cp Go.Proofs.Ytjeojdbfpncnkaa.Cd Go.Proofs.Ytjeojdbfpncnkaa.Ci Go.Proofs.Ytjeojdbfpncnkaa.Ce Go.Proofs.Ytjeojdbfpncnkaa.Cf Go.Proofs.Ytjeojdbfpncnkaa.Cg Go.Proofs.Ytjeojdbfpncnkaa.Sc Go.Proofs.Ytjeojdbfpncnkaa.Se Go.Proofs.Ytjeojdbfpncnkaa.Sh Go.Proofs.Ytjeojdbfpncnkaa.Si Go.Proofs.Ytjeojdbfpncnkaa.Sp Go.Proofs.Ytjeojdbfpncnkaa.Ia Go.Proofs.Ytjeojdbfpncnkaa.Ib Go.Proofs.Ytjeojdbfpncnkaa.Ic Go.Proofs.Ytjeojdbfpncnkaa.Id Go.Proofs.Ytjeojdbfpncnkaa.Ie Go.Proofs.Ytjeojdbfpncnkaa.If Go.Proofs.Ytjeojdbfpncnkaa.Ig Go.Proofs.Ytjeojdbfpncnkaa.Ih Go.Proofs.Ytjeojdbfpncnkaa.Ij Go.Proofs.Ytjeojdbfpncnkaa.Ik Go.Proofs.Ytjeojdbfpncnkaa.Ra Go.Proofs.Ytjeojdbfpncnkaa.Rb Go.Proofs.Ytjeojdbfpncnkaa.Rc Go.Proofs.Ytjeojdbfpncnkaa.Rd Go.Proofs.Ytjeojdbfpncnkaa.Re Go.Proofs.Ytjeojdbfpncnkaa.Sj Go.Proofs.Ytjeojdbfpncnkaa.Ya Go.Proofs.Ytjeojdbfpncnkaa.Yd Go.Proofs.Ytjeojdbfpncnkaa.Yf Go.Proofs.Ytjeojdbfpncnkaa.Yg Go.Proofs.Ytjeojdbfpncnkaa.Ih Go.Proofs.Ytjeojdbfpncnkaa.Yh Go.Proofs.Ytjeojdbfpncnkaa.Yi Go.Proofs.Ytjeojdbfpncnkaa.Sg Go.Proofs.Ytjeojdbfpncnkaa.Sf Go.Proofs.Ytjeojdbfpncnkaa.Yj Go.Proofs.Ytjeojdbfpncnkaa.Ig Go.Proofs.Ytjeojdbfpncnkaa.Yk Go.Proofs.Ytjeojdbfpncnkaa.Ik Go.Proofs.Ytjeojdbfpncnkaa.Yl Go.Proofs.Ytjeojdbfpncnkaa.Ij Go.Proofs.Ytjeojdbfpncnkaa.Ym Go.Proofs.Ytjeojdbfpncnkaa.Il Go.Proofs.Ytjeojdbfpncnkaa.Yn Go.Proofs.Ytjeojdbfpncnkaa.Yo Go.Proofs.Ytjeojdbfpncnkaa.In Go.Proofs.Ytjeojdbfpncnkaa.Yq Go.Proofs.Ytjeojdbfpncnkaa.Pw Go.Proofs.Ytjeojdbfpncnkaa.Px Go.Proofs.Ytjeojdbfpncnkaa.La Go.Proofs.Ytjeojdbfpncnkaa.Db



set_option maxHeartbeats 60000000 in
set_option maxRecDepth 100000 in
theorem walk (A : Option Addr) (c : Nat) (bs : List Int) (w : World) (hC : (Kd.int .u8).C w A bs.length bs) (hc : bs.length ≤ c) (hb : ∀ b ∈ bs, 0 ≤ b ∧ b ≤ 255) :
    Calls Try.prog 6 #[.slice A bs.length c] w fun e w' => e = .returned (.bool true) ∧ Below w.heap.size w w' := by
  by_cases hbig : bs.length > 1048576
  · have d1 : decide ((bs.length : Int) > 1048576) = true := decide_eq_true (by omega)
    go_enter Try.func6, Try.ntmps6
    go_wp2
    go_ret
    exact ⟨rfl, Below.refl _ _⟩
  have d1 : decide ((bs.length : Int) > 1048576) = false := decide_eq_false (by omega)
  go_enter Try.func6, Try.ntmps6
  go_upto_region 4 with (go_at_call 27; refine (drawSeqOf_any A c bs _ hC hc hb).mono ?_; rintro e w0 ⟨md, a, b, Xa, Xb, ca, cb, rfl, ha0, hb0, hln, hbel⟩; have HA0 := Aside0.mk ha0; have HB0 := Aside0.mk hb0; have HBel0 := Aside0.mk hbel; clear ha0 hb0 hbel hln)
  cases hok : (okOs a && okOs b) with
  | false =>
    have E := Aside0.mk (fun mode => ofI_bad (mode := mode) hok)
    clear hok
    go_upto_region 5 with (go_at_call 25; refine (iSeq 2 Xa Xb ca cb a b ([], false) _ (E.out 2) HA0.out HB0.out).mono ?_; rintro e w1 ⟨R1, r1, rfl, hl1, hb1⟩; have HBel1 := Aside0.mk (below_then HBel0.out HBel0.out.size hb1); have HA1 := Aside0.mk (HA0.out.below hb1); have HB1 := Aside0.mk (HB0.out.below hb1); have L1_1 := Aside0.mk hl1; clear hl1 hb1)
    go_upto_region 6 with (go_at_call 28; refine (sSeq 2 Xa Xb ca cb a b ([], false) _ (E.out 2) HA1.out HB1.out).mono ?_; rintro e w2 ⟨R2, r2, rfl, hl2, hb2⟩; have HBel2 := Aside0.mk (below_then HBel1.out HBel1.out.size hb2); have HA2 := Aside0.mk (HA1.out.below hb2); have HB2 := Aside0.mk (HB1.out.below hb2); have L1_2 := Aside0.mk (L1_1.out.below hb2); have L2_2 := Aside0.mk hl2; clear hl2 hb2)
    go_wp2_with (go_at_call 20; refine (occsSame_any _ _ _ _ _ _ _ L1_2.out.rd L2_2.out.rd).mono ?_; rintro e w3 ⟨rfl, hb3⟩; rw [decide_eq_true rfl]; have HBel3 := Aside0.mk (below_then HBel2.out HBel2.out.size hb3); clear hb3)
    go_ret
    exact ⟨rfl, HBel3.out⟩
  | true =>
    have hk := hok
    rw [Bool.and_eq_true] at hk
    obtain ⟨ka, na⟩ := okOs_iff.1 hk.1
    obtain ⟨kb, nb⟩ := okOs_iff.1 hk.2
    have sa := ka.sorted
    have E := Aside0.mk (fun mode hm => ofI_ok (mode := mode) hm hok)
    have f1 := sq_len1 (mode := 1) (.inl rfl) a b
    have f2 := sq_len1 (mode := 2) (.inr (.inl rfl)) a b
    have f4 := sq_len1 (mode := 4) (.inr (.inr rfl)) a b
    have g2 := sq_len2 (mode := 2) (.inl rfl) (b := b) sa
    have g3 := sq_len2 (mode := 3) (.inr rfl) (b := b) sa
    have m1 := sq_le_all (mode := 1) (by decide) (b := b) sa
    have m2 := sq_le_all (mode := 2) (by decide) (b := b) sa
    have m3 := sq_le_all (mode := 3) (by decide) (b := b) sa
    have p4 := sq_pos (mode := 4) (a := a) (b := b)
    have E1 := (E.out 1 (by decide)).trans (told_le (by omega))
    have E2 := (E.out 2 (by decide)).trans (told_le (by omega))
    have E3 := (E.out 3 (by decide)).trans (told_le (by omega))
    have E4 := (E.out 4 (by decide)).trans (told_le (by omega))
    have E0 := E.out 0 (by decide)
    have E0' : ofI seq3 0 a b = (sq 0 a b, true) ∨ ofI seq3 0 a b = ([], false) := by
      rw [E0]; unfold told; split
      · exact .inr rfl
      · exact .inl rfl
    clear hk hok ka kb sa E E0
    generalize sq 1 a b = l1 at *
    generalize sq 2 a b = l2 at *
    generalize sq 3 a b = l3 at *
    generalize sq 4 a b = l4 at *
    have HE1 := Aside0.mk E1
    have HE2 := Aside0.mk E2
    have HE3 := Aside0.mk E3
    have HE4 := Aside0.mk E4
    clear E1 E2 E3 E4
    have d3a : decide ((l3.length : Int) > a.length) = false := decide_eq_false (by omega)
    have d3b : decide (l3.length > a.length) = false := decide_eq_false (by omega)
    have d2a : decide (l2.length > a.length) = false := decide_eq_false (by omega)
    have d2b : decide (l2.length > b.length) = false := decide_eq_false (by omega)
    have d4b : decide (l4.length > b.length) = false := decide_eq_false (by omega)
    have d1b : decide (l1.length > b.length) = false := decide_eq_false (by omega)
    rcases E0' with E0 | E0
    · generalize sq 0 a b = l0 at *
      have HE0 := Aside0.mk E0
      clear E0
      have e1 : decide (l2.length ≤ l0.length) = true := decide_eq_true (by omega)
      have e2 : decide (l3.length ≤ l0.length) = true := decide_eq_true (by omega)
      have e3 : decide (l1.length ≤ l0.length) = true := decide_eq_true (by omega)
      have e4 : (decide (0 < l4.length) == decide (0 < l0.length)) = true := by rw [p4]; simp
      clear f1 f2 f4 g2 g3 m1 m2 m3 p4 na nb
      go_upto_region 5 with (go_at_call 25; refine (iSeq 2 Xa Xb ca cb a b (l2, true) _ HE2.out HA0.out HB0.out).mono ?_; rintro e w1 ⟨R1, r1, rfl, hl1, hb1⟩; have HBel1 := Aside0.mk (below_then HBel0.out HBel0.out.size hb1); have HA1 := Aside0.mk (HA0.out.below hb1); have HB1 := Aside0.mk (HB0.out.below hb1); have L1_1 := Aside0.mk hl1; clear hl1 hb1)
      go_upto_region 6 with (go_at_call 28; refine (sSeq 2 Xa Xb ca cb a b (l2, true) _ HE2.out HA1.out HB1.out).mono ?_; rintro e w2 ⟨R2, r2, rfl, hl2, hb2⟩; have HBel2 := Aside0.mk (below_then HBel1.out HBel1.out.size hb2); have HA2 := Aside0.mk (HA1.out.below hb2); have HB2 := Aside0.mk (HB1.out.below hb2); have L1_2 := Aside0.mk (L1_1.out.below hb2); have L2_2 := Aside0.mk hl2; clear hl2 hb2)
      go_upto_region 10 with (go_at_call 20; refine (occsSame_any _ _ _ _ _ _ _ L1_2.out.rd L2_2.out.rd).mono ?_; rintro e w3 ⟨rfl, hb3⟩; rw [decide_eq_true rfl]; have HBel3 := Aside0.mk (below_then HBel2.out HBel2.out.size hb3); have HA3 := Aside0.mk (HA2.out.below hb3); have HB3 := Aside0.mk (HB2.out.below hb3); have L1_3 := Aside0.mk (L1_2.out.below hb3); clear hb3)
      go_upto_region 11 with (go_at_call 25; refine (iSeq 3 Xa Xb ca cb a b (l3, true) _ HE3.out HA3.out HB3.out).mono ?_; rintro e w4 ⟨R4, r4, rfl, hl4, hb4⟩; have HBel4 := Aside0.mk (below_then HBel3.out HBel3.out.size hb4); have HA4 := Aside0.mk (HA3.out.below hb4); have HB4 := Aside0.mk (HB3.out.below hb4); have L1_4 := Aside0.mk (L1_3.out.below hb4); have L4_4 := Aside0.mk hl4; clear hl4 hb4)
      go_upto_region 12 with (go_at_call 25; refine (iSeq 4 Xa Xb ca cb a b (l4, true) _ HE4.out HA4.out HB4.out).mono ?_; rintro e w5 ⟨R5, r5, rfl, hl5, hb5⟩; have HBel5 := Aside0.mk (below_then HBel4.out HBel4.out.size hb5); have HA5 := Aside0.mk (HA4.out.below hb5); have HB5 := Aside0.mk (HB4.out.below hb5); have L1_5 := Aside0.mk (L1_4.out.below hb5); have L4_5 := Aside0.mk (L4_4.out.below hb5); have L5_5 := Aside0.mk hl5; clear hl5 hb5)
      go_upto_region 13 with (go_at_call 25; refine (iSeq 1 Xa Xb ca cb a b (l1, true) _ HE1.out HA5.out HB5.out).mono ?_; rintro e w6 ⟨R6, r6, rfl, hl6, hb6⟩; have HBel6 := Aside0.mk (below_then HBel5.out HBel5.out.size hb6); have HA6 := Aside0.mk (HA5.out.below hb6); have HB6 := Aside0.mk (HB5.out.below hb6); have L1_6 := Aside0.mk (L1_5.out.below hb6); have L4_6 := Aside0.mk (L4_5.out.below hb6); have L5_6 := Aside0.mk (L5_5.out.below hb6); have L6_6 := Aside0.mk hl6; clear hl6 hb6)
      go_wp2_with (go_at_call 25; refine (iSeq 0 Xa Xb ca cb a b (l0, true) _ HE0.out HA6.out HB6.out).mono ?_; rintro e w7 ⟨R7, r7, rfl, hl7, hb7⟩; have HBel7 := Aside0.mk (below_then HBel6.out HBel6.out.size hb7); have L7_7 := Aside0.mk hl7; clear hl7 hb7)
      go_ret
      exact ⟨rfl, HBel7.out⟩
    · have HE0 := Aside0.mk E0
      clear E0 f1 f2 f4 g2 g3 m1 m2 m3 p4 na nb
      go_upto_region 5 with (go_at_call 25; refine (iSeq 2 Xa Xb ca cb a b (l2, true) _ HE2.out HA0.out HB0.out).mono ?_; rintro e w1 ⟨R1, r1, rfl, hl1, hb1⟩; have HBel1 := Aside0.mk (below_then HBel0.out HBel0.out.size hb1); have HA1 := Aside0.mk (HA0.out.below hb1); have HB1 := Aside0.mk (HB0.out.below hb1); have L1_1 := Aside0.mk hl1; clear hl1 hb1)
      go_upto_region 6 with (go_at_call 28; refine (sSeq 2 Xa Xb ca cb a b (l2, true) _ HE2.out HA1.out HB1.out).mono ?_; rintro e w2 ⟨R2, r2, rfl, hl2, hb2⟩; have HBel2 := Aside0.mk (below_then HBel1.out HBel1.out.size hb2); have HA2 := Aside0.mk (HA1.out.below hb2); have HB2 := Aside0.mk (HB1.out.below hb2); have L1_2 := Aside0.mk (L1_1.out.below hb2); have L2_2 := Aside0.mk hl2; clear hl2 hb2)
      go_upto_region 10 with (go_at_call 20; refine (occsSame_any _ _ _ _ _ _ _ L1_2.out.rd L2_2.out.rd).mono ?_; rintro e w3 ⟨rfl, hb3⟩; rw [decide_eq_true rfl]; have HBel3 := Aside0.mk (below_then HBel2.out HBel2.out.size hb3); have HA3 := Aside0.mk (HA2.out.below hb3); have HB3 := Aside0.mk (HB2.out.below hb3); have L1_3 := Aside0.mk (L1_2.out.below hb3); clear hb3)
      go_upto_region 11 with (go_at_call 25; refine (iSeq 3 Xa Xb ca cb a b (l3, true) _ HE3.out HA3.out HB3.out).mono ?_; rintro e w4 ⟨R4, r4, rfl, hl4, hb4⟩; have HBel4 := Aside0.mk (below_then HBel3.out HBel3.out.size hb4); have HA4 := Aside0.mk (HA3.out.below hb4); have HB4 := Aside0.mk (HB3.out.below hb4); have L1_4 := Aside0.mk (L1_3.out.below hb4); have L4_4 := Aside0.mk hl4; clear hl4 hb4)
      go_upto_region 12 with (go_at_call 25; refine (iSeq 4 Xa Xb ca cb a b (l4, true) _ HE4.out HA4.out HB4.out).mono ?_; rintro e w5 ⟨R5, r5, rfl, hl5, hb5⟩; have HBel5 := Aside0.mk (below_then HBel4.out HBel4.out.size hb5); have HA5 := Aside0.mk (HA4.out.below hb5); have HB5 := Aside0.mk (HB4.out.below hb5); have L1_5 := Aside0.mk (L1_4.out.below hb5); have L4_5 := Aside0.mk (L4_4.out.below hb5); have L5_5 := Aside0.mk hl5; clear hl5 hb5)
      go_upto_region 13 with (go_at_call 25; refine (iSeq 1 Xa Xb ca cb a b (l1, true) _ HE1.out HA5.out HB5.out).mono ?_; rintro e w6 ⟨R6, r6, rfl, hl6, hb6⟩; have HBel6 := Aside0.mk (below_then HBel5.out HBel5.out.size hb6); have HA6 := Aside0.mk (HA5.out.below hb6); have HB6 := Aside0.mk (HB5.out.below hb6); have L1_6 := Aside0.mk (L1_5.out.below hb6); have L4_6 := Aside0.mk (L4_5.out.below hb6); have L5_6 := Aside0.mk (L5_5.out.below hb6); have L6_6 := Aside0.mk hl6; clear hl6 hb6)
      go_wp2_with (go_at_call 25; refine (iSeq 0 Xa Xb ca cb a b ([], false) _ HE0.out HA6.out HB6.out).mono ?_; rintro e w7 ⟨R7, r7, rfl, hl7, hb7⟩; have HBel7 := Aside0.mk (below_then HBel6.out HBel6.out.size hb7); have L7_7 := Aside0.mk hl7; clear hl7 hb7)
      go_ret
      exact ⟨rfl, HBel7.out⟩
end Go.Proofs.Ytjeojdbfpncnkaa.Ua
