
/- FnAndUsed: the walk. -/
import Derived.Test.YtjeojdbfpncnkaaGreatPz
import Derived.Test.YtjeojdbfpncnkaaGreatB7
import Derived.Test.YtjeojdbfpncnkaaGreatB6
set_option linter.unusedVariables false
set_option linter.unusedSimpArgs false
namespace Go.Proofs.YtjeojdbfpncnkaaGreat.Wf
open Go.RowKit Go.Proofs.YtjeojdbfpncnkaaGreatW.PrintWords Go.Proofs.YtjeojdbfpncnkaaGreat.Wd Go.Proofs.YtjeojdbfpncnkaaGreat.Pu Go.Proofs.YtjeojdbfpncnkaaGreat.Pv Go.Proofs.YtjeojdbfpncnkaaGreat.Ca Go.Proofs.YtjeojdbfpncnkaaGreat.Cb Go.Proofs.YtjeojdbfpncnkaaGreat.Cc Go.Proofs.YtjeojdbfpncnkaaGreat.Cp Go.Proofs.YtjeojdbfpncnkaaGreat.Cd Go.Proofs.YtjeojdbfpncnkaaGreat.Ci Go.Proofs.YtjeojdbfpncnkaaGreat.Ce Go.Proofs.YtjeojdbfpncnkaaGreat.Cf Go.Proofs.YtjeojdbfpncnkaaGreat.Cg Go.Proofs.YtjeojdbfpncnkaaGreat.Sc Go.Proofs.YtjeojdbfpncnkaaGreat.Se Go.Proofs.YtjeojdbfpncnkaaGreat.Sh Go.Proofs.YtjeojdbfpncnkaaGreat.Si Go.Proofs.YtjeojdbfpncnkaaGreat.Sp Go.Proofs.YtjeojdbfpncnkaaGreat.Ia Go.Proofs.YtjeojdbfpncnkaaGreat.Ib Go.Proofs.YtjeojdbfpncnkaaGreat.Ic Go.Proofs.YtjeojdbfpncnkaaGreat.Id Go.Proofs.YtjeojdbfpncnkaaGreat.Ie Go.Proofs.YtjeojdbfpncnkaaGreat.If Go.Proofs.YtjeojdbfpncnkaaGreat.Ig Go.Proofs.YtjeojdbfpncnkaaGreat.Ih Go.Proofs.YtjeojdbfpncnkaaGreat.Ij Go.Proofs.YtjeojdbfpncnkaaGreat.Ik Go.Proofs.YtjeojdbfpncnkaaGreat.Ra Go.Proofs.YtjeojdbfpncnkaaGreat.Rb Go.Proofs.YtjeojdbfpncnkaaGreat.Rc Go.Proofs.YtjeojdbfpncnkaaGreat.Rd Go.Proofs.YtjeojdbfpncnkaaGreat.Re Go.Proofs.YtjeojdbfpncnkaaGreat.Sj Go.Proofs.YtjeojdbfpncnkaaGreat.Ya Go.Proofs.YtjeojdbfpncnkaaGreat.Yd Go.Proofs.YtjeojdbfpncnkaaGreat.Yf Go.Proofs.YtjeojdbfpncnkaaGreat.Yg Go.Proofs.YtjeojdbfpncnkaaGreat.Ih Go.Proofs.YtjeojdbfpncnkaaGreat.Yh Go.Proofs.YtjeojdbfpncnkaaGreat.Yi Go.Proofs.YtjeojdbfpncnkaaGreat.Sg Go.Proofs.YtjeojdbfpncnkaaGreat.Sf Go.Proofs.YtjeojdbfpncnkaaGreat.Yj Go.Proofs.YtjeojdbfpncnkaaGreat.Ig Go.Proofs.YtjeojdbfpncnkaaGreat.Yk Go.Proofs.YtjeojdbfpncnkaaGreat.Ik Go.Proofs.YtjeojdbfpncnkaaGreat.Yl Go.Proofs.YtjeojdbfpncnkaaGreat.Ij Go.Proofs.YtjeojdbfpncnkaaGreat.Ym Go.Proofs.YtjeojdbfpncnkaaGreat.Il Go.Proofs.YtjeojdbfpncnkaaGreat.Yn Go.Proofs.YtjeojdbfpncnkaaGreat.Yo Go.Proofs.YtjeojdbfpncnkaaGreat.In Go.Proofs.YtjeojdbfpncnkaaGreat.Yq Go.Proofs.YtjeojdbfpncnkaaGreat.Pw Go.Proofs.YtjeojdbfpncnkaaGreat.Px Go.Proofs.YtjeojdbfpncnkaaGreat.La Go.Proofs.YtjeojdbfpncnkaaGreat.Db Go.Proofs.YtjeojdbfpncnkaaGreat.Pz

theorem seq_in_and {a b : List Occ} (ka : AreOk a) (kb : AreOk b) {z : Occ} (h : z ∈ sq 0 a b) : z ∈ an 0 a b := by
  obtain ⟨s, hs, o, ho, _, e⟩ := mem_sq0.1 h
  exact (mem_an0 ka kb).2 ⟨s, hs, o, ho, by rw [e]; exact join_comm (kb.all o ho) (ka.all s hs)⟩
theorem told_or (l : List Occ) : (told l = (l, true) ∧ l.length ≤ 40) ∨ told l = ([], false) := by
  unfold told
  split
  · exact .inr rfl
  · exact .inl ⟨rfl, by omega⟩
/-- what is told, and how long it is at most -/
theorem told_len {l : List Occ} {n : Nat} (h : l.length ≤ n) : ∃ m q, told l = (m, q) ∧ m.length ≤ n := by
  rcases told_or l with h1 | h1
  · exact ⟨l, true, h1.1, h⟩
  · exact ⟨[], false, h1, by simp⟩
theorem an_nil {a : List Occ} (ka : AreOk a) : an 0 a [] = [] := by
  apply Classical.byContradiction
  intro h
  exact ((an_some ka AreOk.nil).1 h).2 rfl

set_option maxHeartbeats 60000000 in
set_option maxRecDepth 100000 in
theorem walk (A : Option Addr) (c : Nat) (bs : List Int) (w : World) (hC : (Kd.int .u8).C w A bs.length bs) (hc : bs.length ≤ c) (hb : ∀ b ∈ bs, 0 ≤ b ∧ b ≤ 255) :
    Calls Tryz.prog 6 #[.slice A bs.length c] w fun e w' => e = .returned (.bool true) ∧ Below w.heap.size w w' := by
  by_cases hbig : bs.length > 1048576
  · have d1 : decide ((bs.length : Int) > 1048576) = true := decide_eq_true (by omega)
    go_enter Tryz.func6, Tryz.ntmps6
    go_wp2
    go_ret
    exact ⟨rfl, Below.refl _ _⟩
  have d1 : decide ((bs.length : Int) > 1048576) = false := decide_eq_false (by omega)
  go_enter Tryz.func6, Tryz.ntmps6
  go_upto_region 4 with (go_at_call 28; refine (drawAndOf_any A c bs _ hC hc hb).mono ?_; rintro e w0 ⟨md, a, b, Xa, Xb, ca, cb, rfl, ha0, hb0, hln, hbel⟩; have HA0 := Aside0.mk ha0; have HB0 := Aside0.mk hb0; have HBel0 := Aside0.mk hbel; clear ha0 hb0 hbel hln)
  cases hok : (okOs a && okOs b) with
  | false =>
    have E := Aside0.mk (fun mode => ofA_bad (md := mode) hok)
    clear hok
    go_upto_region 5 with (go_at_call 29; refine (iAnd 2 Xa Xb ca cb a b ([], false) _ (E.out 2) HA0.out HB0.out).mono ?_; rintro e w1 ⟨R1, r1, rfl, hl1, hb1⟩; have HBel1 := Aside0.mk (below_then HBel0.out HBel0.out.size hb1); have HA1 := Aside0.mk (HA0.out.below hb1); have HB1 := Aside0.mk (HB0.out.below hb1); have L1_1 := Aside0.mk hl1; clear hl1 hb1)
    go_upto_region 6 with (go_at_call 30; refine (sAnd 2 Xa Xb ca cb a b ([], false) _ (E.out 2) HA1.out HB1.out).mono ?_; rintro e w2 ⟨R2, r2, rfl, hl2, hb2⟩; have HBel2 := Aside0.mk (below_then HBel1.out HBel1.out.size hb2); have HA2 := Aside0.mk (HA1.out.below hb2); have HB2 := Aside0.mk (HB1.out.below hb2); have L1_2 := Aside0.mk (L1_1.out.below hb2); have L2_2 := Aside0.mk hl2; clear hl2 hb2)
    go_wp2_with (go_at_call 17; refine (occsSame_any _ _ _ _ _ _ _ L1_2.out.rd L2_2.out.rd).mono ?_; rintro e w3 ⟨rfl, hb3⟩; rw [decide_eq_true rfl]; have HBel3 := Aside0.mk (below_then HBel2.out HBel2.out.size hb3); clear hb3)
    go_ret
    exact ⟨rfl, HBel3.out⟩
  | true =>
    have hk := hok
    rw [Bool.and_eq_true] at hk
    obtain ⟨ka, na⟩ := okOs_iff.1 hk.1
    obtain ⟨kb, nb⟩ := okOs_iff.1 hk.2
    have HKA := Aside0.mk ka
    have HKB := Aside0.mk kb
    have f2 := an_first (a := a) (b := b)
    have E2 := (ofA_ok (md := 2) (by decide) hok).trans (told_le (by omega))
    obtain ⟨l4, p4, e4, n4⟩ := told_len (an_sum (a := a) (b := b))
    obtain ⟨l3, p3, e3, n3⟩ := told_len (an_each (a := a) (b := b))
    have HE4 := Aside0.mk ((ofA_ok (md := 4) (by decide) hok).trans e4)
    have HE3 := Aside0.mk ((ofA_ok (md := 3) (by decide) hok).trans e3)
    have HEN : Aside0 (ofI and3 0 a [] = ([], true)) := ⟨by
      have := ofA_ok (md := 0) (a := a) (b := []) (by decide) (by rw [hk.1]; rfl)
      rw [this, an_nil ka]; rfl⟩
    have ES := ofI_ok (mode := 0) (by decide) hok
    have EA := ofA_ok (md := 0) (by decide) hok
    have HSUB0 := Aside0.mk (fun z (hz : z ∈ sq 0 a b) => seq_in_and ka kb hz)
    have KAN := an_ok (mode := 0) (by decide) ka kb na nb
    have HE2 := Aside0.mk E2
    have HES := Aside0.mk ES
    have HEA := Aside0.mk EA
    have HKAN := Aside0.mk KAN
    clear hk hok ka kb E2 e4 e3 ES EA KAN
    generalize an 2 a b = l2 at *
    generalize sq 0 a b = l0 at *
    generalize an 0 a b = k0 at *
    have d2a : decide (l2.length > a.length) = false := decide_eq_false (by omega)
    have d2b : decide (l2.length > b.length) = false := decide_eq_false (by omega)
    have d4 : decide ((l4.length : Int) > (a.length : Int) + b.length) = false := decide_eq_false (by omega)
    have d3 : decide ((l3.length : Int) > (a.length : Int) + b.length) = false := decide_eq_false (by omega)
    have s1 : (0 : Int) ≤ (a.length : Int) + b.length := by omega
    have s2 : (a.length : Int) + b.length ≤ 80 := by omega
    clear f2 n4 n3
    go_upto_region 5 with (go_at_call 29; refine (iAnd 2 Xa Xb ca cb a b (l2, true) _ HE2.out HA0.out HB0.out).mono ?_; rintro e w1 ⟨R1, r1, rfl, hl1, hb1⟩; have HBel1 := Aside0.mk (below_then HBel0.out HBel0.out.size hb1); have HA1 := Aside0.mk (HA0.out.below hb1); have HB1 := Aside0.mk (HB0.out.below hb1); have L1_1 := Aside0.mk hl1; clear hl1 hb1)
    go_upto_region 6 with (go_at_call 30; refine (sAnd 2 Xa Xb ca cb a b (l2, true) _ HE2.out HA1.out HB1.out).mono ?_; rintro e w2 ⟨R2, r2, rfl, hl2, hb2⟩; have HBel2 := Aside0.mk (below_then HBel1.out HBel1.out.size hb2); have HA2 := Aside0.mk (HA1.out.below hb2); have HB2 := Aside0.mk (HB1.out.below hb2); have L1_2 := Aside0.mk (L1_1.out.below hb2); have L2_2 := Aside0.mk hl2; clear hl2 hb2)
    go_upto_region 10 with (go_at_call 17; refine (occsSame_any _ _ _ _ _ _ _ L1_2.out.rd L2_2.out.rd).mono ?_; rintro e w3 ⟨rfl, hb3⟩; rw [decide_eq_true rfl]; have HBel3 := Aside0.mk (below_then HBel2.out HBel2.out.size hb3); have HA3 := Aside0.mk (HA2.out.below hb3); have HB3 := Aside0.mk (HB2.out.below hb3); have L1_3 := Aside0.mk (L1_2.out.below hb3); clear hb3)
    go_upto_region 11 with (go_at_call 29; refine (iAnd 4 Xa Xb ca cb a b (l4, p4) _ HE4.out HA3.out HB3.out).mono ?_; rintro e w4 ⟨R4, r4, rfl, hl4, hb4⟩; have HBel4 := Aside0.mk (below_then HBel3.out HBel3.out.size hb4); have HA4 := Aside0.mk (HA3.out.below hb4); have HB4 := Aside0.mk (HB3.out.below hb4); have L1_4 := Aside0.mk (L1_3.out.below hb4); have L4_4 := Aside0.mk hl4; clear hl4 hb4)
    go_upto_region 12 with (go_at_call 29; refine (iAnd 3 Xa Xb ca cb a b (l3, p3) _ HE3.out HA4.out HB4.out).mono ?_; rintro e w5 ⟨R5, r5, rfl, hl5, hb5⟩; have HBel5 := Aside0.mk (below_then HBel4.out HBel4.out.size hb5); have HA5 := Aside0.mk (HA4.out.below hb5); have HB5 := Aside0.mk (HB4.out.below hb5); have L1_5 := Aside0.mk (L1_4.out.below hb5); have L4_5 := Aside0.mk (L4_4.out.below hb5); have L5_5 := Aside0.mk hl5; clear hl5 hb5)
    go_upto_region 13 with (go_at_call 29; refine (iAnd 0 Xa none ca 0 a [] ([], true) _ HEN.out HA5.out (isL_nil _ _ _)).mono ?_; rintro e w6 ⟨R6, r6, rfl, hl6, hb6⟩; have HBel6 := Aside0.mk (below_then HBel5.out HBel5.out.size hb6); have HA6 := Aside0.mk (HA5.out.below hb6); have HB6 := Aside0.mk (HB5.out.below hb6); have L1_6 := Aside0.mk (L1_5.out.below hb6); have L4_6 := Aside0.mk (L4_5.out.below hb6); have L5_6 := Aside0.mk (L5_5.out.below hb6); have LN6 := Aside0.mk hl6; clear hl6 hb6)
    cases p4 <;> cases p3
    all_goals
      rcases told_or l0 with ⟨t0, u0⟩ | t0
      · have HT0 := Aside0.mk (HES.out.trans t0)
        rcases told_or k0 with ⟨t1, u1⟩ | t1
        · have HT1 := Aside0.mk (HEA.out.trans t1)
          clear t0 t1
          go_upto_region 16 with (go_at_call 23; refine (iSeq 0 Xa Xb ca cb a b (l0, true) _ HT0.out HA6.out HB6.out).mono ?_; rintro e w7 ⟨R7, r7, rfl, hl7, hb7⟩; have HBel7 := Aside0.mk (below_then HBel6.out HBel6.out.size hb7); have HA7 := Aside0.mk (HA6.out.below hb7); have HB7 := Aside0.mk (HB6.out.below hb7); have LS7 := Aside0.mk hl7; clear hl7 hb7)
          go_wp2_with (go_at_call 29; refine (iAnd 0 Xa Xb ca cb a b (k0, true) _ HT1.out HA7.out HB7.out).mono ?_; rintro e w8 ⟨R8, r8, rfl, hl8, hb8⟩; have HBel8 := Aside0.mk (below_then HBel7.out HBel7.out.size hb8); have LS8 := Aside0.mk (LS7.out.below hb8); have LA8_8 := Aside0.mk hl8; clear hl8 hb8)
          go_loopw [20] (fun vi wv => ∃ (k : Nat), k ≤ l0.length ∧ vi = .int .i64 k ∧ Aside0 (Below w.heap.size w wv) ∧ Aside0 (Below w8.heap.size w8 wv)) (fun vi _ => l0.length - (intOf vi).toNat)
          case atStart => exact ⟨0, Nat.zero_le _, rfl, HBel8, ⟨Below.refl _ _⟩⟩
          case round =>
            obtain ⟨k, hk, rfl, HBv, HBzv⟩ := hrel
            obtain ⟨wv, rfl⟩ : ∃ wv : World, wv = wr := ⟨_, rfl⟩
            by_cases hlk : k < l0.length
            · have g2 : decide (k < l0.length) = true := decide_eq_true hlk
              have k1 : (k : Int) < l0.length := by omega
              obtain ⟨adl, A2, c2, eR, hiz, hez⟩ := elem (LS8.out.below HBzv.out) hlk
              subst eR
              have hmem := HSUB0.out _ (getD_mem hlk)
              have hkz := HKAN.out.all _ hmem
              have HP := Aside0.mk (putO_mem HKAN.out u1 hmem)
              have HZL := Aside0.mk (isOk_big hkz)
              have HLLn := Aside0.mk (fun z hz => isOk_big (HKAN.out.all z hz))
              generalize l0.getD k zO = z at *
              have HIZ := Aside0.mk hiz
              have z0 := hez.a
              have z1 := hez.b
              have z2 := hez.c
              clear hiz hez hmem hkz
              go_wp2_with (go_at_call 25; refine (iPut R8 A2 r8 c2 k0 k0 z _ HP.out (by omega) HZL.out HLLn.out (LA8_8.out.below HBzv.out) HIZ.out).mono ?_; rintro e w9 ⟨P, cp, rfl, hp, hb9⟩; have HB9 := Aside0.mk hb9; clear hp hb9)
              go_roundw
              case rel => exact ⟨k + 1, by omega, by go_num, ⟨below_then HBv.out HBv.out.size HB9.out⟩, ⟨below_then HBzv.out HBzv.out.size HB9.out⟩⟩
              case measure => simp [intOf]; omega
            · have hke : k = l0.length := by omega
              subst hke
              have g2 : decide (l0.length < l0.length) = false := decide_eq_false (by omega)
              go_wp2
              go_ret
              exact ⟨rfl, HBv.out⟩
        · have HT1 := Aside0.mk (HEA.out.trans t1)
          clear t0 t1
          go_upto_region 16 with (go_at_call 23; refine (iSeq 0 Xa Xb ca cb a b (l0, true) _ HT0.out HA6.out HB6.out).mono ?_; rintro e w7 ⟨R7, r7, rfl, hl7, hb7⟩; have HBel7 := Aside0.mk (below_then HBel6.out HBel6.out.size hb7); have HA7 := Aside0.mk (HA6.out.below hb7); have HB7 := Aside0.mk (HB6.out.below hb7); have LS7 := Aside0.mk hl7; clear hl7 hb7)
          go_wp2_with (go_at_call 29; refine (iAnd 0 Xa Xb ca cb a b ([], false) _ HT1.out HA7.out HB7.out).mono ?_; rintro e w8 ⟨R8, r8, rfl, hl8, hb8⟩; have HBel8 := Aside0.mk (below_then HBel7.out HBel7.out.size hb8); have LS8 := Aside0.mk (LS7.out.below hb8); have LA8_8 := Aside0.mk hl8; clear hl8 hb8)
          go_loopw [20] (fun vi wv => vi = .int .i64 (0 : Nat) ∧ wv = w8) (fun vi _ => 0)
          case atStart => exact ⟨rfl, rfl⟩
          case round =>
            obtain ⟨rfl, rfl⟩ := hrel
            by_cases hlk : 0 < l0.length
            · have g2 : decide (0 < l0.length) = true := decide_eq_true hlk
              go_wp2
              go_ret
              exact ⟨rfl, HBel8.out⟩
            · have g2 : decide (0 < l0.length) = false := decide_eq_false hlk
              go_wp2
              go_ret
              exact ⟨rfl, HBel8.out⟩
      · have HT0 := Aside0.mk (HES.out.trans t0)
        obtain ⟨k1, q1, hk1, _⟩ := told_len (l := k0) (n := k0.length) (Nat.le_refl _)
        have HT1 := Aside0.mk (HEA.out.trans hk1)
        clear t0 hk1
        go_upto_region 16 with (go_at_call 23; refine (iSeq 0 Xa Xb ca cb a b ([], false) _ HT0.out HA6.out HB6.out).mono ?_; rintro e w7 ⟨R7, r7, rfl, hl7, hb7⟩; have HBel7 := Aside0.mk (below_then HBel6.out HBel6.out.size hb7); have HA7 := Aside0.mk (HA6.out.below hb7); have HB7 := Aside0.mk (HB6.out.below hb7); have LS7 := Aside0.mk hl7; clear hl7 hb7)
        go_wp2_with (go_at_call 29; refine (iAnd 0 Xa Xb ca cb a b (k1, q1) _ HT1.out HA7.out HB7.out).mono ?_; rintro e w8 ⟨R8, r8, rfl, hl8, hb8⟩; have HBel8 := Aside0.mk (below_then HBel7.out HBel7.out.size hb8); have LS8 := Aside0.mk (LS7.out.below hb8); have LA8_8 := Aside0.mk hl8; clear hl8 hb8)
        go_loopw [20] (fun vi wv => vi = .int .i64 (0 : Nat) ∧ wv = w8) (fun vi _ => 0)
        case atStart => exact ⟨rfl, rfl⟩
        case round =>
          obtain ⟨rfl, rfl⟩ := hrel
          go_wp2
          go_ret
          exact ⟨rfl, HBel8.out⟩
end Go.Proofs.YtjeojdbfpncnkaaGreat.Wf
