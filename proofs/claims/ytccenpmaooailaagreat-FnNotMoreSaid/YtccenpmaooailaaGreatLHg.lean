
/- FnNotMore: the walk. -/
import Derived.Test.YtccenpmaooailaaGreatLB7
import Derived.Test.YtccenpmaooailaaGreatLB6
import Derived.Test.YtccenpmaooailaaGreatLHf
set_option linter.unusedVariables false
set_option linter.unusedSimpArgs false
namespace Go.Proofs.YtccenpmaooailaaGreat.Hg
open Go.RowKit Go.Proofs.YtccenpmaooailaaGreatW.PrintWords Go.Proofs.YtccenpmaooailaaGreat.Wd Go.Proofs.YtccenpmaooailaaGreat.Pu Go.Proofs.YtccenpmaooailaaGreat.Pv Go.Proofs.YtccenpmaooailaaGreat.Ca Go.Proofs.YtccenpmaooailaaGreat.Cb Go.Proofs.YtccenpmaooailaaGreat.Cc Go.Proofs.YtccenpmaooailaaGreat.Cp Go.Proofs.YtccenpmaooailaaGreat.Cd Go.Proofs.YtccenpmaooailaaGreat.Ci Go.Proofs.YtccenpmaooailaaGreat.Ce Go.Proofs.YtccenpmaooailaaGreat.Cf Go.Proofs.YtccenpmaooailaaGreat.Cg Go.Proofs.YtccenpmaooailaaGreat.Sc Go.Proofs.YtccenpmaooailaaGreat.Se Go.Proofs.YtccenpmaooailaaGreat.Sh Go.Proofs.YtccenpmaooailaaGreat.Si Go.Proofs.YtccenpmaooailaaGreat.Sp Go.Proofs.YtccenpmaooailaaGreat.Ia Go.Proofs.YtccenpmaooailaaGreat.Ib Go.Proofs.YtccenpmaooailaaGreat.Ic Go.Proofs.YtccenpmaooailaaGreat.Id Go.Proofs.YtccenpmaooailaaGreat.Ie Go.Proofs.YtccenpmaooailaaGreat.If Go.Proofs.YtccenpmaooailaaGreat.Ig Go.Proofs.YtccenpmaooailaaGreat.Ih Go.Proofs.YtccenpmaooailaaGreat.Ij Go.Proofs.YtccenpmaooailaaGreat.Ik Go.Proofs.YtccenpmaooailaaGreat.Ra Go.Proofs.YtccenpmaooailaaGreat.Rb Go.Proofs.YtccenpmaooailaaGreat.Rc Go.Proofs.YtccenpmaooailaaGreat.Rd Go.Proofs.YtccenpmaooailaaGreat.Re Go.Proofs.YtccenpmaooailaaGreat.Sj Go.Proofs.YtccenpmaooailaaGreat.Ya Go.Proofs.YtccenpmaooailaaGreat.Yd Go.Proofs.YtccenpmaooailaaGreat.Yf Go.Proofs.YtccenpmaooailaaGreat.Yg Go.Proofs.YtccenpmaooailaaGreat.Ih Go.Proofs.YtccenpmaooailaaGreat.Yh Go.Proofs.YtccenpmaooailaaGreat.Yi Go.Proofs.YtccenpmaooailaaGreat.Sg Go.Proofs.YtccenpmaooailaaGreat.Sf Go.Proofs.YtccenpmaooailaaGreat.Yj Go.Proofs.YtccenpmaooailaaGreat.Ig Go.Proofs.YtccenpmaooailaaGreat.Yk Go.Proofs.YtccenpmaooailaaGreat.Ik Go.Proofs.YtccenpmaooailaaGreat.Yl Go.Proofs.YtccenpmaooailaaGreat.Ij Go.Proofs.YtccenpmaooailaaGreat.Ym Go.Proofs.YtccenpmaooailaaGreat.Il Go.Proofs.YtccenpmaooailaaGreat.Yn Go.Proofs.YtccenpmaooailaaGreat.Yo Go.Proofs.YtccenpmaooailaaGreat.In Go.Proofs.YtccenpmaooailaaGreat.Yq Go.Proofs.YtccenpmaooailaaGreat.Pw Go.Proofs.YtccenpmaooailaaGreat.Px Go.Proofs.YtccenpmaooailaaGreat.La Go.Proofs.YtccenpmaooailaaGreat.Db Go.Proofs.YtccenpmaooailaaGreat.Ta Go.Proofs.YtccenpmaooailaaGreat.Tb Go.Proofs.YtccenpmaooailaaGreat.Td Go.Proofs.YtccenpmaooailaaGreat.Te Go.Proofs.YtccenpmaooailaaGreat.Sh Go.Proofs.YtccenpmaooailaaGreat.Id Go.Proofs.YtccenpmaooailaaGreat.Ik Go.Proofs.YtccenpmaooailaaGreat.Il Go.Proofs.YtccenpmaooailaaGreat.Ij Go.Proofs.YtccenpmaooailaaGreat.Ga Go.Proofs.YtccenpmaooailaaGreat.Ih Go.Proofs.YtccenpmaooailaaGreat.Ig Go.Proofs.YtccenpmaooailaaGreat.Gb Go.Proofs.YtccenpmaooailaaGreat.Gc Go.Proofs.YtccenpmaooailaaGreat.Ha Go.Proofs.YtccenpmaooailaaGreat.Hb Go.Proofs.YtccenpmaooailaaGreat.Yq Go.Proofs.YtccenpmaooailaaGreat.Hc Go.Proofs.YtccenpmaooailaaGreat.Pw Go.Proofs.YtccenpmaooailaaGreat.Px Go.Proofs.YtccenpmaooailaaGreat.In Go.Proofs.YtccenpmaooailaaGreat.Hf

set_option maxHeartbeats 60000000 in
set_option maxRecDepth 100000 in
theorem walk (A : Option Addr) (c : Nat) (bs : List Int) (w : World) (hC : (Kd.int .u8).C w A bs.length bs) (hc : bs.length ≤ c) (hb : ∀ b ∈ bs, 0 ≤ b ∧ b ≤ 255)
    (A' : Option Addr) (c' : Nat) (bs' : List Int) (hC' : (Kd.int .u8).C w A' bs'.length bs') (hc' : bs'.length ≤ c') (hb' : ∀ b ∈ bs', 0 ≤ b ∧ b ≤ 255) :
    Calls Tryz.prog 6 #[.slice A bs.length c, .slice A' bs'.length c'] w fun e w' => e = .returned (.bool true) ∧ Below w.heap.size w w' := by
  by_cases hbig : bs.length > 1048576
  · have d1 : decide ((bs.length : Int) > 1048576) = true := decide_eq_true (by omega)
    go_enter Tryz.func6, Tryz.ntmps6
    go_wp2
    go_ret
    exact ⟨rfl, Below.refl _ _⟩
  have d1 : decide ((bs.length : Int) > 1048576) = false := decide_eq_false (by omega)
  by_cases hbig2 : bs'.length > 1048576
  · have d2 : decide ((bs'.length : Int) > 1048576) = true := decide_eq_true (by omega)
    go_enter Tryz.func6, Tryz.ntmps6
    go_wp2
    go_ret
    exact ⟨rfl, Below.refl _ _⟩
  have d2 : decide ((bs'.length : Int) > 1048576) = false := decide_eq_false (by omega)
  go_enter Tryz.func6, Tryz.ntmps6
  go_upto_region 4 with (go_at_call 27; refine (dDrawNotOf_any A c bs _ hC hc hb).mono ?_; rintro e wd ⟨md, a, m, b, Xa, Xm, Xb, ca, cm, cb, rfl, hA0, hM0, hB0, hbel⟩; have HAd := Aside0.mk hA0; have HBd := Aside0.mk hB0; have HMd := Aside0.mk hM0; have HBeld := Aside0.mk hbel; clear hA0 hB0 hM0 hbel)
  go_upto_region 5 with (go_at_call 31; refine (Sm.drawList_any A' c' bs' _ (Kd.C_below hC' HBeld.out) hc' hb').mono ?_; rintro e w0 ⟨d, Xd, cd, rfl, hd0, hln, hids, hbel⟩; have HA := Aside0.mk (HAd.out.below hbel); have HB := Aside0.mk (HBd.out.below hbel); have HM := Aside0.mk (HMd.out.below hbel); have HD := Aside0.mk hd0; have HBel0 := Aside0.mk (below_then HBeld.out HBeld.out.size hbel); clear hd0 hbel hln hids)
  have HZ0 := Aside0.mk (Below.refl w0.heap.size w0)
  clear HAd HBd HMd HBeld
  obtain ⟨⟨s, ok⟩, hs⟩ : ∃ p, ofN not3 0 a m b = p := ⟨_, rfl⟩
  have HS := Aside0.mk hs
  clear hs
  go_upto_region 6 with (go_at_call 28; refine (iNot 0 Xa Xm Xb ca cm cb a m b (s, ok) _ HS.out (HA.out.below HZ0.out) (HM.out.below HZ0.out) (HB.out.below HZ0.out)).mono ?_; rintro e w1 ⟨R1, r1, rfl, hl, hb⟩; have HZ1 := Aside0.mk (below_then HZ0.out HZ0.out.size hb); have L1_1 := Aside0.mk hl; clear hl hb)
  go_upto_region 7 with (go_at_call 29; refine (sNot 0 Xa Xm Xb ca cm cb a m b (s, ok) _ HS.out (HA.out.below HZ1.out) (HM.out.below HZ1.out) (HB.out.below HZ1.out)).mono ?_; rintro e w2 ⟨R2, r2, rfl, hl, hb⟩; have HZ2 := Aside0.mk (below_then HZ1.out HZ1.out.size hb); have L1_2 := Aside0.mk (L1_1.out.below hb); have L2_2 := Aside0.mk hl; clear hl hb)
  have hoo : (ok != ok) = false := by cases ok <;> rfl
  have hoe : (ok == ok) = true := by cases ok <;> rfl
  cases ok with
  | false =>
    clear hoo hoe
    go_upto_region 8 with (go_at_call 17; refine (occsSame_any _ _ _ _ _ _ _ L1_2.out.rd L2_2.out.rd).mono ?_; rintro e w3 ⟨rfl, hb⟩; rw [decide_eq_true rfl]; have HZ3 := Aside0.mk (below_then HZ2.out HZ2.out.size hb); have L1_3 := Aside0.mk (L1_2.out.below hb); have L2_3 := Aside0.mk (L2_2.out.below hb); clear hb)
    go_wp2_with (go_at_call 17; refine (occsSame_any _ _ _ _ _ _ _ L1_3.out.rd L2_3.out.rd).mono ?_; rintro e w4 ⟨rfl, hb⟩; rw [decide_eq_true rfl]; have HZ4 := Aside0.mk (below_then HZ3.out HZ3.out.size hb); clear hb)
    go_ret
    exact ⟨rfl, below_then HBel0.out HBel0.out.size HZ4.out⟩
  | true =>
    clear hoo hoe
    go_upto_region 9 with (go_at_call 17; refine (occsSame_any _ _ _ _ _ _ _ L1_2.out.rd L2_2.out.rd).mono ?_; rintro e w3 ⟨rfl, hb⟩; rw [decide_eq_true rfl]; have HZ3 := Aside0.mk (below_then HZ2.out HZ2.out.size hb); have L1_3 := Aside0.mk (L1_2.out.below hb); clear hb)
    obtain ⟨⟨mm, fine⟩, hmm⟩ : ∃ p, orI m d = p := ⟨_, rfl⟩
    have HMM := Aside0.mk hmm
    clear hmm
    go_upto_region 10 with (go_at_call 32; refine (iOr Xm Xd cm cd m d (mm, fine) _ HMM.out (HM.out.below HZ3.out) (HD.out.below HZ3.out)).mono ?_; rintro e w4 ⟨R4, r4, rfl, hl, hb⟩; have HZ4 := Aside0.mk (below_then HZ3.out HZ3.out.size hb); have L1_4 := Aside0.mk (L1_3.out.below hb); have L3_4 := Aside0.mk hl; clear hl hb)
    obtain ⟨⟨l, can⟩, hl⟩ : ∃ p, ofN not3 0 a mm b = p := ⟨_, rfl⟩
    have HL := Aside0.mk hl
    clear hl
    go_upto_region 12 with (go_at_call 28; refine (iNot 0 Xa R4 Xb ca r4 cb a mm b (l, can) _ HL.out (HA.out.below HZ4.out) L3_4.out (HB.out.below HZ4.out)).mono ?_; rintro e w5 ⟨R5, r5, rfl, hl, hb⟩; have HZ5 := Aside0.mk (below_then HZ4.out HZ4.out.size hb); have L1_5 := Aside0.mk (L1_4.out.below hb); have L4_5 := Aside0.mk hl; clear hl hb)
    cases fine with
    | true =>
      cases can with
      | true =>
        have HLE : decide (l.length ≤ s.length) = true := decide_eq_true (len_sub (areOk_ofN not3_step HL.out).1.sorted (areOk_ofN not3_step HS.out).1.sorted (not_less HS.out HMM.out HL.out))
        have HLE2 : decide ((l.length : Int) ≤ s.length) = true := decide_eq_true (by have h := len_sub (areOk_ofN not3_step HL.out).1.sorted (areOk_ofN not3_step HS.out).1.sorted (not_less HS.out HMM.out HL.out); omega)
        have HTok := Aside0.mk ((areOk_ofN not3_step HS.out).1)
        have hTle : s.length ≤ 40 := (areOk_ofN not3_step HS.out).2.1
        have HTn := Aside0.mk (fun z hz => isOk_big (HTok.out.all z hz))
        have hll : l.length ≤ 40 := (areOk_ofN not3_step HL.out).2.1
        have HSUB := Aside0.mk (not_less HS.out HMM.out HL.out)
        go_loopw [18] (fun vi wv => ∃ (k : Nat), k ≤ l.length ∧ vi = .int .i64 k ∧ Aside0 (Below w5.heap.size w5 wv)) (fun vi _ => l.length - (intOf vi).toNat)
        case atStart => exact ⟨0, Nat.zero_le _, rfl, ⟨Below.refl _ _⟩⟩
        case round =>
          obtain ⟨k, hk, rfl, HBv⟩ := hrel
          obtain ⟨w6, rfl⟩ : ∃ wv : World, wv = wr := ⟨_, rfl⟩
          by_cases hlk : k < l.length
          · have g2 : decide (k < l.length) = true := decide_eq_true hlk
            have k1 : (k : Int) < l.length := by omega
            obtain ⟨adl, A2, c2, eR, hiz, hez⟩ := elem (L4_5.out.below HBv.out) hlk
            subst eR
            have hmem := HSUB.out _ (getD_mem hlk)
            have hkz := HTok.out.all _ hmem
            have HP := Aside0.mk (putO_mem HTok.out hTle hmem)
            have HZL := Aside0.mk (isOk_big hkz)
            obtain ⟨z, hz⟩ : ∃ z, z = l.getD k zO := ⟨_, rfl⟩
            rw [← hz] at hiz hez HP HZL
            have HIZ := Aside0.mk hiz
            have z0 := hez.a
            have z1 := hez.b
            have z2 := hez.c
            clear hiz hez hmem hkz hz
            go_wp2_with (go_at_call 25; refine (iPut _ A2 _ c2 s s z _ HP.out (by omega) HZL.out HTn.out (L1_5.out.below HBv.out) HIZ.out).mono ?_; rintro e w5 ⟨P, cp, rfl, hp, hb5⟩; have HB5 := Aside0.mk hb5; clear hp hb5)
            go_roundw
            case rel => exact ⟨k + 1, by omega, by go_num, ⟨below_then HBv.out HBv.out.size HB5.out⟩⟩
            case measure => simp [intOf]; omega
          · have hke : k = l.length := by omega
            subst hke
            have g2 : decide (l.length < l.length) = false := decide_eq_false (by omega)
            have HZ6 := Aside0.mk (below_then HZ5.out HZ5.out.size HBv.out)
            have L1_6 := Aside0.mk (L1_5.out.below HBv.out)
            have L4_6 := Aside0.mk (L4_5.out.below HBv.out)
            clear HSUB HTok HTn hTle hll
            obtain ⟨⟨q, p⟩, hq⟩ : ∃ p, ofI seq3 0 a b = p := ⟨_, rfl⟩
            have HQ := Aside0.mk hq
            clear hq
            go_upto_region 18 with (go_at_call 30; refine (iSeq 0 Xa Xb ca cb a b (q, p) _ HQ.out (HA.out.below HZ6.out) (HB.out.below HZ6.out)).mono ?_; rintro e w7 ⟨R7, r7, rfl, hl, hb⟩; have HZ7 := Aside0.mk (below_then HZ6.out HZ6.out.size hb); have L1_7 := Aside0.mk (L1_6.out.below hb); have L4_7 := Aside0.mk (L4_6.out.below hb); have L5_7 := Aside0.mk hl; clear hl hb)
            cases p with
            | true =>
              have HTok := Aside0.mk ((areOk_ofI HQ.out).1)
              have hTle : q.length ≤ 40 := (areOk_ofI HQ.out).2.1
              have HTn := Aside0.mk (fun z hz => isOk_big (HTok.out.all z hz))
              have hll : s.length ≤ 40 := (areOk_ofN not3_step HS.out).2.1
              have HSUB := Aside0.mk (not_seq_sub HS.out HQ.out)
              go_loopw [21] (fun vi wv => ∃ (k : Nat), k ≤ s.length ∧ vi = .int .i64 k ∧ Aside0 (Below w7.heap.size w7 wv)) (fun vi _ => s.length - (intOf vi).toNat)
              case atStart => exact ⟨0, Nat.zero_le _, rfl, ⟨Below.refl _ _⟩⟩
              case round =>
                obtain ⟨k, hk, rfl, HBv⟩ := hrel
                obtain ⟨w8, rfl⟩ : ∃ wv : World, wv = wr := ⟨_, rfl⟩
                by_cases hlk : k < s.length
                · have g2 : decide (k < s.length) = true := decide_eq_true hlk
                  have k1 : (k : Int) < s.length := by omega
                  obtain ⟨adl, A2, c2, eR, hiz, hez⟩ := elem (L1_7.out.below HBv.out) hlk
                  subst eR
                  have hmem := HSUB.out _ (getD_mem hlk)
                  have hkz := HTok.out.all _ hmem
                  have HP := Aside0.mk (putO_mem HTok.out hTle hmem)
                  have HZL := Aside0.mk (isOk_big hkz)
                  obtain ⟨z, hz⟩ : ∃ z, z = s.getD k zO := ⟨_, rfl⟩
                  rw [← hz] at hiz hez HP HZL
                  have HIZ := Aside0.mk hiz
                  have z0 := hez.a
                  have z1 := hez.b
                  have z2 := hez.c
                  clear hiz hez hmem hkz hz
                  go_wp2_with (go_at_call 25; refine (iPut _ A2 _ c2 q q z _ HP.out (by omega) HZL.out HTn.out (L5_7.out.below HBv.out) HIZ.out).mono ?_; rintro e w5 ⟨P, cp, rfl, hp, hb5⟩; have HB5 := Aside0.mk hb5; clear hp hb5)
                  go_roundw
                  case rel => exact ⟨k + 1, by omega, by go_num, ⟨below_then HBv.out HBv.out.size HB5.out⟩⟩
                  case measure => simp [intOf]; omega
                · have hke : k = s.length := by omega
                  subst hke
                  have g2 : decide (s.length < s.length) = false := decide_eq_false (by omega)
                  have HZ8 := Aside0.mk (below_then HZ7.out HZ7.out.size HBv.out)
                  clear HSUB HTok HTn hTle hll
                  go_wp2
                  go_ret
                  exact ⟨rfl, below_then HBel0.out HBel0.out.size HZ8.out⟩
            | false =>
              go_loopw [21] (fun vi wv => vi = .int .i64 (0 : Nat) ∧ wv = w7) (fun vi _ => 0)
              case atStart => exact ⟨rfl, rfl⟩
              case round =>
                obtain ⟨rfl, rfl⟩ := hrel
                have HZ8 := HZ7
                cases g2 : decide (0 < s.length) with
                | true =>
                  go_wp2
                  go_ret
                  exact ⟨rfl, below_then HBel0.out HBel0.out.size HZ8.out⟩
                | false =>
                  go_wp2
                  go_ret
                  exact ⟨rfl, below_then HBel0.out HBel0.out.size HZ8.out⟩
      | false =>
        go_loopw [18] (fun vi wv => vi = .int .i64 (0 : Nat) ∧ wv = w5) (fun vi _ => 0)
        case atStart => exact ⟨rfl, rfl⟩
        case round =>
          obtain ⟨rfl, rfl⟩ := hrel
          have HZ6 := HZ5
          have L1_6 := L1_5
          have L4_6 := L4_5
          cases g2 : decide (0 < l.length) with
          | true =>
            obtain ⟨⟨q, p⟩, hq⟩ : ∃ p, ofI seq3 0 a b = p := ⟨_, rfl⟩
            have HQ := Aside0.mk hq
            clear hq
            go_upto_region 18 with (go_at_call 30; refine (iSeq 0 Xa Xb ca cb a b (q, p) _ HQ.out (HA.out.below HZ6.out) (HB.out.below HZ6.out)).mono ?_; rintro e w7 ⟨R7, r7, rfl, hl, hb⟩; have HZ7 := Aside0.mk (below_then HZ6.out HZ6.out.size hb); have L1_7 := Aside0.mk (L1_6.out.below hb); have L4_7 := Aside0.mk (L4_6.out.below hb); have L5_7 := Aside0.mk hl; clear hl hb)
            cases p with
            | true =>
              have HTok := Aside0.mk ((areOk_ofI HQ.out).1)
              have hTle : q.length ≤ 40 := (areOk_ofI HQ.out).2.1
              have HTn := Aside0.mk (fun z hz => isOk_big (HTok.out.all z hz))
              have hll : s.length ≤ 40 := (areOk_ofN not3_step HS.out).2.1
              have HSUB := Aside0.mk (not_seq_sub HS.out HQ.out)
              go_loopw [21] (fun vi wv => ∃ (k : Nat), k ≤ s.length ∧ vi = .int .i64 k ∧ Aside0 (Below w7.heap.size w7 wv)) (fun vi _ => s.length - (intOf vi).toNat)
              case atStart => exact ⟨0, Nat.zero_le _, rfl, ⟨Below.refl _ _⟩⟩
              case round =>
                obtain ⟨k, hk, rfl, HBv⟩ := hrel
                obtain ⟨w8, rfl⟩ : ∃ wv : World, wv = wr := ⟨_, rfl⟩
                by_cases hlk : k < s.length
                · have g2 : decide (k < s.length) = true := decide_eq_true hlk
                  have k1 : (k : Int) < s.length := by omega
                  obtain ⟨adl, A2, c2, eR, hiz, hez⟩ := elem (L1_7.out.below HBv.out) hlk
                  subst eR
                  have hmem := HSUB.out _ (getD_mem hlk)
                  have hkz := HTok.out.all _ hmem
                  have HP := Aside0.mk (putO_mem HTok.out hTle hmem)
                  have HZL := Aside0.mk (isOk_big hkz)
                  obtain ⟨z, hz⟩ : ∃ z, z = s.getD k zO := ⟨_, rfl⟩
                  rw [← hz] at hiz hez HP HZL
                  have HIZ := Aside0.mk hiz
                  have z0 := hez.a
                  have z1 := hez.b
                  have z2 := hez.c
                  clear hiz hez hmem hkz hz
                  go_wp2_with (go_at_call 25; refine (iPut _ A2 _ c2 q q z _ HP.out (by omega) HZL.out HTn.out (L5_7.out.below HBv.out) HIZ.out).mono ?_; rintro e w5 ⟨P, cp, rfl, hp, hb5⟩; have HB5 := Aside0.mk hb5; clear hp hb5)
                  go_roundw
                  case rel => exact ⟨k + 1, by omega, by go_num, ⟨below_then HBv.out HBv.out.size HB5.out⟩⟩
                  case measure => simp [intOf]; omega
                · have hke : k = s.length := by omega
                  subst hke
                  have g2 : decide (s.length < s.length) = false := decide_eq_false (by omega)
                  have HZ8 := Aside0.mk (below_then HZ7.out HZ7.out.size HBv.out)
                  clear HSUB HTok HTn hTle hll
                  go_wp2
                  go_ret
                  exact ⟨rfl, below_then HBel0.out HBel0.out.size HZ8.out⟩
            | false =>
              go_loopw [21] (fun vi wv => vi = .int .i64 (0 : Nat) ∧ wv = w7) (fun vi _ => 0)
              case atStart => exact ⟨rfl, rfl⟩
              case round =>
                obtain ⟨rfl, rfl⟩ := hrel
                have HZ8 := HZ7
                cases g2 : decide (0 < s.length) with
                | true =>
                  go_wp2
                  go_ret
                  exact ⟨rfl, below_then HBel0.out HBel0.out.size HZ8.out⟩
                | false =>
                  go_wp2
                  go_ret
                  exact ⟨rfl, below_then HBel0.out HBel0.out.size HZ8.out⟩
          | false =>
            obtain ⟨⟨q, p⟩, hq⟩ : ∃ p, ofI seq3 0 a b = p := ⟨_, rfl⟩
            have HQ := Aside0.mk hq
            clear hq
            go_upto_region 18 with (go_at_call 30; refine (iSeq 0 Xa Xb ca cb a b (q, p) _ HQ.out (HA.out.below HZ6.out) (HB.out.below HZ6.out)).mono ?_; rintro e w7 ⟨R7, r7, rfl, hl, hb⟩; have HZ7 := Aside0.mk (below_then HZ6.out HZ6.out.size hb); have L1_7 := Aside0.mk (L1_6.out.below hb); have L4_7 := Aside0.mk (L4_6.out.below hb); have L5_7 := Aside0.mk hl; clear hl hb)
            cases p with
            | true =>
              have HTok := Aside0.mk ((areOk_ofI HQ.out).1)
              have hTle : q.length ≤ 40 := (areOk_ofI HQ.out).2.1
              have HTn := Aside0.mk (fun z hz => isOk_big (HTok.out.all z hz))
              have hll : s.length ≤ 40 := (areOk_ofN not3_step HS.out).2.1
              have HSUB := Aside0.mk (not_seq_sub HS.out HQ.out)
              go_loopw [21] (fun vi wv => ∃ (k : Nat), k ≤ s.length ∧ vi = .int .i64 k ∧ Aside0 (Below w7.heap.size w7 wv)) (fun vi _ => s.length - (intOf vi).toNat)
              case atStart => exact ⟨0, Nat.zero_le _, rfl, ⟨Below.refl _ _⟩⟩
              case round =>
                obtain ⟨k, hk, rfl, HBv⟩ := hrel
                obtain ⟨w8, rfl⟩ : ∃ wv : World, wv = wr := ⟨_, rfl⟩
                by_cases hlk : k < s.length
                · have g2 : decide (k < s.length) = true := decide_eq_true hlk
                  have k1 : (k : Int) < s.length := by omega
                  obtain ⟨adl, A2, c2, eR, hiz, hez⟩ := elem (L1_7.out.below HBv.out) hlk
                  subst eR
                  have hmem := HSUB.out _ (getD_mem hlk)
                  have hkz := HTok.out.all _ hmem
                  have HP := Aside0.mk (putO_mem HTok.out hTle hmem)
                  have HZL := Aside0.mk (isOk_big hkz)
                  obtain ⟨z, hz⟩ : ∃ z, z = s.getD k zO := ⟨_, rfl⟩
                  rw [← hz] at hiz hez HP HZL
                  have HIZ := Aside0.mk hiz
                  have z0 := hez.a
                  have z1 := hez.b
                  have z2 := hez.c
                  clear hiz hez hmem hkz hz
                  go_wp2_with (go_at_call 25; refine (iPut _ A2 _ c2 q q z _ HP.out (by omega) HZL.out HTn.out (L5_7.out.below HBv.out) HIZ.out).mono ?_; rintro e w5 ⟨P, cp, rfl, hp, hb5⟩; have HB5 := Aside0.mk hb5; clear hp hb5)
                  go_roundw
                  case rel => exact ⟨k + 1, by omega, by go_num, ⟨below_then HBv.out HBv.out.size HB5.out⟩⟩
                  case measure => simp [intOf]; omega
                · have hke : k = s.length := by omega
                  subst hke
                  have g2 : decide (s.length < s.length) = false := decide_eq_false (by omega)
                  have HZ8 := Aside0.mk (below_then HZ7.out HZ7.out.size HBv.out)
                  clear HSUB HTok HTn hTle hll
                  go_wp2
                  go_ret
                  exact ⟨rfl, below_then HBel0.out HBel0.out.size HZ8.out⟩
            | false =>
              go_loopw [21] (fun vi wv => vi = .int .i64 (0 : Nat) ∧ wv = w7) (fun vi _ => 0)
              case atStart => exact ⟨rfl, rfl⟩
              case round =>
                obtain ⟨rfl, rfl⟩ := hrel
                have HZ8 := HZ7
                cases g2 : decide (0 < s.length) with
                | true =>
                  go_wp2
                  go_ret
                  exact ⟨rfl, below_then HBel0.out HBel0.out.size HZ8.out⟩
                | false =>
                  go_wp2
                  go_ret
                  exact ⟨rfl, below_then HBel0.out HBel0.out.size HZ8.out⟩
    | false =>
      go_loopw [18] (fun vi wv => vi = .int .i64 (0 : Nat) ∧ wv = w5) (fun vi _ => 0)
      case atStart => exact ⟨rfl, rfl⟩
      case round =>
        obtain ⟨rfl, rfl⟩ := hrel
        have HZ6 := HZ5
        have L1_6 := L1_5
        have L4_6 := L4_5
        cases g2 : decide (0 < l.length) with
        | true =>
          obtain ⟨⟨q, p⟩, hq⟩ : ∃ p, ofI seq3 0 a b = p := ⟨_, rfl⟩
          have HQ := Aside0.mk hq
          clear hq
          go_upto_region 18 with (go_at_call 30; refine (iSeq 0 Xa Xb ca cb a b (q, p) _ HQ.out (HA.out.below HZ6.out) (HB.out.below HZ6.out)).mono ?_; rintro e w7 ⟨R7, r7, rfl, hl, hb⟩; have HZ7 := Aside0.mk (below_then HZ6.out HZ6.out.size hb); have L1_7 := Aside0.mk (L1_6.out.below hb); have L4_7 := Aside0.mk (L4_6.out.below hb); have L5_7 := Aside0.mk hl; clear hl hb)
          cases p with
          | true =>
            have HTok := Aside0.mk ((areOk_ofI HQ.out).1)
            have hTle : q.length ≤ 40 := (areOk_ofI HQ.out).2.1
            have HTn := Aside0.mk (fun z hz => isOk_big (HTok.out.all z hz))
            have hll : s.length ≤ 40 := (areOk_ofN not3_step HS.out).2.1
            have HSUB := Aside0.mk (not_seq_sub HS.out HQ.out)
            go_loopw [21] (fun vi wv => ∃ (k : Nat), k ≤ s.length ∧ vi = .int .i64 k ∧ Aside0 (Below w7.heap.size w7 wv)) (fun vi _ => s.length - (intOf vi).toNat)
            case atStart => exact ⟨0, Nat.zero_le _, rfl, ⟨Below.refl _ _⟩⟩
            case round =>
              obtain ⟨k, hk, rfl, HBv⟩ := hrel
              obtain ⟨w8, rfl⟩ : ∃ wv : World, wv = wr := ⟨_, rfl⟩
              by_cases hlk : k < s.length
              · have g2 : decide (k < s.length) = true := decide_eq_true hlk
                have k1 : (k : Int) < s.length := by omega
                obtain ⟨adl, A2, c2, eR, hiz, hez⟩ := elem (L1_7.out.below HBv.out) hlk
                subst eR
                have hmem := HSUB.out _ (getD_mem hlk)
                have hkz := HTok.out.all _ hmem
                have HP := Aside0.mk (putO_mem HTok.out hTle hmem)
                have HZL := Aside0.mk (isOk_big hkz)
                obtain ⟨z, hz⟩ : ∃ z, z = s.getD k zO := ⟨_, rfl⟩
                rw [← hz] at hiz hez HP HZL
                have HIZ := Aside0.mk hiz
                have z0 := hez.a
                have z1 := hez.b
                have z2 := hez.c
                clear hiz hez hmem hkz hz
                go_wp2_with (go_at_call 25; refine (iPut _ A2 _ c2 q q z _ HP.out (by omega) HZL.out HTn.out (L5_7.out.below HBv.out) HIZ.out).mono ?_; rintro e w5 ⟨P, cp, rfl, hp, hb5⟩; have HB5 := Aside0.mk hb5; clear hp hb5)
                go_roundw
                case rel => exact ⟨k + 1, by omega, by go_num, ⟨below_then HBv.out HBv.out.size HB5.out⟩⟩
                case measure => simp [intOf]; omega
              · have hke : k = s.length := by omega
                subst hke
                have g2 : decide (s.length < s.length) = false := decide_eq_false (by omega)
                have HZ8 := Aside0.mk (below_then HZ7.out HZ7.out.size HBv.out)
                clear HSUB HTok HTn hTle hll
                go_wp2
                go_ret
                exact ⟨rfl, below_then HBel0.out HBel0.out.size HZ8.out⟩
          | false =>
            go_loopw [21] (fun vi wv => vi = .int .i64 (0 : Nat) ∧ wv = w7) (fun vi _ => 0)
            case atStart => exact ⟨rfl, rfl⟩
            case round =>
              obtain ⟨rfl, rfl⟩ := hrel
              have HZ8 := HZ7
              cases g2 : decide (0 < s.length) with
              | true =>
                go_wp2
                go_ret
                exact ⟨rfl, below_then HBel0.out HBel0.out.size HZ8.out⟩
              | false =>
                go_wp2
                go_ret
                exact ⟨rfl, below_then HBel0.out HBel0.out.size HZ8.out⟩
        | false =>
          obtain ⟨⟨q, p⟩, hq⟩ : ∃ p, ofI seq3 0 a b = p := ⟨_, rfl⟩
          have HQ := Aside0.mk hq
          clear hq
          go_upto_region 18 with (go_at_call 30; refine (iSeq 0 Xa Xb ca cb a b (q, p) _ HQ.out (HA.out.below HZ6.out) (HB.out.below HZ6.out)).mono ?_; rintro e w7 ⟨R7, r7, rfl, hl, hb⟩; have HZ7 := Aside0.mk (below_then HZ6.out HZ6.out.size hb); have L1_7 := Aside0.mk (L1_6.out.below hb); have L4_7 := Aside0.mk (L4_6.out.below hb); have L5_7 := Aside0.mk hl; clear hl hb)
          cases p with
          | true =>
            have HTok := Aside0.mk ((areOk_ofI HQ.out).1)
            have hTle : q.length ≤ 40 := (areOk_ofI HQ.out).2.1
            have HTn := Aside0.mk (fun z hz => isOk_big (HTok.out.all z hz))
            have hll : s.length ≤ 40 := (areOk_ofN not3_step HS.out).2.1
            have HSUB := Aside0.mk (not_seq_sub HS.out HQ.out)
            go_loopw [21] (fun vi wv => ∃ (k : Nat), k ≤ s.length ∧ vi = .int .i64 k ∧ Aside0 (Below w7.heap.size w7 wv)) (fun vi _ => s.length - (intOf vi).toNat)
            case atStart => exact ⟨0, Nat.zero_le _, rfl, ⟨Below.refl _ _⟩⟩
            case round =>
              obtain ⟨k, hk, rfl, HBv⟩ := hrel
              obtain ⟨w8, rfl⟩ : ∃ wv : World, wv = wr := ⟨_, rfl⟩
              by_cases hlk : k < s.length
              · have g2 : decide (k < s.length) = true := decide_eq_true hlk
                have k1 : (k : Int) < s.length := by omega
                obtain ⟨adl, A2, c2, eR, hiz, hez⟩ := elem (L1_7.out.below HBv.out) hlk
                subst eR
                have hmem := HSUB.out _ (getD_mem hlk)
                have hkz := HTok.out.all _ hmem
                have HP := Aside0.mk (putO_mem HTok.out hTle hmem)
                have HZL := Aside0.mk (isOk_big hkz)
                obtain ⟨z, hz⟩ : ∃ z, z = s.getD k zO := ⟨_, rfl⟩
                rw [← hz] at hiz hez HP HZL
                have HIZ := Aside0.mk hiz
                have z0 := hez.a
                have z1 := hez.b
                have z2 := hez.c
                clear hiz hez hmem hkz hz
                go_wp2_with (go_at_call 25; refine (iPut _ A2 _ c2 q q z _ HP.out (by omega) HZL.out HTn.out (L5_7.out.below HBv.out) HIZ.out).mono ?_; rintro e w5 ⟨P, cp, rfl, hp, hb5⟩; have HB5 := Aside0.mk hb5; clear hp hb5)
                go_roundw
                case rel => exact ⟨k + 1, by omega, by go_num, ⟨below_then HBv.out HBv.out.size HB5.out⟩⟩
                case measure => simp [intOf]; omega
              · have hke : k = s.length := by omega
                subst hke
                have g2 : decide (s.length < s.length) = false := decide_eq_false (by omega)
                have HZ8 := Aside0.mk (below_then HZ7.out HZ7.out.size HBv.out)
                clear HSUB HTok HTn hTle hll
                go_wp2
                go_ret
                exact ⟨rfl, below_then HBel0.out HBel0.out.size HZ8.out⟩
          | false =>
            go_loopw [21] (fun vi wv => vi = .int .i64 (0 : Nat) ∧ wv = w7) (fun vi _ => 0)
            case atStart => exact ⟨rfl, rfl⟩
            case round =>
              obtain ⟨rfl, rfl⟩ := hrel
              have HZ8 := HZ7
              cases g2 : decide (0 < s.length) with
              | true =>
                go_wp2
                go_ret
                exact ⟨rfl, below_then HBel0.out HBel0.out.size HZ8.out⟩
              | false =>
                go_wp2
                go_ret
                exact ⟨rfl, below_then HBel0.out HBel0.out.size HZ8.out⟩
end Go.Proofs.YtccenpmaooailaaGreat.Hg
