
/- Are two lists of firings one: the reference's. Printed by genTy.py. -/
import Derived.Test.YtbbdkhffacoglaaKo
set_option linter.unusedVariables false
set_option linter.unusedSimpArgs false
namespace Go.Proofs.Ytbbdkhffacoglaa.Kp
open Go.RowKit Go.Proofs.YtbbdkhffacoglaaW.PrintWords Go.Proofs.Ytbbdkhffacoglaa.Ja Go.Proofs.Ytbbdkhffacoglaa.Jb Go.Proofs.Ytbbdkhffacoglaa.Jc Go.Proofs.Ytbbdkhffacoglaa.Jd Go.Proofs.Ytbbdkhffacoglaa.Ka Go.Proofs.Ytbbdkhffacoglaa.Ke Go.Proofs.Ytbbdkhffacoglaa.Kf Go.Proofs.Ytbbdkhffacoglaa.Kg Go.Proofs.Ytbbdkhffacoglaa.Kh Go.Proofs.Ytbbdkhffacoglaa.Ki Go.Proofs.Ytbbdkhffacoglaa.Kj Go.Proofs.Ytbbdkhffacoglaa.Kk Go.Proofs.Ytbbdkhffacoglaa.Kl Go.Proofs.Ytbbdkhffacoglaa.Km Go.Proofs.Ytbbdkhffacoglaa.Ko
set_option maxHeartbeats 4000000 in
set_option maxRecDepth 100000 in
theorem l9Fires_any (A B : Option Addr) (c d : Nat) (a b : List TFire) (w : World) (ha : IsS kFire w a A c) (hb : IsS kFire w b B d) :
    Calls Try.prog 16 #[.slice A a.length c, .slice B b.length d] w fun e w' => e = .returned (.bool (eqQ sameFire a b)) ∧ Below w.heap.size w w' := by
  have hna := ha.len
  have hnb := hb.len
  have HA := Aside0.mk ha
  have HBb := Aside0.mk hb
  clear ha hb
  by_cases hl : a.length = b.length
  · have n0 : ((a.length : Int) != (b.length : Int)) = false := by simp [hl]
    go_enter Try.func16, Try.ntmps16
    have HLN := Aside0.mk hl
    clear hl
    go_wp2
    go_loopw [5] (fun vi wr => ∃ (k : Nat), k ≤ a.length ∧ vi = .int .i64 k ∧ Aside0 (eqQ sameFire (a.take k) (b.take k) = true) ∧ Aside0 (Below w.heap.size w wr)) (fun vi _ => a.length - (intOf vi).toNat)
    case atStart => exact ⟨0, Nat.zero_le _, rfl, ⟨by simp [eqQ]⟩, ⟨Below.refl _ _⟩⟩
    case round =>
      obtain ⟨k, hk, rfl, HN, HB⟩ := hrel
      by_cases hlt : k < a.length
      · have g1 : decide (k < a.length) = true := decide_eq_true hlt
        have i1 : (k : Int) < a.length := by omega
        have hltb : k < b.length := by have := HLN.out; omega
        have i2 : (k : Int) < b.length := by omega
        obtain ⟨ada, A3, c3, rfl, a0_, a1_, a2_, a3_, ja3⟩ := atFire (HA.out.below HB.out) k hlt
        obtain ⟨adb, B3, d3, rfl, b0_, b1_, b2_, b3_, jb3⟩ := atFire (HBb.out.below HB.out) k hltb
        have HSN := Aside0.mk (eqQ_snoc sameFire zFire a b k hlt HLN.out)
        have HNO := Aside0.mk (eqQ_no sameFire zFire a b k hlt HLN.out)
        generalize a.getD k zFire = x at a0_ a1_ a2_ a3_ ja3 HSN HNO
        generalize b.getD k zFire = y at b0_ b1_ b2_ b3_ jb3 HSN HNO
        have HIX3 := Aside0.mk ja3
        have HIY3 := Aside0.mk jb3
        clear ja3 jb3
        replace a0_ := cellE a0_
        replace a1_ := cellE a1_
        replace a2_ := cellE a2_
        replace a3_ := cellE a3_
        replace b0_ := cellE b0_
        replace b1_ := cellE b1_
        replace b2_ := cellE b2_
        replace b3_ := cellE b3_
        cases h0 : (x.f0 == y.f0) with
        | false =>
          have n0' : (x.f0 != y.f0) = true := by rw [bne, h0]; rfl
          have hd : sameFire x y = false := by show ((x.f0 == y.f0) && _) = false; rw [h0]; rfl
          have hcl : ∀ s : Ext wr, True := fun _ => trivial
          clear h0
          have HE2 : Aside0 (eqQ sameFire a b = false) := ⟨HNO.out hd⟩
          clear hd
          go_wp2
          refine region_ext (W := wr) (Below.refl _ _) (by kernel_rfl) (by kernel_rfl) ?_
          repeat (first | go_big_quiet_step (fail) | quiet_step (fail))
          refine wpQuiet_nil ?_
          rintro _ ⟨s, rfl⟩
          have HB3 := Aside0.mk (below_then HB.out HB.out.size s.2)
          generalize s.1 = W2 at HB3
          go_wp2
          go_ret
          exact ⟨ret_bool HE2.out.symm, HB3.out⟩
        | true =>
        have n0' : (x.f0 != y.f0) = false := by rw [bne, h0]; rfl
        cases h1 : sameO x.f1 y.f1 with
        | false =>
          have hd : sameFire x y = false := by show ((x.f0 == y.f0) && sameO x.f1 y.f1) = false; rw [h0, h1]; rfl
          have hcl : ∀ s : Ext wr, Calls Try.prog 40 #[.agg #[.int .i64 x.f1.f0, .int .i64 x.f1.f1, .slice A3 x.f1.f2.length c3], .agg #[.int .i64 y.f1.f0, .int .i64 y.f1.f1, .slice B3 y.f1.f2.length d3]] s.1 fun e w' => e = .returned (.bool false) ∧ Below s.1.heap.size s.1 w' := fun s => by rw [← h1]; exact l3Same_any x.f1 y.f1 A3 c3 B3 d3 s.1 (HIX3.out.below s.2) (HIY3.out.below s.2)
          clear h0 h1
          have HE2 : Aside0 (eqQ sameFire a b = false) := ⟨HNO.out hd⟩
          clear hd
          go_wp2
          refine region_ext (W := wr) (Below.refl _ _) (by kernel_rfl) (by kernel_rfl) ?_
          repeat (first | go_big_quiet_step ((go_at_call 40; exact calls_ext (hcl _))) | quiet_step ((go_at_call 40; exact calls_ext (hcl _))))
          refine wpQuiet_nil ?_
          rintro _ ⟨s, rfl⟩
          have HB3 := Aside0.mk (below_then HB.out HB.out.size s.2)
          generalize s.1 = W2 at HB3
          go_wp2
          go_ret
          exact ⟨ret_bool HE2.out.symm, HB3.out⟩
        | true =>
        have hd : sameFire x y = true := by show ((x.f0 == y.f0) && sameO x.f1 y.f1) = true; rw [h0, h1]; rfl
        have hcl : ∀ s : Ext wr, Calls Try.prog 40 #[.agg #[.int .i64 x.f1.f0, .int .i64 x.f1.f1, .slice A3 x.f1.f2.length c3], .agg #[.int .i64 y.f1.f0, .int .i64 y.f1.f1, .slice B3 y.f1.f2.length d3]] s.1 fun e w' => e = .returned (.bool true) ∧ Below s.1.heap.size s.1 w' := fun s => by rw [← h1]; exact l3Same_any x.f1 y.f1 A3 c3 B3 d3 s.1 (HIX3.out.below s.2) (HIY3.out.below s.2)
        have HE2 : Aside0 (eqQ sameFire (a.take (k + 1)) (b.take (k + 1)) = true) := ⟨by rw [HSN.out, HN.out, hd]; rfl⟩
        clear h0 h1 hd
        go_wp2
        refine region_ext (W := wr) (Below.refl _ _) (by kernel_rfl) (by kernel_rfl) ?_
        repeat (first | go_big_quiet_step ((go_at_call 40; exact calls_ext (hcl _))) | quiet_step ((go_at_call 40; exact calls_ext (hcl _))))
        refine wpQuiet_nil ?_
        rintro _ ⟨s, rfl⟩
        have HB3 := Aside0.mk (below_then HB.out HB.out.size s.2)
        generalize s.1 = W2 at HB3
        go_wp2
        go_roundw
        case rel => exact ⟨k + 1, by omega, by go_num, HE2, HB3⟩
        case measure => simp [intOf]; omega
      · have hke : k = a.length := by omega
        subst hke
        have g1 : decide (a.length < a.length) = false := decide_eq_false (by omega)
        have HE2 : Aside0 (eqQ sameFire a b = true) := ⟨by have h := HN.out; rwa [List.take_length, HLN.out, List.take_length] at h⟩
        go_wp2
        go_ret
        exact ⟨ret_bool HE2.out.symm, HB.out⟩
  · have n0 : ((a.length : Int) != (b.length : Int)) = true := by simp; omega
    have HE2 : Aside0 (eqQ sameFire a b = false) := ⟨eqQ_len sameFire a b hl⟩
    clear hl
    go_enter Try.func16, Try.ntmps16
    go_wp2
    go_ret
    exact ⟨ret_bool HE2.out.symm, Below.refl _ _⟩
end Go.Proofs.Ytbbdkhffacoglaa.Kp
