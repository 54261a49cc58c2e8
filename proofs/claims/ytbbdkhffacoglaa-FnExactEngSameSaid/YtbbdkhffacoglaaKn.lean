
/- Are two lists of events one: the reference's. Printed by genTy.py. -/
import Derived.Test.YtbbdkhffacoglaaKm
set_option linter.unusedVariables false
set_option linter.unusedSimpArgs false
namespace Go.Proofs.Ytbbdkhffacoglaa.Kn
open Go.RowKit Go.Proofs.YtbbdkhffacoglaaW.PrintWords Go.Proofs.Ytbbdkhffacoglaa.Ja Go.Proofs.Ytbbdkhffacoglaa.Jb Go.Proofs.Ytbbdkhffacoglaa.Jc Go.Proofs.Ytbbdkhffacoglaa.Jd Go.Proofs.Ytbbdkhffacoglaa.Ka Go.Proofs.Ytbbdkhffacoglaa.Ke Go.Proofs.Ytbbdkhffacoglaa.Kf Go.Proofs.Ytbbdkhffacoglaa.Kg Go.Proofs.Ytbbdkhffacoglaa.Kh Go.Proofs.Ytbbdkhffacoglaa.Ki Go.Proofs.Ytbbdkhffacoglaa.Kj Go.Proofs.Ytbbdkhffacoglaa.Kk Go.Proofs.Ytbbdkhffacoglaa.Kl Go.Proofs.Ytbbdkhffacoglaa.Km
set_option maxHeartbeats 2000000 in
set_option maxRecDepth 100000 in
theorem sEvsSame_any (A B : Option Addr) (c d : Nat) (a b : List TEv) (w : World) (ha : IsS kEv w a A c) (hb : IsS kEv w b B d) :
    Calls Try.prog 15 #[.slice A a.length c, .slice B b.length d] w fun e w' => e = .returned (.bool (eqQ sameEv a b)) ∧ Below w.heap.size w w' := by
  have hna := ha.len
  have hnb := hb.len
  have HA := Aside0.mk ha
  have HBb := Aside0.mk hb
  clear ha hb
  by_cases hl : a.length = b.length
  · have n0 : ((a.length : Int) != (b.length : Int)) = false := by simp [hl]
    go_enter Try.func15, Try.ntmps15
    have HLN := Aside0.mk hl
    clear hl
    go_wp2
    go_loopw [5] (fun vi wr => ∃ (k : Nat), k ≤ a.length ∧ vi = .int .i64 k ∧ Aside0 (eqQ sameEv (a.take k) (b.take k) = true) ∧ Aside0 (Below w.heap.size w wr)) (fun vi _ => a.length - (intOf vi).toNat)
    case atStart => exact ⟨0, Nat.zero_le _, rfl, ⟨by simp [eqQ]⟩, ⟨Below.refl _ _⟩⟩
    case round =>
      obtain ⟨k, hk, rfl, HN, HB⟩ := hrel
      by_cases hlt : k < a.length
      · have g1 : decide (k < a.length) = true := decide_eq_true hlt
        have i1 : (k : Int) < a.length := by omega
        have hltb : k < b.length := by have := HLN.out; omega
        have i2 : (k : Int) < b.length := by omega
        obtain ⟨ad, rfl, a0, a1, a2⟩ := atEv (HA.out.below HB.out) k hlt
        obtain ⟨ad2, rfl, b0, b1, b2⟩ := atEv (HBb.out.below HB.out) k hltb
        have HSN := Aside0.mk (eqQ_snoc sameEv zEv a b k hlt HLN.out)
        have HNO := Aside0.mk (eqQ_no sameEv zEv a b k hlt HLN.out)
        generalize a.getD k zEv = x at a0 a1 a2 HSN HNO
        generalize b.getD k zEv = y at b0 b1 b2 HSN HNO
        replace a0 := cellE a0
        replace a1 := cellE a1
        replace a2 := cellE a2
        replace b0 := cellE b0
        replace b1 := cellE b1
        replace b2 := cellE b2
        cases h0 : (x.f0 == y.f0) with
        | false =>
          have HE2 : Aside0 (eqQ sameEv a b = false) := ⟨HNO.out (by simp [sameEv, h0])⟩
          go_wp2
          refine region_ext (W := wr) (Below.refl _ _) (by kernel_rfl) (by kernel_rfl) ?_
          repeat (first | go_big_quiet_step (fail) | quiet_step (fail))
          refine wpQuiet_nil ?_
          rintro _ ⟨s, rfl⟩
          have HB3 := Aside0.mk (below_then HB.out HB.out.size s.2)
          generalize s.1 = W2 at HB3
          go_wp2
          go_ret
          exact ⟨ret_bool HE2.out.symm, HB3.out⟩
        | true =>
        cases h1 : (x.f1 == y.f1) with
        | false =>
          have HE2 : Aside0 (eqQ sameEv a b = false) := ⟨HNO.out (by simp [sameEv, h0, h1])⟩
          go_wp2
          refine region_ext (W := wr) (Below.refl _ _) (by kernel_rfl) (by kernel_rfl) ?_
          repeat (first | go_big_quiet_step (fail) | quiet_step (fail))
          refine wpQuiet_nil ?_
          rintro _ ⟨s, rfl⟩
          have HB3 := Aside0.mk (below_then HB.out HB.out.size s.2)
          generalize s.1 = W2 at HB3
          go_wp2
          go_ret
          exact ⟨ret_bool HE2.out.symm, HB3.out⟩
        | true =>
        cases h2 : (x.f2 == y.f2) with
        | false =>
          have HE2 : Aside0 (eqQ sameEv a b = false) := ⟨HNO.out (by simp [sameEv, h0, h1, h2])⟩
          go_wp2
          refine region_ext (W := wr) (Below.refl _ _) (by kernel_rfl) (by kernel_rfl) ?_
          repeat (first | go_big_quiet_step (fail) | quiet_step (fail))
          refine wpQuiet_nil ?_
          rintro _ ⟨s, rfl⟩
          have HB3 := Aside0.mk (below_then HB.out HB.out.size s.2)
          generalize s.1 = W2 at HB3
          go_wp2
          go_ret
          exact ⟨ret_bool HE2.out.symm, HB3.out⟩
        | true =>
        have HE2 : Aside0 (eqQ sameEv (a.take (k + 1)) (b.take (k + 1)) = true) := ⟨by rw [HSN.out, HN.out]; simp [sameEv, h0, h1, h2]⟩
        have n0' : x.f0 = y.f0 := by simpa using h0
        have n1' : x.f1 = y.f1 := by simpa using h1
        have n2' : x.f2 = y.f2 := by simpa using h2
        clear h0 h1 h2
        go_wp2
        refine region_ext (W := wr) (Below.refl _ _) (by kernel_rfl) (by kernel_rfl) ?_
        repeat (first | go_big_quiet_step (fail) | quiet_step (fail))
        refine wpQuiet_nil ?_
        rintro _ ⟨s, rfl⟩
        have HB3 := Aside0.mk (below_then HB.out HB.out.size s.2)
        generalize s.1 = W2 at HB3
        go_wp2
        go_roundw
        case rel => exact ⟨k + 1, by omega, by go_num, HE2, HB3⟩
        case measure => simp [intOf]; omega
      · have hke : k = a.length := by omega
        subst hke
        have g1 : decide (a.length < a.length) = false := decide_eq_false (by omega)
        have HE2 : Aside0 (eqQ sameEv a b = true) := ⟨by have h := HN.out; rwa [List.take_length, HLN.out, List.take_length] at h⟩
        go_wp2
        go_ret
        exact ⟨ret_bool HE2.out.symm, HB.out⟩
  · have n0 : ((a.length : Int) != (b.length : Int)) = true := by simp; omega
    have HE2 : Aside0 (eqQ sameEv a b = false) := ⟨eqQ_len sameEv a b hl⟩
    clear hl
    go_enter Try.func15, Try.ntmps15
    go_wp2
    go_ret
    exact ⟨ret_bool HE2.out.symm, Below.refl _ _⟩
end Go.Proofs.Ytbbdkhffacoglaa.Kn
