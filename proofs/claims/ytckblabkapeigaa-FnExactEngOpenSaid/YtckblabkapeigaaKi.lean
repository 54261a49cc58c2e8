
/- Are two rows of numbers one, two nodes, two graphs, two lists of rules, two firings: the program's. Printed by genTy.py. -/
import Derived.Test.YtckblabkapeigaaKh
set_option linter.unusedVariables false
set_option linter.unusedSimpArgs false
namespace Go.Proofs.Ytckblabkapeigaa.Ki
open Go.RowKit Go.Proofs.YtckblabkapeigaaW.PrintWords Go.Proofs.Ytckblabkapeigaa.Ja Go.Proofs.Ytckblabkapeigaa.Jb Go.Proofs.Ytckblabkapeigaa.Jc Go.Proofs.Ytckblabkapeigaa.Jd Go.Proofs.Ytckblabkapeigaa.Ka Go.Proofs.Ytckblabkapeigaa.Ke Go.Proofs.Ytckblabkapeigaa.Kf Go.Proofs.Ytckblabkapeigaa.Kg Go.Proofs.Ytckblabkapeigaa.Kh
def sameI (x y : Int) : Bool := x == y
set_option maxHeartbeats 2000000 in
set_option maxRecDepth 100000 in
theorem intsEqual_any (A B : Option Addr) (c d : Nat) (a b : List Int) (w : World) (ha : IsS (Kd.int .i64) w a A c) (hb : IsS (Kd.int .i64) w b B d) :
    Calls Try.prog 73 #[.slice A a.length c, .slice B b.length d] w fun e w' => e = .returned (.bool (eqQ sameI a b)) ∧ Below w.heap.size w w' := by
  have hna := ha.len
  have hnb := hb.len
  have HA := Aside0.mk ha
  have HBb := Aside0.mk hb
  clear ha hb
  by_cases hl : a.length = b.length
  · have n0 : ((a.length : Int) != (b.length : Int)) = false := by simp [hl]
    go_enter Try.func73, Try.ntmps73
    have HLN := Aside0.mk hl
    clear hl
    go_wp2
    go_loopw [13] (fun vi wr => ∃ (k : Nat), k ≤ a.length ∧ vi = .int .i64 k ∧ Aside0 (eqQ sameI (a.take k) (b.take k) = true) ∧ Aside0 (Below w.heap.size w wr)) (fun vi _ => a.length - (intOf vi).toNat)
    case atStart => exact ⟨0, Nat.zero_le _, rfl, ⟨by simp [eqQ]⟩, ⟨Below.refl _ _⟩⟩
    case round =>
      obtain ⟨k, hk, rfl, HN, HB⟩ := hrel
      by_cases hlt : k < a.length
      · have g1 : decide (k < a.length) = true := decide_eq_true hlt
        have i1 : (k : Int) < a.length := by omega
        have hltb : k < b.length := by have := HLN.out; omega
        have i2 : (k : Int) < b.length := by omega
        obtain ⟨ad, rfl, hc⟩ := atI (HA.out.below HB.out) k hlt
        obtain ⟨ad2, rfl, hc2⟩ := atI (HBb.out.below HB.out) k hltb
        have HSN := Aside0.mk (eqQ_snoc sameI 0 a b k hlt HLN.out)
        have HNO := Aside0.mk (eqQ_no sameI 0 a b k hlt HLN.out)
        generalize a.getD k 0 = x at hc HSN HNO
        generalize b.getD k 0 = y at hc2 HSN HNO
        replace hc := cellE hc
        replace hc2 := cellE hc2
        by_cases hd : x = y
        · have hx : (x != y) = false := by simp [hd]
          have HE2 : Aside0 (eqQ sameI (a.take (k + 1)) (b.take (k + 1)) = true) := ⟨by rw [HSN.out, HN.out]; simp [sameI, hd]⟩
          clear hd
          go_wp2
          refine region_ext (W := wr) (Below.refl _ _) (by kernel_rfl) (by kernel_rfl) ?_
          repeat (first | go_big_quiet_step (fail) | quiet_step (fail))
          refine wpQuiet_nil ?_
          rintro _ ⟨s, rfl⟩
          have HB3 := Aside0.mk (below_then HB.out HB.out.size s.2)
          generalize s.1 = W2 at HB3
          go_wp2
          go_roundw
          case rel => exact ⟨k + 1, by omega, by go_num, HE2, HB3⟩
          case measure => simp [intOf]; omega
        · have hx : (x != y) = true := by simp [hd]
          have HE2 : Aside0 (eqQ sameI a b = false) := ⟨HNO.out (by simp [sameI, hd])⟩
          clear hd
          go_wp2
          refine region_ext (W := wr) (Below.refl _ _) (by kernel_rfl) (by kernel_rfl) ?_
          repeat (first | go_big_quiet_step (fail) | quiet_step (fail))
          refine wpQuiet_nil ?_
          rintro _ ⟨s, rfl⟩
          have HB3 := Aside0.mk (below_then HB.out HB.out.size s.2)
          generalize s.1 = W2 at HB3
          go_wp2
          go_ret
          exact ⟨ret_bool HE2.out.symm, HB3.out⟩
      · have hke : k = a.length := by omega
        subst hke
        have g1 : decide (a.length < a.length) = false := decide_eq_false (by omega)
        have HE2 : Aside0 (eqQ sameI a b = true) := ⟨by have h := HN.out; rwa [List.take_length, HLN.out, List.take_length] at h⟩
        go_wp2
        go_ret
        exact ⟨ret_bool HE2.out.symm, HB.out⟩
  · have n0 : ((a.length : Int) != (b.length : Int)) = true := by simp; omega
    have HE2 : Aside0 (eqQ sameI a b = false) := ⟨eqQ_len sameI a b hl⟩
    clear hl
    go_enter Try.func73, Try.ntmps73
    go_wp2
    go_ret
    exact ⟨ret_bool HE2.out.symm, Below.refl _ _⟩
def sameNode (x y : TNode) : Bool := (x.f0 == y.f0) && (x.f1 == y.f1) && (x.f2 == y.f2) && eqQ sameI x.f3 y.f3 && samePair x.f4 y.f4 && sameSpan x.f5 y.f5 && eqQ sameO x.f6 y.f6 && (x.f7 == y.f7)
theorem sameNode_eq (x y : TNode) : sameNode x y = ((x.f0 == y.f0) && (x.f1 == y.f1) && (x.f2 == y.f2) && eqQ sameI x.f3 y.f3 && samePair x.f4 y.f4 && sameSpan x.f5 y.f5 && eqQ sameO x.f6 y.f6 && (x.f7 == y.f7)) := rfl
def sameGraph (x y : TGraph) : Bool := (x.f0 == y.f0) && (x.f2 == y.f2) && (x.f3 == y.f3) && (x.f4 == y.f4) && eqQ sameNode x.f1 y.f1
theorem sameGraph_eq (x y : TGraph) : sameGraph x y = ((x.f0 == y.f0) && (x.f2 == y.f2) && (x.f3 == y.f3) && (x.f4 == y.f4) && eqQ sameNode x.f1 y.f1) := rfl
end Go.Proofs.Ytckblabkapeigaa.Ki
