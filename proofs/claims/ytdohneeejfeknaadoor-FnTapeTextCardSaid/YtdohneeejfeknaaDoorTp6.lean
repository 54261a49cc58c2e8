
/- TapeRead's plain law: strings.Cut and the first '=' against cutE; IndexByte. -/
import Derived.Test.YtdohneeejfeknaaDoorTp4
import Derived.Lib.IndexMore
set_option linter.unusedVariables false
set_option linter.unusedSimpArgs false
namespace Go.Proofs.YtdohneeejfeknaaDoor.Tp6
open Go.Lib Go.Proofs.YtdohneeejfeknaaDoor.Tp4

theorem cut_cutE : ∀ l : List UInt8, cut l [61] = ((cutE l).1, (cutE l).2.getD [], (cutE l).2.isSome)
  | [] => rfl
  | b :: l => by
    have ih := cut_cutE l
    by_cases h : b = 61
    · subst h
      have e : index ((61 : UInt8) :: l) [61] = 0 := by rw [index]; simp [List.isPrefixOf]
      rw [cut, e, cutE, if_pos rfl]; simp
    · have hp : ([61] : List UInt8).isPrefixOf (b :: l) = false := by simp [List.isPrefixOf, Ne.symm h]
      have e : index (b :: l) [61] = if index l [61] == -1 then -1 else index l [61] + 1 := by rw [index, hp]; simp
      have hge := index_ge l [61]
      rw [cutE, if_neg h]
      rw [cut] at ih ⊢
      rw [e]
      by_cases hm : index l [61] = -1
      · rw [if_neg (by omega)] at ih
        rw [if_pos (beq_iff_eq.2 hm), if_neg (by omega)]
        injection ih with i1 i2
        injection i2 with i2 i3
        rw [← i1, ← i2, ← i3]
      · rw [if_pos (by omega)] at ih
        have hm1 : ¬ (index l [61] == -1) = true := fun e => hm (beq_iff_eq.1 e)
        have e1 : (index l [61] + 1).toNat = (index l [61]).toNat + 1 := by omega
        rw [if_neg hm1, if_pos (by omega), e1]
        injection ih with i1 i2
        injection i2 with i2 i3
        simp only [List.length_cons, List.length_nil] at i2 ⊢
        rw [← i1, ← i2, ← i3]
        have e2 : (index l [61]).toNat + 1 + (0 + 1) = (index l [61]).toNat + (0 + 1) + 1 := by omega
        rw [List.take_succ_cons, e2, List.drop_succ_cons]
end Go.Proofs.YtdohneeejfeknaaDoor.Tp6
