
/- TapeRead's plain law, third part: the reference's numbers and Atoi's, against Itoa's. -/
import Derived.Test.YtdohneeejfeknaaDoorTp2
import Derived.Lib.AtoiTie
set_option linter.unusedVariables false
set_option linter.unusedSimpArgs false
namespace Go.Proofs.YtdohneeejfeknaaDoor.Tp3
open Go.Lib Go.Proofs.YtdohneeejfeknaaDoor.Tp2

theorem decFrom_num : ∀ (l : List UInt8) (a : Nat), Digs l → decFrom a l = some (l.foldl (fun n b => n * 10 + (b.toNat - 48)) a)
  | [], a, _ => rfl
  | b :: l, a, h => by
    have hb := h b (by simp)
    have e : digitVal b = some (b.toNat - 48) := by rw [digitVal, if_pos hb]
    rw [decFrom, e]
    exact decFrom_num l _ (fun x hx => h x (List.mem_cons_of_mem _ hx))
theorem decNat_dec (n : Nat) : decNat (decDigits n) = some n := by
  obtain ⟨h1, h2, b, l, h3, _⟩ := dec_form n n (Nat.le_refl _)
  have : (decDigits n).isEmpty = false := by rw [h3]; rfl
  rw [decNat, this]
  show decFrom 0 (decDigits n) = some n
  rw [decFrom_num _ _ h1]
  exact congrArg some h2
theorem nDigits_le : ∀ (k n : Nat), n < 10 ^ (k + 1) → nDigits n ≤ k + 1
  | 0, n, h => by rw [nDigits_small (by omega)]; omega
  | k + 1, n, h => by
    by_cases h10 : n < 10
    · rw [nDigits_small h10]; omega
    · rw [nDigits_big h10]
      have := nDigits_le k (n / 10) (by have : n < 10 ^ (k + 1) * 10 := by rw [← Nat.pow_succ]; exact h
                                        omega)
      omega
theorem le_nDigits : ∀ (k n : Nat), nDigits n ≤ k → n < 10 ^ k
  | 0, n, h => by
    by_cases h10 : n < 10
    · rw [nDigits_small h10] at h; omega
    · rw [nDigits_big h10] at h; omega
  | k + 1, n, h => by
    by_cases h10 : n < 10
    · exact Nat.lt_of_lt_of_le h10 (by rw [Nat.pow_succ]; have : 10 ^ 0 ≤ 10 ^ k := Nat.pow_le_pow_right (by omega) (Nat.zero_le k); omega)
    · rw [nDigits_big h10] at h
      have := le_nDigits k (n / 10) (by omega)
      rw [Nat.pow_succ]; omega
/-- Atoi reads Itoa's numbers of at most 17 digits -/
theorem atoi_itoa (n : Int) (h1 : -100000000000000000 < n) (h2 : n < 100000000000000000) : atoiAll (itoa n) = .ok n := by
  have hd : nDigits n.natAbs ≤ 17 := nDigits_le 16 _ (by show _ < 100000000000000000; omega)
  have hl := decDigits_length n.natAbs
  by_cases hn : n < 0
  · have e : itoa n = 45 :: decDigits n.natAbs := by rw [itoa, if_pos hn]
    rw [e, atoiAll_short _ (by simp only [List.length_cons]; omega), atoi]
    simp only [beq_self_eq_true, if_true, decNat_dec, Option.map_some, NumEnd.ofOption]
    congr 1; omega
  · have e : itoa n = decDigits n.natAbs := by rw [itoa, if_neg hn]; congr 1; omega
    obtain ⟨hD, _, b, l, h3, _⟩ := dec_form n.natAbs n.natAbs (Nat.le_refl _)
    have hb := hD b (by rw [h3]; simp)
    have g1 : (b == 45) = false := by rw [beq_eq_false_iff_ne]; rintro rfl; revert hb; decide
    have g2 : (b == 43) = false := by rw [beq_eq_false_iff_ne]; rintro rfl; revert hb; decide
    have hN := decNat_dec n.natAbs
    rw [e, atoiAll_short _ (by omega), h3, atoi, g1, g2]
    rw [h3] at hN
    simp only [Bool.false_eq_true, if_false, hN, Option.map_some, NumEnd.ofOption]
    congr 1; omega
/-- the reference's numbers -/
def numS (s : List UInt8) : Option Int :=
  let neg := s.head?.map (·.toNat) = some 45
  let t := if neg then s.tail else s
  if t.length = 0 ∨ 17 < t.length ∨ (t.head?.map (·.toNat) = some 48 ∧ (1 < t.length ∨ neg)) ∨ ¬ (∀ b, b ∈ t → 48 ≤ b.toNat ∧ b.toNat ≤ 57) then none else some (if neg then -(numN t : Int) else numN t)
theorem head_itoa_neg (n : Int) (h : n < 0) : itoa n = 45 :: decDigits n.natAbs := by rw [itoa, if_pos h]
theorem itoa_pos (n : Int) (h : ¬ n < 0) : itoa n = decDigits n.natAbs := by rw [itoa, if_neg h]; congr 1; omega
/-- exactly the decimals of at most 17 digits -/
theorem numS_itoa (n : Int) (h1 : -100000000000000000 < n) (h2 : n < 100000000000000000) : numS (itoa n) = some n := by
  have hd : nDigits n.natAbs ≤ 17 := nDigits_le 16 _ (by show _ < 100000000000000000; omega)
  have hl := decDigits_length n.natAbs
  obtain ⟨hD, hN, b, l, h3, h4⟩ := dec_form n.natAbs n.natAbs (Nat.le_refl _)
  have hb := hD b (by rw [h3]; simp)
  by_cases hn : n < 0
  · have hne : ¬ b.toNat = 48 := fun e => by have := (h4 e).2; omega
    rw [head_itoa_neg n hn]
    unfold numS
    have e1 : ((45 : UInt8) :: decDigits n.natAbs).head?.map (·.toNat) = some 45 := rfl
    simp only [e1, if_true, List.tail_cons]
    rw [if_neg]
    · rw [hN]; congr 1; omega
    · rintro (h | h | h | h)
      · rw [h3] at h; simp at h
      · omega
      · rw [h3] at h; simp at h; exact hne h
      · exact h hD
  · rw [itoa_pos n hn]
    unfold numS
    have e1 : ¬ (decDigits n.natAbs).head?.map (·.toNat) = some 45 := by rw [h3]; simp; omega
    simp only [e1, if_false]
    rw [if_neg]
    · rw [hN]; congr 1; omega
    · rintro (h | h | h | h)
      · rw [h3] at h; simp at h
      · omega
      · rcases h with ⟨ha, hb2 | hb2⟩
        · rw [h3] at ha hb2; simp at ha; rw [(h4 ha).1] at hb2; simp at hb2
        · exact hb2
      · exact h hD
theorem numS_some (s : List UInt8) (n : Int) (h : numS s = some n) : s = itoa n ∧ -100000000000000000 < n ∧ n < 100000000000000000 := by
  unfold numS at h
  by_cases hneg : s.head?.map (·.toNat) = some 45
  · obtain ⟨b, t, rfl⟩ : ∃ b t, s = b :: t := by cases s with | nil => simp at hneg | cons b t => exact ⟨b, t, rfl⟩
    have hb : b = 45 := by simp at hneg; exact UInt8.toNat_inj.1 hneg
    subst hb
    simp only [hneg, if_true, List.tail_cons] at h
    split at h
    · cases h
    · next hc =>
      simp only [not_or, Classical.not_not, not_and] at hc
      obtain ⟨c1, c2, c3, c4⟩ := hc
      injection h with h
      obtain ⟨c, u, rfl⟩ : ∃ c u, t = c :: u := by cases t with | nil => simp at c1 | cons b t => exact ⟨b, t, rfl⟩
      have hc0 : ¬ c.toNat = 48 := fun e => (c3 (by simpa using e)).2 trivial
      obtain ⟨d1, d2⟩ := dec_big u.length u c rfl (by have := c4 c (by simp); omega) c4
      have hlt := le_nDigits 17 (numN (c :: u)) (by rw [← decDigits_length, d1]; omega)
      have e10 : 10 ^ 17 = 100000000000000000 := by decide
      rw [e10] at hlt
      subst h
      refine ⟨?_, by omega, by omega⟩
      rw [head_itoa_neg _ (by omega)]
      have : (-(numN (c :: u) : Int)).natAbs = numN (c :: u) := by omega
      rw [this, d1]
  · simp only [hneg, if_false] at h
    split at h
    · cases h
    · next hc =>
      simp only [not_or, Classical.not_not, not_and] at hc
      obtain ⟨c1, c2, c3, c4⟩ := hc
      injection h with h
      obtain ⟨c, u, rfl⟩ : ∃ c u, s = c :: u := by cases s with | nil => simp at c1 | cons b t => exact ⟨b, t, rfl⟩
      have d1 := dec_numN c u c4 (fun e => by
        have := (c3 (by simpa using e)).1
        cases u with
        | nil => rfl
        | cons x y => simp at this)
      have hlt := le_nDigits 17 (numN (c :: u)) (by rw [← decDigits_length, d1]; omega)
      have e10 : 10 ^ 17 = 100000000000000000 := by decide
      rw [e10] at hlt
      subst h
      refine ⟨?_, by omega, by omega⟩
      rw [itoa_pos _ (by omega)]
      have : ((numN (c :: u) : Int)).natAbs = numN (c :: u) := by omega
      rw [this, d1]
end Go.Proofs.YtdohneeejfeknaaDoor.Tp3
