
/- TapeRead's plain law, second part: decimals. -/
import Derived.Lib.ItoaNum
set_option linter.unusedVariables false
set_option linter.unusedSimpArgs false
namespace Go.Proofs.YtdohneeejfeknaaDoor.Tp2
open Go.Lib

/-- what digits tell -/
def numN (l : List UInt8) : Nat := l.foldl (fun n b => n * 10 + (b.toNat - 48)) 0
def Digs (l : List UInt8) : Prop := ∀ b, b ∈ l → 48 ≤ b.toNat ∧ b.toNat ≤ 57
theorem numN_snoc (l : List UInt8) (b : UInt8) : numN (l ++ [b]) = numN l * 10 + (b.toNat - 48) := by simp [numN]
theorem dig_back (b : UInt8) (h : 48 ≤ b.toNat ∧ b.toNat ≤ 57) : UInt8.ofNat (48 + (b.toNat - 48)) = b := by
  have e : 48 + (b.toNat - 48) = b.toNat := by omega
  rw [e]; simp
theorem dec_small (b : UInt8) (h : 48 ≤ b.toNat ∧ b.toNat ≤ 57) : decDigits (numN [b]) = [b] := by
  have e : numN [b] = b.toNat - 48 := by simp [numN]
  rw [e, decDigits, dif_pos (by omega), dig_back b h]
theorem dec_big : ∀ (k : Nat) (l : List UInt8) (b : UInt8), l.length = k → 48 < b.toNat → Digs (b :: l) → decDigits (numN (b :: l)) = b :: l ∧ 1 ≤ numN (b :: l)
  | 0, l, b, hk, hb, hd => by
    obtain rfl : l = [] := List.length_eq_zero_iff.1 hk
    refine ⟨dec_small b (hd b (by simp)), ?_⟩
    simp [numN]; omega
  | k + 1, l, b, hk, hb, hd => by
    obtain ⟨l', d, rfl⟩ : ∃ l' d, l = l' ++ [d] := ⟨l.dropLast, l.getLast (by intro e; rw [e] at hk; simp at hk), (List.dropLast_concat_getLast _).symm⟩
    have hk' : l'.length = k := by simpa using hk
    have hdd := hd d (by simp)
    obtain ⟨h1, h2⟩ := dec_big k l' b hk' hb (fun x hx => hd x (by rcases List.mem_cons.1 hx with rfl | hx <;> simp [*]))
    have e : numN (b :: (l' ++ [d])) = numN (b :: l') * 10 + (d.toNat - 48) := by rw [← List.cons_append, numN_snoc]
    rw [e]
    refine ⟨?_, by omega⟩
    have q1 : (numN (b :: l') * 10 + (d.toNat - 48)) / 10 = numN (b :: l') := by omega
    have q2 : (numN (b :: l') * 10 + (d.toNat - 48)) % 10 = d.toNat - 48 := by omega
    rw [decDigits, dif_neg (by omega), q1, q2, h1, dig_back d hdd]; rfl
/-- canonical digits are the decimals of what they tell -/
theorem dec_numN (b : UInt8) (l : List UInt8) (hd : Digs (b :: l)) (h0 : b.toNat = 48 → l = []) : decDigits (numN (b :: l)) = b :: l := by
  by_cases h : b.toNat = 48
  · rw [h0 h]; exact dec_small b (hd b (by simp))
  · exact (dec_big l.length l b rfl (by have := hd b (by simp); omega) hd).1
theorem dec_form : ∀ (k n : Nat), n ≤ k → Digs (decDigits n) ∧ numN (decDigits n) = n ∧ ∃ b l, decDigits n = b :: l ∧ (b.toNat = 48 → l = [] ∧ n = 0)
  | k, n, hk => by
    by_cases h : n < 10
    · have e : decDigits n = [UInt8.ofNat (48 + n)] := by rw [decDigits, dif_pos h]
      have e2 : (UInt8.ofNat (48 + n)).toNat = 48 + n := UInt8.toNat_ofNat_of_lt' (by show _ < 256; omega)
      refine ⟨?_, ?_, UInt8.ofNat (48 + n), [], e, fun h0 => ⟨rfl, by omega⟩⟩
      · intro x hx; rw [e] at hx; have hx2 := List.mem_singleton.1 hx; subst hx2; rw [e2]; omega
      · rw [e, numN]; simp only [List.foldl_cons, List.foldl_nil, e2]; omega
    · cases k with
      | zero => omega
      | succ k =>
        have e : decDigits n = decDigits (n / 10) ++ [UInt8.ofNat (48 + n % 10)] := by rw [decDigits, dif_neg h]
        have e2 : (UInt8.ofNat (48 + n % 10)).toNat = 48 + n % 10 := UInt8.toNat_ofNat_of_lt' (by show _ < 256; omega)
        obtain ⟨h1, h2, b, l, h3, h4⟩ := dec_form k (n / 10) (by omega)
        refine ⟨?_, ?_, b, l ++ [UInt8.ofNat (48 + n % 10)], by rw [e, h3]; rfl, fun h0 => by have := (h4 h0).2; omega⟩
        · intro x hx
          rw [e] at hx
          rcases List.mem_append.1 hx with hx | hx
          · exact h1 x hx
          · have hx2 := List.mem_singleton.1 hx; subst hx2; rw [e2]; omega
        · rw [e, numN_snoc, h2, e2]; omega
/-- the decimals are canonical digits, and tell the number -/
theorem dec_digs (n : Nat) : Digs (decDigits n) := (dec_form n n (Nat.le_refl _)).1
theorem numN_dec (n : Nat) : numN (decDigits n) = n := (dec_form n n (Nat.le_refl _)).2.1
theorem dec_inj {n m : Nat} (h : decDigits n = decDigits m) : n = m := by rw [← numN_dec n, h, numN_dec m]
end Go.Proofs.YtdohneeejfeknaaDoor.Tp2
