
/- TapeRead's plain law, fourth part: one word, as the reference reads it and as the program reads and writes it. -/
import Derived.Test.YtdohneeejfeknaaDoorTp3
set_option linter.unusedVariables false
set_option linter.unusedSimpArgs false
namespace Go.Proofs.YtdohneeejfeknaaDoor.Tp4
open Go.Lib Go.Proofs.YtdohneeejfeknaaDoor.Tp2 Go.Proofs.YtdohneeejfeknaaDoor.Tp3

/-- cut at the first '=' -/
def cutE : List UInt8 → List UInt8 × Option (List UInt8)
  | [] => ([], none)
  | b :: l => if b = 61 then ([], some l) else (b :: (cutE l).1, (cutE l).2)
theorem cutE_no : ∀ (l : List UInt8), (61 : UInt8) ∉ l → cutE l = (l, none)
  | [], _ => rfl
  | b :: l, h => by
    have h1 : ¬ b = 61 := fun e => h (by simp [e])
    rw [cutE, if_neg h1, cutE_no l (fun e => h (List.mem_cons_of_mem _ e))]
theorem cutE_app : ∀ (x l : List UInt8), (61 : UInt8) ∉ x → cutE (x ++ 61 :: l) = (x, some l)
  | [], l, _ => by simp [cutE]
  | b :: x, l, h => by
    have h1 : ¬ b = 61 := fun e => h (by simp [e])
    rw [List.cons_append, cutE, if_neg h1, cutE_app x l (fun e => h (List.mem_cons_of_mem _ e))]
theorem cutE_back : ∀ (l : List UInt8), l = (cutE l).1 ++ (match (cutE l).2 with | none => [] | some r => 61 :: r)
  | [] => rfl
  | b :: l => by
    have ih := cutE_back l
    unfold cutE
    split
    · next h => subst h; rfl
    · exact congrArg (b :: ·) ih
theorem digs_no {l : List UInt8} (h : Digs l) (c : UInt8) (hc : c.toNat < 48 ∨ 57 < c.toNat) : c ∉ l := fun e => by have := h c e; omega
theorem itoa_no (n : Int) (c : UInt8) (hc : c.toNat < 45 ∨ 57 < c.toNat) : c ∉ itoa n := by
  by_cases hn : n < 0
  · rw [head_itoa_neg n hn]
    intro e
    rcases List.mem_cons.1 e with rfl | e
    · revert hc; decide
    · exact digs_no (dec_digs _) c (by omega) e
  · rw [itoa_pos n hn]
    exact digs_no (dec_digs _) c (by omega)
/-- what the program writes of a type from 0 to 4, a number and a value -/
def tellB (s : Nat) (n v : Int) : List UInt8 := UInt8.ofNat (97 + s) :: (itoa n ++ if v = 0 then [] else 61 :: itoa v)
/-- what Atoi's first answer is -/
def atoiV (l : List UInt8) : Int := match atoiAll l with | .ok v => v | .syntax => 0 | .range => atoiSat l
/-- what the program reads -/
def untellB : List UInt8 → Int × Int × Int
  | [] => (-1, 0, 0)
  | b :: t => (if 97 ≤ b.toNat ∧ b.toNat ≤ 101 then (b.toNat : Int) - 97 else -1, atoiV (cutE t).1, atoiV ((cutE t).2.getD []))
/-- what the reference reads -/
def oneS : List UInt8 → Option (Nat × Int × Int)
  | [] => none
  | b :: t =>
    if t.length = 0 ∨ b.toNat < 97 ∨ 101 < b.toNat then none
    else match (cutE t).2 with
      | none => (numS (cutE t).1).map fun n => (b.toNat - 97, n, 0)
      | some r => match numS r, numS (cutE t).1 with
        | some v, some n => if v = 0 then none else some (b.toNat - 97, n, v)
        | _, _ => none
def Small (n : Int) : Prop := -100000000000000000 < n ∧ n < 100000000000000000
theorem cutE_tell (n v : Int) : cutE (itoa n ++ if v = 0 then [] else 61 :: itoa v) = (itoa n, if v = 0 then none else some (itoa v)) := by
  have h := itoa_no n 61 (by decide)
  split
  · rw [List.append_nil, cutE_no _ h]
  · rw [cutE_app _ _ h]
theorem atoiV_itoa (n : Int) (h : Small n) : atoiV (itoa n) = n := by rw [atoiV, atoi_itoa n h.1 h.2]
theorem itoa_len (n : Int) : 0 < (itoa n).length := by
  by_cases hn : n < 0
  · rw [head_itoa_neg n hn]; simp
  · rw [itoa_pos n hn]
    obtain ⟨_, _, b, l, h3, _⟩ := dec_form n.natAbs n.natAbs (Nat.le_refl _)
    rw [h3]; simp
theorem untell_tell (s : Nat) (n v : Int) (hs : s ≤ 4) (hn : Small n) (hv : Small v) : untellB (tellB s n v) = ((s : Int), n, v) := by
  have e2 : (UInt8.ofNat (97 + s)).toNat = 97 + s := UInt8.toNat_ofNat_of_lt' (by show _ < 256; omega)
  rw [tellB, untellB, cutE_tell, e2, if_pos (by omega), atoiV_itoa n hn]
  have ha : (((97 + s : Nat) : Int) - 97) = s := by omega
  have hb : atoiV ((if v = 0 then (none : Option (List UInt8)) else some (itoa v)).getD []) = v := by
    split
    · next h => subst h; rfl
    · exact atoiV_itoa v hv
  rw [ha, hb]
theorem one_tell (s : Nat) (n v : Int) (hs : s ≤ 4) (hn : Small n) (hv : Small v) : oneS (tellB s n v) = some (s, n, v) := by
  have e2 : (UInt8.ofNat (97 + s)).toNat = 97 + s := UInt8.toNat_ofNat_of_lt' (by show _ < 256; omega)
  have := itoa_len n
  rw [tellB, oneS, cutE_tell, e2, if_neg (by simp only [List.length_append]; omega)]
  have e3 : 97 + s - 97 = s := by omega
  by_cases h : v = 0
  · subst h
    simp [numS_itoa n hn.1 hn.2, e3]
  · simp [h, numS_itoa n hn.1 hn.2, numS_itoa v hv.1 hv.2, e3]
theorem one_some (w : List UInt8) (s : Nat) (n v : Int) (h : oneS w = some (s, n, v)) : s ≤ 4 ∧ Small n ∧ Small v ∧ w = tellB s n v := by
  cases w with
  | nil => cases h
  | cons b t =>
    rw [oneS] at h
    split at h
    · cases h
    · next hc =>
      have hb : UInt8.ofNat (97 + (b.toNat - 97)) = b := by
        have : 97 + (b.toNat - 97) = b.toNat := by omega
        rw [this]; simp
      have hk := cutE_back t
      cases hr : (cutE t).2 with
      | none =>
        rw [hr] at h hk
        cases hm : numS (cutE t).1 with
        | none => rw [hm] at h; cases h
        | some m =>
          rw [hm] at h
          simp only [Option.map_some, Option.some.injEq, Prod.mk.injEq] at h
          obtain ⟨rfl, rfl, rfl⟩ := h
          obtain ⟨q1, q2, q3⟩ := numS_some _ _ hm
          refine ⟨by omega, ⟨q2, q3⟩, ⟨by decide, by decide⟩, ?_⟩
          rw [tellB, hb, if_pos rfl, ← q1]
          exact congrArg (b :: ·) hk
      | some r =>
        rw [hr] at h hk
        cases hv : numS r with
        | none => simp [hv] at h
        | some x =>
          cases hm : numS (cutE t).1 with
          | none => simp [hv, hm] at h
          | some m =>
            simp only [hv, hm] at h
            split at h
            · cases h
            · next hx =>
              simp only [Option.some.injEq, Prod.mk.injEq] at h
              obtain ⟨rfl, rfl, rfl⟩ := h
              obtain ⟨q1, q2, q3⟩ := numS_some _ _ hm
              obtain ⟨p1, p2, p3⟩ := numS_some _ _ hv
              refine ⟨by omega, ⟨q2, q3⟩, ⟨p2, p3⟩, ?_⟩
              rw [tellB, hb, if_neg hx, ← q1, ← p1]
              exact congrArg (b :: ·) hk
/-- the word law: the reference reads a word exactly if the program writes it again as it was, within the bounds -/
theorem word_iff (w : List UInt8) (s : Nat) (n v : Int) : oneS w = some (s, n, v) ↔ s ≤ 4 ∧ Small n ∧ Small v ∧ untellB w = ((s : Int), n, v) ∧ tellB s n v = w := by
  constructor
  · intro h
    obtain ⟨h1, h2, h3, rfl⟩ := one_some w s n v h
    exact ⟨h1, h2, h3, untell_tell s n v h1 h2 h3, rfl⟩
  · rintro ⟨h1, h2, h3, _, rfl⟩
    exact one_tell s n v h1 h2 h3
end Go.Proofs.YtdohneeejfeknaaDoor.Tp4
