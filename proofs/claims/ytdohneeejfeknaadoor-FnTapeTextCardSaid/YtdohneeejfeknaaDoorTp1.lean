
/- TapeRead's plain law, first part: a text cut at a byte, and the pieces joined again. -/
import Derived.Lib.SplitLaws
import Derived.Lib.Join
set_option linter.unusedVariables false
set_option linter.unusedSimpArgs false
namespace Go.Proofs.YtdohneeejfeknaaDoor.Tp1
open Go.Lib

/-- a list's pieces between bytes c -/
def cutC (c : UInt8) : List UInt8 → List (List UInt8)
  | [] => [[]]
  | b :: l => if b = c then [] :: cutC c l else (b :: (cutC c l).headD []) :: (cutC c l).tail
theorem cutC_ne (c : UInt8) (l : List UInt8) : cutC c l ≠ [] := by
  cases l with
  | nil => simp [cutC]
  | cons b l => unfold cutC; split <;> simp
theorem cutC_form (c : UInt8) (l : List UInt8) : cutC c l = (cutC c l).headD [] :: (cutC c l).tail := by
  have := cutC_ne c l
  cases h : cutC c l with
  | nil => exact absurd h this
  | cons x r => rfl
theorem join_cutC (c : UInt8) : ∀ l : List UInt8, join (cutC c l) [c] = l
  | [] => by simp [cutC, join_one]
  | b :: l => by
    have ih := join_cutC c l
    rw [cutC_form c l, join_cons] at ih
    unfold cutC
    split
    · next h => rw [join_cons, cutC_form c l, joinTail, List.map_cons, List.flatten_cons]; subst h; show [] ++ (([b] ++ _) ++ joinTail [b] _) = _; rw [List.nil_append, List.append_assoc, ih]; rfl
    · rw [join_cons, List.cons_append, ih]
theorem cutC_no (c : UInt8) : ∀ l : List UInt8, ∀ x, x ∈ cutC c l → c ∉ x
  | [], x, h => by simp [cutC] at h; subst h; simp
  | b :: l, x, h => by
    have ih := cutC_no c l
    unfold cutC at h
    split at h
    · rcases List.mem_cons.1 h with rfl | h
      · simp
      · exact ih x h
    · next hb =>
      rcases List.mem_cons.1 h with rfl | h
      · have := ih ((cutC c l).headD []) (by rw [cutC_form c l]; simp)
        simp only [List.mem_cons, not_or]
        exact ⟨fun e => hb e.symm, this⟩
      · exact ih x (List.mem_of_mem_tail h)
theorem cutC_app (c : UInt8) : ∀ (x l : List UInt8), c ∉ x → cutC c (x ++ c :: l) = x :: cutC c l
  | [], l, _ => by simp [cutC]
  | b :: x, l, h => by
    have h1 : ¬ b = c := fun e => h (by simp [e])
    rw [List.cons_append, cutC, if_neg h1, cutC_app c x l (fun e => h (List.mem_cons_of_mem _ e))]; rfl
theorem cutC_one (c : UInt8) : ∀ (x : List UInt8), c ∉ x → cutC c x = [x]
  | [], _ => by simp [cutC]
  | b :: x, h => by
    have h1 : ¬ b = c := fun e => h (by simp [e])
    rw [cutC, if_neg h1, cutC_one c x (fun e => h (List.mem_cons_of_mem _ e))]; rfl
theorem cutC_join (c : UInt8) : ∀ (x : List UInt8) (r : List (List UInt8)), (∀ y, y ∈ x :: r → c ∉ y) → cutC c (join (x :: r) [c]) = x :: r
  | x, [], h => by rw [join_one, cutC_one c x (h x (by simp))]
  | x, y :: r, h => by
    rw [join_cons, joinTail, List.map_cons, List.flatten_cons]
    show cutC c (x ++ (([c] ++ y) ++ joinTail [c] r)) = _
    rw [List.append_assoc]
    show cutC c (x ++ c :: (y ++ joinTail [c] r)) = _
    rw [cutC_app c x _ (h x (by simp)), ← join_cons, cutC_join c y r (fun z hz => h z (List.mem_cons_of_mem _ hz))]
/-- a text is the joined pieces of words without c exactly if its pieces are the words -/
theorem join_iff (c : UInt8) (ws : List (List UInt8)) (hw : ws ≠ []) (h : ∀ y, y ∈ ws → c ∉ y) (l : List UInt8) : join ws [c] = l ↔ cutC c l = ws := by
  constructor
  · rintro rfl
    cases ws with
    | nil => exact absurd rfl hw
    | cons x r => exact cutC_join c x r h
  · rintro rfl
    exact join_cutC c l
theorem index_eq (c : UInt8) (l : List UInt8) : index (c :: l) [c] = 0 := by rw [index]; simp [List.isPrefixOf]
theorem index_ne (b c : UInt8) (l : List UInt8) (h : b ≠ c) : index (b :: l) [c] = if index l [c] == -1 then -1 else index l [c] + 1 := by
  have hp : ([c] : List UInt8).isPrefixOf (b :: l) = false := by simp [List.isPrefixOf, Ne.symm h]
  rw [index, hp]; simp
/-- strings.Split's pieces at a byte are the pieces -/
theorem split_cutC (c : UInt8) : ∀ l : List UInt8, splitK [c] 0 (count l [c]) l = cutC c l
  | [] => by rw [count_miss (by simp [index])]; rfl
  | b :: l => by
    have ih := split_cutC c l
    by_cases h : b = c
    · subst h
      rw [count_cons_eq, Nat.add_comm, splitK, index_eq, cutC, if_pos rfl]
      simp [ih]
    · rw [count_cons_ne b c l h, cutC, if_neg h]
      cases hk : count l [c] with
      | zero => rw [hk] at ih; rw [splitK] at ih ⊢; rw [← ih]; rfl
      | succ k =>
        rw [hk, splitK] at ih
        rw [splitK, index_ne b c l h]
        by_cases hm : index l [c] = -1
        · rw [count_miss hm] at hk; exact absurd hk (by simp)
        · have hge := index_ge l [c]
          have hm1 : ¬ (index l [c] == -1) = true := fun e => hm (beq_iff_eq.1 e)
          have hm2 : ¬ (index l [c] + 1 == -1) = true := fun e => by have := beq_iff_eq.1 e; omega
          rw [if_neg hm1] at ih
          rw [if_neg hm1, if_neg hm2, ← ih]
          have e1 : (index l [c] + 1).toNat = (index l [c]).toNat + 1 := by omega
          rw [e1]
          simp [List.take_succ_cons, List.drop_succ_cons]
end Go.Proofs.YtdohneeejfeknaaDoor.Tp1
