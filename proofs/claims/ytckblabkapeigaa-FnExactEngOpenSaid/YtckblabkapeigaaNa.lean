
/- The text of an expression, as bytes: plain; it tells the expression. -/
import Derived.Test.YtckblabkapeigaaJg
import Derived.Shelf.Strconv.Itoa3
set_option linter.unusedVariables false
set_option linter.unusedSimpArgs false
namespace Go.Proofs.Ytckblabkapeigaa.Na
open Go.Proofs.Ytckblabkapeigaa.Jb Go.Proofs.Ytckblabkapeigaa.Jg

def wordB (k : Int) : List UInt8 :=
  if k = 2 then [111, 114] else if k = 3 then [97, 110, 100] else if k = 4 then [115, 101, 113] else if k = 5 then [110, 111, 116] else if k = 6 then [101, 97, 99, 104] else [112, 108, 117, 115]
def letB (s : Int) : List UInt8 :=
  if s = 0 then [97] else if s = 1 then [98] else if s = 2 then [99] else if s = 3 then [100] else [101]
def numB (n : Int) : List UInt8 := Lib.decDigits n.toNat
mutual
def textB : Ex → List UInt8
  | .mk k s n l => if k = 1 then letB s else (if k = 7 then wordB k ++ (32 :: numB n) else wordB k) ++ textL l
def textL : List Ex → List UInt8
  | [] => []
  | x :: xs => (32 :: textB x) ++ textL xs
end
theorem textB_eq (x : Ex) : textB x = if x.f0 = 1 then letB x.f1 else (if x.f0 = 7 then wordB x.f0 ++ (32 :: numB x.f2) else wordB x.f0) ++ textL x.f3 := by
  cases x with
  | mk a b c l => rw [textB]; rfl
theorem textL_nil : textL [] = [] := by simp [textL]
theorem textL_cons (x : Ex) (xs : List Ex) : textL (x :: xs) = (32 :: textB x) ++ textL xs := by rw [textL]
theorem textL_append : ∀ l m : List Ex, textL (l ++ m) = textL l ++ textL m
  | [], m => by rw [textL_nil]; rfl
  | x :: xs, m => by rw [List.cons_append, textL_cons, textL_cons, textL_append xs m, List.append_assoc]
theorem textL_snoc (l : List Ex) (i : Nat) (h : i < l.length) : textL (l.take (i + 1)) = textL (l.take i) ++ (32 :: textB (l.getD i zE)) := by
  rw [Ja.take_snoc l i zE h, textL_append, textL_cons, textL_nil, List.append_nil]

/-- what may stand behind a text -/
def Tail (r : List UInt8) : Prop := r = [] ∨ ∃ s, r = 32 :: s
theorem tail_textL (l : List Ex) (r : List UInt8) (h : Tail r) : Tail (textL l ++ r) := by
  cases l with
  | nil => rw [textL_nil]; exact h
  | cons x xs => rw [textL_cons]; exact Or.inr ⟨_, rfl⟩
theorem num_no32 : ∀ n : Nat, n ≤ 20 → ∀ b ∈ Lib.decDigits n, b ≠ 32 := by
  have key : ∀ a : Fin 21, (Lib.decDigits a.val).all (fun b => b != 32) = true := by decide +kernel
  intro n h b hb
  have := List.all_eq_true.1 (key ⟨n, by omega⟩) b hb
  simpa using this
theorem split32 : ∀ (a b r s : List UInt8), (∀ x ∈ a, x ≠ 32) → (∀ x ∈ b, x ≠ 32) → Tail r → Tail s → a ++ r = b ++ s → a = b ∧ r = s
  | [], [], r, s, _, _, _, _, h => ⟨rfl, h⟩
  | [], y :: b, r, s, _, hb, hr, _, h => by
    have h2 : r = y :: (b ++ s) := h
    rcases hr with rfl | ⟨t, rfl⟩
    · cases h2
    · exact absurd (List.cons.inj h2).1.symm (hb y (List.mem_cons_self))
  | x :: a, [], r, s, ha, _, _, hs, h => by
    have h2 : x :: (a ++ r) = s := h
    rcases hs with rfl | ⟨t, rfl⟩
    · cases h2
    · exact absurd (List.cons.inj h2).1 (ha x (List.mem_cons_self))
  | x :: a, y :: b, r, s, ha, hb, hr, hs, h => by
    have h2 : x :: (a ++ r) = y :: (b ++ s) := h
    obtain ⟨e1, e2⟩ := List.cons.inj h2
    obtain ⟨e3, e4⟩ := split32 a b r s (fun z hz => ha z (List.mem_cons_of_mem _ hz)) (fun z hz => hb z (List.mem_cons_of_mem _ hz)) hr hs e2
    exact ⟨by rw [e1, e3], e4⟩
theorem num_inj : ∀ n m : Int, 1 ≤ n → n ≤ 20 → 1 ≤ m → m ≤ 20 → numB n = numB m → n = m := by
  have key : ∀ a b : Fin 21, Lib.decDigits a.val = Lib.decDigits b.val → a = b := by decide +kernel
  intro n m h1 h2 h3 h4 h
  have := key ⟨n.toNat, by omega⟩ ⟨m.toNat, by omega⟩ h
  have h5 : n.toNat = m.toNat := congrArg Fin.val this
  omega
/-- the head of a text: a letter, or a word -/
def headB (k s : Int) : List UInt8 := if k = 1 then letB s else wordB k
theorem head_no32 (k s : Int) : ∀ x ∈ headB k s, x ≠ 32 := by
  unfold headB letB wordB
  repeat' split
  all_goals decide
theorem head_inj (k s k' s' : Int) (hk : 1 ≤ k ∧ k ≤ 7) (hk' : 1 ≤ k' ∧ k' ≤ 7) (hs : 0 ≤ s ∧ s ≤ 4) (hs' : 0 ≤ s' ∧ s' ≤ 4) (n : ¬ k = 1 → s = 0) (n' : ¬ k' = 1 → s' = 0) (h : headB k s = headB k' s') : k = k' ∧ s = s' := by
  have key : ∀ a b : Fin 7, ∀ c d : Fin 5, headB ((a.val : Int) + 1) (c.val : Int) = headB ((b.val : Int) + 1) (d.val : Int) → a = b ∧ (a.val = 0 → c = d) := by decide +kernel
  have e : ((k - 1).toNat : Int) + 1 = k := by omega
  have e' : ((k' - 1).toNat : Int) + 1 = k' := by omega
  have f : (s.toNat : Int) = s := by omega
  have f' : (s'.toNat : Int) = s' := by omega
  obtain ⟨h1, h2⟩ := key ⟨(k - 1).toNat, by omega⟩ ⟨(k' - 1).toNat, by omega⟩ ⟨s.toNat, by omega⟩ ⟨s'.toNat, by omega⟩ (by rw [e, e', f, f']; exact h)
  have h3 : (k - 1).toNat = (k' - 1).toNat := congrArg Fin.val h1
  have h4 : k = k' := by omega
  refine ⟨h4, ?_⟩
  by_cases hk1 : k = 1
  · have h5 : s.toNat = s'.toNat := congrArg Fin.val (h2 (by show (k - 1).toNat = 0; omega))
    omega
  · rw [n hk1, n' (by rw [← h4]; exact hk1)]
/-- what stands behind the head -/
def bodyB (x : Ex) : List UInt8 := (if x.f0 = 7 then 32 :: numB x.f2 else []) ++ (if x.f0 = 1 then [] else textL x.f3)
theorem textB_head (x : Ex) : textB x = headB x.f0 x.f1 ++ bodyB x := by
  rw [textB_eq]
  unfold headB bodyB
  by_cases h1 : x.f0 = 1
  · rw [if_pos h1, if_pos h1, if_neg (by omega), if_pos h1]; simp
  · rw [if_neg h1, if_neg h1, if_neg h1]
    by_cases h7 : x.f0 = 7
    · rw [if_pos h7, if_pos h7]; simp
    · rw [if_neg h7, if_neg h7]; simp
theorem form_head {x : Ex} (h : formB x = true) : HeadOk x.f0 x.f1 x.f2 x.f3.length ∧ formL x.f3 = true := by
  rw [formB_eq, Bool.and_eq_true, decide_eq_true_eq] at h
  exact h
theorem tail_body (x : Ex) (r : List UInt8) (hr : Tail r) : Tail (bodyB x ++ r) := by
  unfold bodyB
  by_cases h7 : x.f0 = 7
  · rw [if_pos h7]; exact Or.inr ⟨_, rfl⟩
  · rw [if_neg h7]
    by_cases h1 : x.f0 = 1
    · rw [if_pos h1]; exact hr
    · rw [if_neg h1]; exact tail_textL x.f3 r hr
mutual
theorem text_dec : ∀ (x y : Ex) (r s : List UInt8), formB x = true → formB y = true → Tail r → Tail s → textB x ++ r = textB y ++ s → x = y ∧ r = s
  | .mk k b n l, .mk k' b' n' l', r, s, hx, hy, hr, hs, h => by
    obtain ⟨p, pl⟩ := form_head hx
    obtain ⟨q, ql⟩ := form_head hy
    rw [textB_head, textB_head, List.append_assoc, List.append_assoc] at h
    obtain ⟨e1, e2⟩ := split32 _ _ _ _ (head_no32 _ _) (head_no32 _ _) (tail_body _ r hr) (tail_body _ s hs) h
    obtain ⟨rfl, rfl⟩ := head_inj k b k' b' p.kind q.kind p.sym q.sym p.no q.no e1
    have hll : l.length = l'.length := by
      have h1 : (l.length : Int) = kidsN k := p.kids
      have h2 : (l'.length : Int) = kidsN k := q.kids
      omega
    have rest : n = n' ∧ (if k = 1 then [] else textL l) ++ r = (if k = 1 then [] else textL l') ++ s := by
      have e3 : (if k = 7 then 32 :: numB n else []) ++ (if k = 1 then [] else textL l) ++ r = (if k = 7 then 32 :: numB n' else []) ++ (if k = 1 then [] else textL l') ++ s := e2
      by_cases h7 : k = 7
      · have h1 : ¬ k = 1 := by omega
        rw [if_pos h7, if_pos h7, if_neg h1, if_neg h1] at e3
        rw [if_neg h1, if_neg h1]
        have e4 : numB n ++ (textL l ++ r) = numB n' ++ (textL l' ++ s) := by simpa using e3
        have a1 : 1 ≤ n ∧ n ≤ 20 := p.plus h7
        have a2 : 1 ≤ n' ∧ n' ≤ 20 := q.plus h7
        obtain ⟨e5, e6⟩ := split32 _ _ _ _ (num_no32 n.toNat (by omega)) (num_no32 n'.toNat (by omega)) (tail_textL l r hr) (tail_textL l' s hs) e4
        exact ⟨num_inj n n' a1.1 a1.2 a2.1 a2.2 e5, e6⟩
      · rw [if_neg h7, if_neg h7] at e3
        exact ⟨(p.noN h7).trans (q.noN h7).symm, e3⟩
    obtain ⟨rfl, e7⟩ := rest
    by_cases h1 : k = 1
    · rw [if_pos h1, if_pos h1] at e7
      have hk0 : kidsN k = 0 := by rw [h1]; rfl
      have z1 : l = [] := List.length_eq_zero_iff.1 (by have h2 : (l.length : Int) = kidsN k := p.kids; omega)
      have z2 : l' = [] := List.length_eq_zero_iff.1 (by rw [← hll, z1]; rfl)
      rw [z1, z2]
      exact ⟨rfl, e7⟩
    · rw [if_neg h1, if_neg h1] at e7
      obtain ⟨e8, e9⟩ := textL_dec l l' r s pl ql hr hs hll e7
      rw [e8]
      exact ⟨rfl, e9⟩
theorem textL_dec : ∀ (l m : List Ex) (r s : List UInt8), formL l = true → formL m = true → Tail r → Tail s → l.length = m.length → textL l ++ r = textL m ++ s → l = m ∧ r = s
  | [], [], r, s, _, _, _, _, _, h => ⟨rfl, by simpa [textL_nil] using h⟩
  | [], _ :: _, _, _, _, _, _, _, hl, _ => by simp at hl
  | _ :: _, [], _, _, _, _, _, _, hl, _ => by simp at hl
  | x :: xs, y :: ys, r, s, hx, hy, hr, hs, hl, h => by
    rw [formL_cons, Bool.and_eq_true] at hx hy
    rw [textL_cons, textL_cons] at h
    have h2 : textB x ++ (textL xs ++ r) = textB y ++ (textL ys ++ s) := by simpa using h
    obtain ⟨e1, e2⟩ := text_dec x y _ _ hx.1 hy.1 (tail_textL xs r hr) (tail_textL ys s hs) h2
    obtain ⟨e3, e4⟩ := textL_dec xs ys r s hx.2 hy.2 hr hs (by simpa using hl) e2
    rw [e1, e3]
    exact ⟨rfl, e4⟩
end
/-- the text tells the expression -/
theorem text_inj {x y : Ex} (hx : formB x = true) (hy : formB y = true) (h : textB x = textB y) : x = y :=
  (text_dec x y [] [] hx hy (Or.inl rfl) (Or.inl rfl) (by simpa using h)).1
end Go.Proofs.Ytckblabkapeigaa.Na
