
/- The choices of an expression, both ways: plain. -/
import Derived.Test.YtckblabkapeigaaNa
import Derived.Test.YtckblabkapeigaaKf
set_option linter.unusedVariables false
set_option linter.unusedSimpArgs false
namespace Go.Proofs.Ytckblabkapeigaa.Nb
open Go.Proofs.Ytckblabkapeigaa.Jb Go.Proofs.Ytckblabkapeigaa.Jg Go.Proofs.Ytckblabkapeigaa.Na

/-! the order of bytes -/
theorem lt_irr : ∀ a : List UInt8, Op.bytesLess a a = false
  | [] => rfl
  | x :: xs => by simp [Op.bytesLess, lt_irr xs]
theorem lt_tr : ∀ a b c : List UInt8, Op.bytesLess a b = true → Op.bytesLess b c = true → Op.bytesLess a c = true
  | _, [], _, h, _ => by simp [Op.bytesLess] at h
  | _, _ :: _, [], _, h => by simp [Op.bytesLess] at h
  | [], _ :: _, _ :: _, _, _ => rfl
  | x :: xs, y :: ys, z :: zs, h1, h2 => by
    simp only [Op.bytesLess, Bool.or_eq_true, Bool.and_eq_true, decide_eq_true_eq, beq_iff_eq] at h1 h2 ⊢
    rcases h1 with h1 | ⟨e1, h1⟩
    · rcases h2 with h2 | ⟨e2, h2⟩
      · exact Or.inl (UInt8.lt_trans h1 h2)
      · exact Or.inl (e2 ▸ h1)
    · rcases h2 with h2 | ⟨e2, h2⟩
      · exact Or.inl (e1 ▸ h2)
      · exact Or.inr ⟨e1.trans e2, lt_tr xs ys zs h1 h2⟩
theorem lt_tot : ∀ a b : List UInt8, Op.bytesLess a b = true ∨ a = b ∨ Op.bytesLess b a = true
  | [], [] => Or.inr (Or.inl rfl)
  | [], _ :: _ => Or.inl rfl
  | _ :: _, [] => Or.inr (Or.inr rfl)
  | x :: xs, y :: ys => by
    simp only [Op.bytesLess, Bool.or_eq_true, Bool.and_eq_true, decide_eq_true_eq, beq_iff_eq]
    rcases Nat.lt_trichotomy x.toNat y.toNat with h | h | h
    · exact Or.inl (Or.inl (UInt8.lt_iff_toNat_lt.2 h))
    · have e : x = y := UInt8.toNat_inj.1 h
      rcases lt_tot xs ys with g | g | g
      · exact Or.inl (Or.inr ⟨e, g⟩)
      · exact Or.inr (Or.inl (by rw [e, g]))
      · exact Or.inr (Or.inr (Or.inr ⟨e.symm, g⟩))
    · exact Or.inr (Or.inr (Or.inl (UInt8.lt_iff_toNat_lt.2 h)))
theorem lt_asy {a b : List UInt8} (h : Op.bytesLess a b = true) : Op.bytesLess b a = false := by
  cases hb : Op.bytesLess b a with
  | false => rfl
  | true => exact absurd (lt_tr a b a h hb) (by rw [lt_irr]; simp)
def ltE (x y : Ex) : Bool := Op.bytesLess (textB x) (textB y)
/-- by the order, or the same text: not behind -/
def leE (x y : Ex) : Bool := !ltE y x
theorem le_of_lt {x y : Ex} (h : ltE x y = true) : leE x y = true := by unfold leE; rw [show ltE y x = false from lt_asy h]; rfl
theorem le_tr {x y z : Ex} (h1 : leE x y = true) (h2 : leE y z = true) : leE x z = true := by
  unfold leE at *
  simp only [Bool.not_eq_true'] at *
  cases h : ltE z x with
  | false => rfl
  | true =>
    rcases lt_tot (textB x) (textB y) with g | g | g
    · have : ltE z y = true := lt_tr _ _ _ h g
      rw [this] at h2; cases h2
    · have : ltE z y = true := by unfold ltE; rw [← g]; exact h
      rw [this] at h2; cases h2
    · have : ltE y x = true := g
      rw [this] at h1; cases h1
theorem le_tot (x y : Ex) : leE x y = true ∨ leE y x = true := by
  unfold leE
  cases h : ltE y x with
  | false => exact Or.inl rfl
  | true => exact Or.inr (by rw [show ltE x y = false from lt_asy h]; rfl)

/-! sorted by insertion, each once -/
def ins : List Ex → Ex → List Ex
  | [], x => [x]
  | y :: ys, x => if ltE x y = true then x :: y :: ys else y :: ins ys x
def sortE (l : List Ex) : List Ex := l.foldl ins []
abbrev SortW (l : List Ex) : Prop := l.Pairwise (fun a b => leE a b = true)
abbrev SortS (l : List Ex) : Prop := l.Pairwise (fun a b => ltE a b = true)
theorem mem_ins {z x : Ex} : ∀ {l : List Ex}, z ∈ ins l x ↔ z = x ∨ z ∈ l
  | [] => by simp [ins]
  | y :: ys => by
    unfold ins
    split
    · simp
    · rw [List.mem_cons, mem_ins, List.mem_cons]
      constructor
      · rintro (h | h | h)
        · exact Or.inr (Or.inl h)
        · exact Or.inl h
        · exact Or.inr (Or.inr h)
      · rintro (h | h | h)
        · exact Or.inr (Or.inl h)
        · exact Or.inl h
        · exact Or.inr (Or.inr h)
theorem ins_sorted {x : Ex} : ∀ {l : List Ex}, SortW l → SortW (ins l x)
  | [], _ => by simp [ins]
  | y :: ys, h => by
    obtain ⟨h1, h2⟩ := List.pairwise_cons.1 h
    unfold ins
    split
    · rename_i hx
      refine List.pairwise_cons.2 ⟨fun z hz => ?_, h⟩
      rcases List.mem_cons.1 hz with rfl | hz
      · exact le_of_lt hx
      · exact le_tr (le_of_lt hx) (h1 z hz)
    · rename_i hx
      refine List.pairwise_cons.2 ⟨fun z hz => ?_, ins_sorted h2⟩
      rcases mem_ins.1 hz with rfl | hz
      · unfold leE; simp at hx; rw [hx]; rfl
      · exact h1 z hz
theorem ins_length (x : Ex) : ∀ l : List Ex, (ins l x).length = l.length + 1
  | [] => rfl
  | y :: ys => by
    unfold ins
    split
    · simp
    · simp [ins_length x ys]
theorem foldl_ins_sorted : ∀ (l a : List Ex), SortW a → SortW (l.foldl ins a)
  | [], a, h => h
  | x :: xs, a, h => foldl_ins_sorted xs _ (ins_sorted h)
theorem mem_foldl_ins {z : Ex} : ∀ (l a : List Ex), z ∈ l.foldl ins a ↔ z ∈ l ∨ z ∈ a
  | [], a => by simp
  | x :: xs, a => by
    rw [List.foldl_cons, mem_foldl_ins xs, mem_ins, List.mem_cons]
    constructor
    · rintro (h | h | h)
      · exact Or.inl (Or.inr h)
      · exact Or.inl (Or.inl h)
      · exact Or.inr h
    · rintro ((h | h) | h)
      · exact Or.inr (Or.inl h)
      · exact Or.inl h
      · exact Or.inr (Or.inr h)
theorem sortE_sorted (l : List Ex) : SortW (sortE l) := foldl_ins_sorted l [] List.Pairwise.nil
theorem mem_sortE {z : Ex} {l : List Ex} : z ∈ sortE l ↔ z ∈ l := by unfold sortE; rw [mem_foldl_ins]; simp
theorem length_foldl_ins : ∀ (l a : List Ex), (l.foldl ins a).length = a.length + l.length
  | [], a => rfl
  | x :: xs, a => by rw [List.foldl_cons, length_foldl_ins xs, ins_length, List.length_cons]; omega
theorem sortE_length (l : List Ex) : (sortE l).length = l.length := by unfold sortE; rw [length_foldl_ins]; simp
theorem sortE_snoc (l : List Ex) (i : Nat) (h : i < l.length) : sortE (l.take (i + 1)) = ins (sortE (l.take i)) (l.getD i zE) := by
  unfold sortE; rw [Ja.take_snoc l i zE h, List.foldl_append]; rfl
/-- where one is put in from behind -/
theorem ins_at {x : Ex} : ∀ (p : List Ex) (j : Nat), SortW p → j ≤ p.length → (∀ y ∈ p.drop j, ltE x y = true) → (j = 0 ∨ ltE x (p.getD (j - 1) zE) = false) → ins p x = p.take j ++ x :: p.drop j
  | [], j, _, hj, _, _ => by
    have : j = 0 := by simpa using hj
    subst this; rfl
  | y :: ys, 0, hs, _, h, _ => by
    have : ltE x y = true := h y (by simp)
    unfold ins; rw [if_pos this]; rfl
  | y :: ys, j + 1, hs, hj, h, h2 => by
    obtain ⟨hs1, hs2⟩ := List.pairwise_cons.1 hs
    have hj2 : j ≤ ys.length := by simpa using hj
    have hxy : ltE x y = false := by
      rcases h2 with h2 | h2
      · omega
      · rcases Nat.eq_zero_or_pos j with rfl | hpos
        · exact h2
        · have h3 : ltE x (ys.getD (j - 1) zE) = false := by
            have : j + 1 - 1 = (j - 1) + 1 := by omega
            rw [this, List.getD_cons_succ] at h2; exact h2
          have hm : ys.getD (j - 1) zE ∈ ys := by
            rw [List.getD_eq_getElem?_getD, List.getElem?_eq_getElem (by omega)]; exact List.getElem_mem _
          have h4 : leE y (ys.getD (j - 1) zE) = true := hs1 _ hm
          have h5 : leE (ys.getD (j - 1) zE) x = true := by unfold leE; rw [h3]; rfl
          have h6 := le_tr h4 h5
          unfold leE at h6; simpa using h6
    unfold ins
    rw [hxy]
    have ih := ins_at ys j hs2 hj2 (fun z hz => h z (by simpa using hz)) (by
      rcases h2 with h2 | h2
      · omega
      · rcases Nat.eq_zero_or_pos j with e | hpos
        · exact Or.inl e
        · refine Or.inr ?_
          have : j + 1 - 1 = (j - 1) + 1 := by omega
          rw [this, List.getD_cons_succ] at h2; exact h2)
    rw [if_neg (by simp), ih]; rfl

/-! structural equality -/
mutual
theorem sameE_iff : ∀ x y : Ex, Kf.sameE x y = true ↔ x = y
  | .mk a b c l, .mk a' b' c' l' => by
    rw [Kf.sameE]
    simp only [Bool.and_eq_true, beq_iff_eq, Ex.f0, Ex.f1, Ex.f2, Ex.f3]
    rw [sameL_iff l l']
    constructor
    · rintro ⟨⟨⟨rfl, rfl⟩, rfl⟩, rfl⟩; rfl
    · intro h; injection h with h1 h2 h3 h4; exact ⟨⟨⟨h1, h2⟩, h3⟩, h4⟩
theorem sameL_iff : ∀ l m : List Ex, Kf.sameL l m = true ↔ l = m
  | [], [] => by simp [Kf.sameL]
  | [], _ :: _ => by simp [Kf.sameL]
  | _ :: _, [] => by simp [Kf.sameL]
  | x :: xs, y :: ys => by
    rw [Kf.sameL]
    simp only [Bool.and_eq_true, List.cons.injEq]
    rw [sameE_iff x y, sameL_iff xs ys]
end

/-! each once -/
def dd : Ex → List Ex → List Ex
  | _, [] => []
  | p, y :: r => if Kf.sameE y p = true then dd y r else y :: dd y r
def dedup : List Ex → List Ex
  | [] => []
  | x :: r => x :: dd x r
theorem mem_dd {z : Ex} : ∀ {l : List Ex} {p : Ex}, z ∈ p :: dd p l ↔ z ∈ p :: l
  | [], p => by simp [dd]
  | y :: r, p => by
    unfold dd
    have ih := mem_dd (z := z) (l := r) (p := y)
    simp only [List.mem_cons] at ih
    split
    · rename_i h
      have e : y = p := (sameE_iff y p).1 h
      subst e
      simp only [List.mem_cons]
      constructor
      · intro h; rcases ih.1 h with h | h
        · exact Or.inl h
        · exact Or.inr (Or.inr h)
      · rintro (h | h | h)
        · exact Or.inl h
        · exact Or.inl h
        · exact ih.2 (Or.inr h)
    · simp only [List.mem_cons]
      constructor
      · rintro (h | h)
        · exact Or.inl h
        · exact Or.inr (ih.1 h)
      · rintro (h | h)
        · exact Or.inl h
        · exact Or.inr (ih.2 h)
theorem mem_dedup {z : Ex} {l : List Ex} : z ∈ dedup l ↔ z ∈ l := by
  cases l with
  | nil => simp [dedup]
  | cons x r => exact mem_dd
/-- all are formed -/
abbrev AllF (l : List Ex) : Prop := ∀ x ∈ l, formB x = true
theorem lt_of_le {x y : Ex} (hx : formB x = true) (hy : formB y = true) (h : leE x y = true) (hn : ¬ x = y) : ltE x y = true := by
  rcases lt_tot (textB x) (textB y) with g | g | g
  · exact g
  · exact absurd (text_inj hx hy g) hn
  · unfold leE at h; rw [show ltE y x = true from g] at h; cases h
theorem dd_sorted : ∀ {l : List Ex} {p : Ex}, AllF (p :: l) → SortW (p :: l) → SortS (p :: dd p l)
  | [], p, _, _ => by simp [dd]
  | y :: r, p, hf, hs => by
    obtain ⟨h1, h2⟩ := List.pairwise_cons.1 hs
    have ih := dd_sorted (l := r) (p := y) (fun x hx => hf x (List.mem_cons_of_mem _ hx)) h2
    obtain ⟨i1, i2⟩ := List.pairwise_cons.1 ih
    unfold dd
    split
    · rename_i h
      have e : y = p := (sameE_iff y p).1 h
      subst e
      exact ih
    · rename_i h
      have hn : ¬ p = y := fun e => h ((sameE_iff y p).2 e.symm)
      have hpy : ltE p y = true := lt_of_le (hf p (by simp)) (hf y (by simp)) (h1 y (by simp)) hn
      refine List.pairwise_cons.2 ⟨fun z hz => ?_, ih⟩
      rcases List.mem_cons.1 hz with rfl | hz
      · exact hpy
      · exact lt_tr _ _ _ hpy (i1 z hz)
theorem dedup_sorted {l : List Ex} (hf : AllF l) (hs : SortW l) : SortS (dedup l) := by
  cases l with
  | nil => exact List.Pairwise.nil
  | cons x r => exact dd_sorted hf hs
/-- a list in order, each once, is told by its members -/
theorem sorted_ext : ∀ {l m : List Ex}, SortS l → SortS m → (∀ z, z ∈ l ↔ z ∈ m) → l = m
  | [], [], _, _, _ => rfl
  | [], y :: ys, _, _, h => by have := (h y).2 (by simp); simp at this
  | x :: xs, [], _, _, h => by have := (h x).1 (by simp); simp at this
  | x :: xs, y :: ys, hl, hm, h => by
    obtain ⟨l1, l2⟩ := List.pairwise_cons.1 hl
    obtain ⟨m1, m2⟩ := List.pairwise_cons.1 hm
    have e : x = y := by
      rcases List.mem_cons.1 ((h x).1 (by simp)) with e | hx
      · exact e
      · rcases List.mem_cons.1 ((h y).2 (by simp)) with e | hy
        · exact e.symm
        · have a := l1 y hy
          have b := m1 x hx
          rw [show ltE y x = false from lt_asy a] at b; cases b
    subst e
    have : xs = ys := sorted_ext l2 m2 (fun z => by
      have irr : ∀ w : Ex, ltE w w = false := fun w => lt_irr _
      constructor
      · intro hz
        rcases List.mem_cons.1 ((h z).1 (List.mem_cons_of_mem _ hz)) with e | g
        · subst e; have := l1 z hz; rw [irr] at this; cases this
        · exact g
      · intro hz
        rcases List.mem_cons.1 ((h z).2 (List.mem_cons_of_mem _ hz)) with e | g
        · subst e; have := m1 z hz; rw [irr] at this; cases this
        · exact g)
    rw [this]

/-! put in, each once -/
def putE : List Ex → Ex → List Ex
  | [], x => [x]
  | y :: ys, x => if ltE y x = true then y :: putE ys x else if textB y = textB x then y :: ys else x :: y :: ys
theorem mem_putE {z x : Ex} (hx : formB x = true) : ∀ {l : List Ex}, AllF l → (z ∈ putE l x ↔ z = x ∨ z ∈ l)
  | [], _ => by simp [putE]
  | y :: ys, hf => by
    unfold putE
    split
    · rw [List.mem_cons, mem_putE hx (fun w hw => hf w (List.mem_cons_of_mem _ hw)), List.mem_cons]
      constructor
      · rintro (h | h | h)
        · exact Or.inr (Or.inl h)
        · exact Or.inl h
        · exact Or.inr (Or.inr h)
      · rintro (h | h | h)
        · exact Or.inr (Or.inl h)
        · exact Or.inl h
        · exact Or.inr (Or.inr h)
    · split
      · rename_i he
        have e : y = x := text_inj (hf y (by simp)) hx he
        subst e; simp
      · simp
theorem putE_sorted {x : Ex} (hx : formB x = true) : ∀ {l : List Ex}, AllF l → SortS l → SortS (putE l x)
  | [], _, _ => by simp [putE]
  | y :: ys, hf, hs => by
    obtain ⟨h1, h2⟩ := List.pairwise_cons.1 hs
    have hf2 : AllF ys := fun w hw => hf w (List.mem_cons_of_mem _ hw)
    unfold putE
    split
    · rename_i h
      refine List.pairwise_cons.2 ⟨fun z hz => ?_, putE_sorted hx hf2 h2⟩
      rcases (mem_putE hx hf2).1 hz with rfl | hz
      · exact h
      · exact h1 z hz
    · rename_i h
      split
      · exact hs
      · rename_i hn
        have hxy : ltE x y = true := by
          rcases lt_tot (textB x) (textB y) with g | g | g
          · exact g
          · exact absurd g.symm hn
          · exact absurd g h
        refine List.pairwise_cons.2 ⟨fun z hz => ?_, hs⟩
        rcases List.mem_cons.1 hz with rfl | hz
        · exact hxy
        · exact lt_tr _ _ _ hxy (h1 z hz)
/-- the first that is not ahead -/
theorem putE_at {x : Ex} : ∀ (l : List Ex) (k : Nat), k ≤ l.length → (∀ y ∈ l.take k, ltE y x = true) → (k < l.length → ltE (l.getD k zE) x = false) →
    putE l x = if k < l.length ∧ textB (l.getD k zE) = textB x then l else l.take k ++ x :: l.drop k
  | [], k, hk, _, _ => by
    have : k = 0 := by simpa using hk
    subst this; simp [putE]
  | y :: ys, 0, _, _, h => by
    have : ltE y x = false := h (by simp)
    unfold putE
    rw [this]
    simp
  | y :: ys, k + 1, hk, h, h2 => by
    have : ltE y x = true := h y (by simp)
    unfold putE
    rw [if_pos this, putE_at ys k (by simpa using hk) (fun z hz => h z (by simp [hz])) (fun hlt => by have := h2 (by simpa using hlt); rwa [List.getD_cons_succ] at this)]
    rw [List.getD_cons_succ]
    by_cases hc : k < ys.length ∧ textB (ys.getD k zE) = textB x
    · rw [if_pos hc, if_pos ⟨by simpa using hc.1, hc.2⟩]
    · rw [if_neg hc, if_neg (fun g => hc ⟨by simpa using g.1, g.2⟩)]; rfl

/-! choices -/
mutual
def chX : Ex → List Ex
  | .mk k a b l => if k = 2 then dedup (sortE (chL l)) else [.mk k a b l]
def chL : List Ex → List Ex
  | [] => []
  | x :: xs => chX x ++ chL xs
end
mutual
def orX : Ex → List Ex → List Ex
  | .mk k a b l, acc => if k = 2 then orL l acc else putE acc (.mk k a b l)
def orL : List Ex → List Ex → List Ex
  | [], acc => acc
  | x :: xs, acc => orL xs (orX x acc)
end
mutual
def lvX : Ex → List Ex
  | .mk k a b l => if k = 2 then lvL l else [.mk k a b l]
def lvL : List Ex → List Ex
  | [] => []
  | x :: xs => lvX x ++ lvL xs
end
theorem chX_eq (x : Ex) : chX x = if x.f0 = 2 then dedup (sortE (chL x.f3)) else [x] := by
  cases x with
  | mk a b c l => rw [chX]; rfl
theorem orX_eq (x : Ex) (acc : List Ex) : orX x acc = if x.f0 = 2 then orL x.f3 acc else putE acc x := by
  cases x with
  | mk a b c l => rw [orX]; rfl
theorem form_kids {k a b : Int} {l : List Ex} (h : formB (.mk k a b l) = true) : formL l = true := (form_head h).2
theorem formL_head {x : Ex} {xs : List Ex} (h : formL (x :: xs) = true) : formB x = true ∧ formL xs = true := by
  rw [formL_cons, Bool.and_eq_true] at h; exact h
mutual
theorem lv_form : ∀ x, formB x = true → AllF (lvX x)
  | .mk k a b l, h => by
    unfold lvX
    split
    · exact lvL_form l (form_kids h)
    · intro z hz; simp at hz; subst hz; exact h
theorem lvL_form : ∀ l, formL l = true → AllF (lvL l)
  | [], _ => by simp [lvL, AllF]
  | x :: xs, h => by
    obtain ⟨h1, h2⟩ := formL_head h
    unfold lvL
    intro z hz
    rcases List.mem_append.1 hz with hz | hz
    · exact lv_form x h1 z hz
    · exact lvL_form xs h2 z hz
end
mutual
theorem mem_ch {z : Ex} : ∀ x, z ∈ chX x ↔ z ∈ lvX x
  | .mk k a b l => by
    unfold chX lvX
    split
    · rw [mem_dedup, mem_sortE, mem_chL l]
    · exact Iff.rfl
theorem mem_chL {z : Ex} : ∀ l, z ∈ chL l ↔ z ∈ lvL l
  | [] => by simp [chL, lvL]
  | x :: xs => by unfold chL lvL; rw [List.mem_append, List.mem_append, mem_ch x, mem_chL xs]
end
theorem ch_form {x : Ex} (h : formB x = true) : AllF (chX x) := fun z hz => lv_form x h z ((mem_ch x).1 hz)
theorem chL_form {l : List Ex} (h : formL l = true) : AllF (chL l) := fun z hz => lvL_form l h z ((mem_chL l).1 hz)
theorem ch_sorted : ∀ {x : Ex}, formB x = true → SortS (chX x)
  | .mk k a b l, h => by
    unfold chX
    split
    · exact dedup_sorted (fun z hz => chL_form (form_kids h) z (mem_sortE.1 hz)) (sortE_sorted _)
    · exact List.pairwise_singleton _ _
mutual
theorem or_ok {acc : List Ex} : ∀ x, formB x = true → AllF acc → SortS acc → AllF (orX x acc) ∧ SortS (orX x acc) ∧ ∀ z, z ∈ orX x acc ↔ z ∈ acc ∨ z ∈ lvX x
  | .mk k a b l, h, hf, hs => by
    unfold orX lvX
    split
    · exact orL_ok l (form_kids h) hf hs
    · refine ⟨fun z hz => ?_, putE_sorted h hf hs, fun z => ?_⟩
      · rcases (mem_putE h hf).1 hz with e | g
        · rw [e]; exact h
        · exact hf z g
      · rw [mem_putE h hf]; simp only [List.mem_singleton]; exact Or.comm
theorem orL_ok {acc : List Ex} : ∀ l, formL l = true → AllF acc → SortS acc → AllF (orL l acc) ∧ SortS (orL l acc) ∧ ∀ z, z ∈ orL l acc ↔ z ∈ acc ∨ z ∈ lvL l
  | [], _, hf, hs => by unfold orL lvL; exact ⟨hf, hs, fun z => by simp⟩
  | x :: xs, h, hf, hs => by
    obtain ⟨h1, h2⟩ := formL_head h
    obtain ⟨a1, a2, a3⟩ := or_ok x h1 hf hs
    obtain ⟨b1, b2, b3⟩ := orL_ok xs h2 a1 a2
    unfold orL lvL
    refine ⟨b1, b2, fun z => ?_⟩
    rw [b3, a3, List.mem_append, or_assoc]
end
/-- the program's choices are the reference's -/
theorem ch_or {x : Ex} (h : formB x = true) : chX x = orX x [] := by
  obtain ⟨_, b, c⟩ := or_ok (acc := []) x h (by simp [AllF]) List.Pairwise.nil
  exact sorted_ext (ch_sorted h) b (fun z => by rw [mem_ch, c]; simp)
end Go.Proofs.Ytckblabkapeigaa.Nb
