
/- Plain laws on occurrences: their order, lists in that order, two in one. No program. -/
import Derived.Test.YtckblabkapeigaaGreatNKd
set_option linter.unusedVariables false
set_option linter.unusedSimpArgs false
namespace Go.Proofs.YtckblabkapeigaaGreat.Pu

abbrev Occ := P.S54
deriving instance DecidableEq for P.S54
def zO : Occ := ⟨0, 0, []⟩

/-! the order -/
def cmpIds : List Int → List Int → Int
 | [], [] => 0
 | [], _ :: _ => -1
 | _ :: _, [] => 1
 | a :: as, b :: bs => if a < b then -1 else if b < a then 1 else cmpIds as bs
theorem cmpIds_swap : ∀ a b, cmpIds b a = -(cmpIds a b)
 | [], [] => rfl
 | [], _ :: _ => rfl
 | _ :: _, [] => rfl
 | a :: as, b :: bs => by
  simp only [cmpIds]
  have := cmpIds_swap as bs
  split <;> split <;> (first | omega | skip) <;> split <;> omega
theorem cmpIds_eq : ∀ a b, cmpIds a b = 0 ↔ a = b
 | [], [] => by simp [cmpIds]
 | [], _ :: _ => by simp [cmpIds]
 | _ :: _, [] => by simp [cmpIds]
 | a :: as, b :: bs => by
  simp only [cmpIds, List.cons.injEq]
  have := cmpIds_eq as bs
  by_cases h1 : a < b
  ·simp [h1]; omega
  ·by_cases h2 : b < a
   ·simp [h1, h2]; omega
   ·simp only [h1, h2, if_false, this]
    constructor
    ·intro h; exact ⟨by omega, h⟩
    ·intro h; exact h.2
theorem cmpIds_trans : ∀ a b c, cmpIds a b < 0 → cmpIds b c < 0 → cmpIds a c < 0
 | [], [], c => by simp [cmpIds]
 | [], _ :: _, [] => by simp [cmpIds]
 | [], _ :: _, _ :: _ => by simp [cmpIds]
 | _ :: _, [], c => by simp [cmpIds]
 | _ :: _, _ :: _, [] => by simp [cmpIds]
 | a :: as, b :: bs, c :: cs => by
  simp only [cmpIds]
  intro h1 h2
  have ih := cmpIds_trans as bs cs
  by_cases p : a < b
  ·by_cases q : b < c
   ·rw [if_pos (by omega)]; omega
   ·by_cases r : c < b
    ·simp [q, r] at h2
    ·rw [if_pos (by omega)]; omega
  ·by_cases p2 : b < a
   ·simp [p, p2] at h1
   ·simp only [p, p2, if_false] at h1
    by_cases q : b < c
    ·rw [if_pos (by omega)]; omega
    ·by_cases r : c < b
     ·simp [q, r] at h2
     ·simp only [q, r, if_false] at h2
      rw [if_neg (by omega), if_neg (by omega)]
      exact ih h1 h2

def cmpO (x y : Occ) : Int := if x.f1 = y.f1 then (if x.f0 = y.f0 then cmpIds x.f2 y.f2 else if x.f0 < y.f0 then -1 else 1) else if x.f1 < y.f1 then -1 else 1
theorem cmpO_swap (x y : Occ) : cmpO y x = -(cmpO x y) := by
 unfold cmpO
 have := cmpIds_swap x.f2 y.f2
 by_cases h : x.f1 = y.f1
 ·rw [if_pos h, if_pos h.symm]
  by_cases g : x.f0 = y.f0
  ·rw [if_pos g, if_pos g.symm]; exact this
  ·rw [if_neg g, if_neg (fun e => g e.symm)]
   split <;> split <;> omega
 ·rw [if_neg h, if_neg (fun e => h e.symm)]
  split <;> split <;> omega
theorem cmpO_eq (x y : Occ) : cmpO x y = 0 ↔ x = y := by
 obtain ⟨a, b, c⟩ := x
 obtain ⟨d, e, g⟩ := y
 unfold cmpO
 simp only [P.S54.mk.injEq]
 have := cmpIds_eq c g
 by_cases h : b = e
 ·by_cases k : a = d
  ·simp [h, k, this]
  ·simp only [h, k, if_true, if_false]
   constructor
   ·intro q; split at q <;> omega
   ·intro q; exact absurd q.1 (by simp)
 ·simp only [h, if_false]
  constructor
  ·intro q; split at q <;> omega
  ·intro q; exact absurd q.2.1 (by simp)
theorem cmpO_refl (x : Occ) : cmpO x x = 0 := (cmpO_eq x x).2 rfl
theorem cmpO_trans {x y z : Occ} (h1 : cmpO x y < 0) (h2 : cmpO y z < 0) : cmpO x z < 0 := by
 unfold cmpO at *
 have := cmpIds_trans x.f2 y.f2 z.f2
 by_cases a : x.f1 = y.f1 <;> by_cases b : y.f1 = z.f1
 ·rw [if_pos a] at h1; rw [if_pos b] at h2; rw [if_pos (by omega)]
  by_cases c : x.f0 = y.f0 <;> by_cases d : y.f0 = z.f0
  ·rw [if_pos c] at h1; rw [if_pos d] at h2; rw [if_pos (by omega)]; exact this h1 h2
  ·rw [if_neg d] at h2; rw [if_neg (by omega)]; split at h2 <;> split <;> omega
  ·rw [if_neg c] at h1; rw [if_neg (by omega)]; split at h1 <;> split <;> omega
  ·rw [if_neg c] at h1; rw [if_neg d] at h2; split at h1 <;> split at h2 <;> first | omega | (rw [if_neg (by omega), if_pos (by omega)]; omega)
 ·rw [if_neg b] at h2; rw [if_neg (by omega)]; split at h2 <;> split <;> omega
 ·rw [if_neg a] at h1; rw [if_neg (by omega)]; split at h1 <;> split <;> omega
 ·rw [if_neg a] at h1; rw [if_neg b] at h2; split at h1 <;> split at h2 <;> first | omega | (rw [if_neg (by omega), if_pos (by omega)]; omega)
def lt (x y : Occ) : Prop := cmpO x y < 0
instance (x y : Occ) : Decidable (lt x y) := inferInstanceAs (Decidable (_ < _))
theorem lt_irrefl (x : Occ) : ¬ lt x x := by unfold lt; rw [cmpO_refl]; omega
theorem lt_trans {x y z : Occ} (h1 : lt x y) (h2 : lt y z) : lt x z := cmpO_trans h1 h2
theorem cmpO_pos {x y : Occ} : 0 < cmpO x y ↔ lt y x := by
 unfold lt
 have h1 := cmpO_swap x y
 omega

/-! lists in order -/
abbrev Sorted (l : List Occ) : Prop := l.Pairwise lt
def put : List Occ → Occ → List Occ
 | [], o => [o]
 | y :: ys, o => if cmpO y o < 0 then y :: put ys o else if cmpO y o = 0 then y :: ys else o :: y :: ys
theorem mem_put (o z : Occ) : ∀ l, z ∈ put l o ↔ z = o ∨ z ∈ l
 | [] => by simp [put]
 | y :: ys => by
  simp only [put]
  have ih := mem_put o z ys
  split
  ·simp only [List.mem_cons, ih]
   constructor
   ·rintro (h | h | h) <;> simp [h]
   ·rintro (h | h | h) <;> simp [h]
  ·split
   ·rename_i _ h
    have := (cmpO_eq y o).1 h
    subst this
    simp
   ·simp
theorem sorted_put {o : Occ} : ∀ {l : List Occ}, Sorted l → Sorted (put l o)
 | [], _ => by simp [put, Sorted]
 | y :: ys, h => by
  obtain ⟨hy, hys⟩ := List.pairwise_cons.1 h
  simp only [put]
  split
  ·rename_i hlt
   refine List.pairwise_cons.2 ⟨fun z hz => ?_, sorted_put hys⟩
   rcases (mem_put o z ys).1 hz with e | e
   ·subst e; exact hlt
   ·exact hy z e
  ·split
   ·exact h
   ·rename_i h1 h2
    have hlt : lt o y := cmpO_pos.1 (by omega)
    refine List.pairwise_cons.2 ⟨fun z hz => ?_, h⟩
    rcases List.mem_cons.1 hz with e | e
    ·subst e; exact hlt
    ·exact lt_trans hlt (hy z e)
/-! numbers ascending, of both lists, each once -/
abbrev Asc (l : List Int) : Prop := l.Pairwise (· < ·)
/-! what is right -/
def inb (n a b : Int) : Bool := decide (a ≤ n) && decide (n ≤ b)
def okIds (last : Int) : List Int → Bool
 | [] => true
 | i :: is => inb i (last + 1) 23 && okIds i is
def okO (x : Occ) : Bool := okIds (-1) x.f2 && (decide (1 ≤ x.f0) && inb x.f1 x.f0 2000 && decide (1 ≤ x.f2.length))
def chain (prev : Option Occ) : List Occ → Bool
 | [] => true
 | o :: os => okO o && (match prev with | none => true | some p => decide (cmpO p o < 0)) && chain (some o) os
def okOs (l : List Occ) : Bool := chain none l && decide (l.length ≤ 40)
theorem okIds_asc : ∀ {l : List Int} {last : Int}, okIds last l = true → Asc l ∧ ∀ z ∈ l, last < z ∧ z ≤ 23
 | [], _, _ => ⟨List.Pairwise.nil, by simp⟩
 | i :: is, last, h => by
  simp only [okIds, inb, Bool.and_eq_true, decide_eq_true_eq] at h
  obtain ⟨⟨h1, h2⟩, h3⟩ := h
  obtain ⟨h4, h5⟩ := okIds_asc h3
  refine ⟨List.pairwise_cons.2 ⟨fun z hz => (h5 z hz).1, h4⟩, fun z hz => ?_⟩
  rcases List.mem_cons.1 hz with e | e
  ·subst e; omega
  ·have := h5 z e; omega
theorem okIds_of : ∀ {l : List Int} {last : Int}, Asc l → (∀ z ∈ l, last < z ∧ z ≤ 23) → okIds last l = true
 | [], _, _, _ => rfl
 | i :: is, last, h, g => by
  obtain ⟨h1, h2⟩ := List.pairwise_cons.1 h
  have := g i (by simp)
  simp only [okIds, inb, Bool.and_eq_true, decide_eq_true_eq]
  exact ⟨⟨by omega, by omega⟩, okIds_of h2 (fun z hz => ⟨h1 z hz, (g z (List.mem_cons_of_mem _ hz)).2⟩)⟩
structure IsOk (x : Occ) : Prop where
 asc : Asc x.f2
 ids : ∀ z ∈ x.f2, 0 ≤ z ∧ z ≤ 23
 f1 : 1 ≤ x.f0
 ft : x.f0 ≤ x.f1
 t2 : x.f1 ≤ 2000
 ne : 1 ≤ x.f2.length
theorem okO_iff {x : Occ} : okO x = true ↔ IsOk x := by
 unfold okO inb
 simp only [Bool.and_eq_true, decide_eq_true_eq]
 constructor
 ·rintro ⟨h, ⟨h1, h2, h3⟩, h4⟩
  obtain ⟨h5, h6⟩ := okIds_asc h
  exact ⟨h5, fun z hz => by have := h6 z hz; omega, h1, h2, h3, h4⟩
 ·rintro ⟨h1, h2, h3, h4, h5, h6⟩
  exact ⟨okIds_of h1 (fun z hz => by have := h2 z hz; omega), ⟨h3, h4, h5⟩, h6⟩
theorem chain_sorted : ∀ {l : List Occ} {p : Option Occ}, chain p l = true → Sorted l ∧ (∀ x ∈ l, IsOk x) ∧ ∀ q, p = some q → ∀ x ∈ l, lt q x
 | [], _, _ => ⟨List.Pairwise.nil, by simp, by simp⟩
 | o :: os, p, h => by
  simp only [chain, Bool.and_eq_true] at h
  obtain ⟨⟨h1, h2⟩, h3⟩ := h
  obtain ⟨h4, h5, h6⟩ := chain_sorted h3
  refine ⟨List.pairwise_cons.2 ⟨h6 o rfl, h4⟩, fun x hx => ?_, fun q hq x hx => ?_⟩
  ·rcases List.mem_cons.1 hx with e | e
   ·subst e; exact okO_iff.1 h1
   ·exact h5 x e
  ·subst hq
   simp only [decide_eq_true_eq] at h2
   rcases List.mem_cons.1 hx with e | e
   ·subst e; exact h2
   ·exact lt_trans h2 (h6 o rfl x e)
theorem chain_of : ∀ {l : List Occ} {p : Option Occ}, Sorted l → (∀ x ∈ l, IsOk x) → (∀ q, p = some q → ∀ x ∈ l, lt q x) → chain p l = true
 | [], _, _, _, _ => rfl
 | o :: os, p, h, g, k => by
  obtain ⟨h1, h2⟩ := List.pairwise_cons.1 h
  simp only [chain, Bool.and_eq_true]
  refine ⟨⟨okO_iff.2 (g o (by simp)), ?_⟩, chain_of h2 (fun x hx => g x (List.mem_cons_of_mem _ hx)) (fun q hq x hx => by injection hq with hq; subst hq; exact h1 x hx)⟩
  cases p with
  | none => rfl
  | some q => exact decide_eq_true (k q rfl o (by simp))
structure AreOk (l : List Occ) : Prop where
 sorted : Sorted l
 all : ∀ x ∈ l, IsOk x
theorem okOs_iff {l : List Occ} : okOs l = true ↔ AreOk l ∧ l.length ≤ 40 := by
 unfold okOs
 simp only [Bool.and_eq_true, decide_eq_true_eq]
 constructor
 ·rintro ⟨h1, h2⟩
  obtain ⟨h3, h4, _⟩ := chain_sorted h1
  exact ⟨⟨h3, h4⟩, h2⟩
 ·rintro ⟨⟨h1, h2⟩, h3⟩
  exact ⟨chain_of h1 h2 (by simp), h3⟩
theorem AreOk.nil : AreOk [] := ⟨List.Pairwise.nil, by simp⟩
theorem AreOk.put {l : List Occ} {o : Occ} (h : AreOk l) (ho : IsOk o) : AreOk (put l o) := ⟨sorted_put h.sorted, fun x hx => by
 rcases (mem_put o x l).1 hx with e | e
 ·subst e; exact ho
 ·exact h.all x e⟩
end Go.Proofs.YtckblabkapeigaaGreat.Pu
