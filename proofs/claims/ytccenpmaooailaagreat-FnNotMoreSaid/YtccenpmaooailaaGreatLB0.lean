
import Derived.Test.YtccenpmaooailaaGreatWWords
import Derived.Test.YtccenpmaooailaaGreatWShare
import Derived.Test.YtccenpmaooailaaGreatWApart
import Derived.Test.YtccenpmaooailaaGreatWFoot
import Derived.Deep.Slices
import Derived.Deep.QuietTactic
import Derived.BigQuiet
/- Occurrences as values in memory: their kind, and what is read of a row of them. Lines that the kit's print writes for a struct. -/
set_option linter.unusedVariables false
set_option linter.unusedSimpArgs false
namespace Go.Proofs.YtccenpmaooailaaGreat.P
open Go.RowKit Go.Proofs.YtccenpmaooailaaGreatW.PrintWords

/-! #### struct type 43 -/
structure S43 where
  f0 : Int
  f1 : Int
  f2 : (List Int)
def k43 : Kd S43 := Kd.iso (Kd.pair (Kd.int .i64) (Kd.pair (Kd.int .i64) (Kd.slice 3 (Kd.int .i64)))) (fun x : S43 => (x.f0, x.f1, x.f2))
end Go.Proofs.YtccenpmaooailaaGreat.P

/- Plain laws on occurrences: their order, lists in that order, two in one. No program. -/
set_option linter.unusedVariables false
set_option linter.unusedSimpArgs false
namespace Go.Proofs.YtccenpmaooailaaGreat.Pu

abbrev Occ := P.S43
deriving instance DecidableEq for P.S43
def zO : Occ := ⟨0, 0, []⟩

/-! the order -/
def cmpIds : List Int → List Int → Int
  | [], [] => 0
  | [], _ :: _ => -1
  | _ :: _, [] => 1
  | a :: as, b :: bs => if a < b then -1 else if b < a then 1 else cmpIds as bs
theorem cmpIds_swap : ∀ a b, cmpIds b a = -(cmpIds a b)
  | [], [] => rfl
  | [], _ :: _ => rfl
  | _ :: _, [] => rfl
  | a :: as, b :: bs => by
    simp only [cmpIds]
    have := cmpIds_swap as bs
    split <;> split <;> (first | omega | skip) <;> split <;> omega
theorem cmpIds_eq : ∀ a b, cmpIds a b = 0 ↔ a = b
  | [], [] => by simp [cmpIds]
  | [], _ :: _ => by simp [cmpIds]
  | _ :: _, [] => by simp [cmpIds]
  | a :: as, b :: bs => by
    simp only [cmpIds, List.cons.injEq]
    have := cmpIds_eq as bs
    by_cases h1 : a < b
    · simp [h1]; omega
    · by_cases h2 : b < a
      · simp [h1, h2]; omega
      · simp only [h1, h2, if_false, this]
        constructor
        · intro h; exact ⟨by omega, h⟩
        · intro h; exact h.2
theorem cmpIds_trans : ∀ a b c, cmpIds a b < 0 → cmpIds b c < 0 → cmpIds a c < 0
  | [], [], c => by simp [cmpIds]
  | [], _ :: _, [] => by simp [cmpIds]
  | [], _ :: _, _ :: _ => by simp [cmpIds]
  | _ :: _, [], c => by simp [cmpIds]
  | _ :: _, _ :: _, [] => by simp [cmpIds]
  | a :: as, b :: bs, c :: cs => by
    simp only [cmpIds]
    intro h1 h2
    have ih := cmpIds_trans as bs cs
    by_cases p : a < b
    · by_cases q : b < c
      · rw [if_pos (by omega)]; omega
      · by_cases r : c < b
        · simp [q, r] at h2
        · rw [if_pos (by omega)]; omega
    · by_cases p2 : b < a
      · simp [p, p2] at h1
      · simp only [p, p2, if_false] at h1
        by_cases q : b < c
        · rw [if_pos (by omega)]; omega
        · by_cases r : c < b
          · simp [q, r] at h2
          · simp only [q, r, if_false] at h2
            rw [if_neg (by omega), if_neg (by omega)]
            exact ih h1 h2

def cmpO (x y : Occ) : Int := if x.f1 = y.f1 then (if x.f0 = y.f0 then cmpIds x.f2 y.f2 else if x.f0 < y.f0 then -1 else 1) else if x.f1 < y.f1 then -1 else 1
theorem cmpO_swap (x y : Occ) : cmpO y x = -(cmpO x y) := by
  unfold cmpO
  have := cmpIds_swap x.f2 y.f2
  by_cases h : x.f1 = y.f1
  · rw [if_pos h, if_pos h.symm]
    by_cases g : x.f0 = y.f0
    · rw [if_pos g, if_pos g.symm]; exact this
    · rw [if_neg g, if_neg (fun e => g e.symm)]
      split <;> split <;> omega
  · rw [if_neg h, if_neg (fun e => h e.symm)]
    split <;> split <;> omega
theorem cmpO_eq (x y : Occ) : cmpO x y = 0 ↔ x = y := by
  obtain ⟨a, b, c⟩ := x
  obtain ⟨d, e, g⟩ := y
  unfold cmpO
  simp only [P.S43.mk.injEq]
  have := cmpIds_eq c g
  by_cases h : b = e
  · by_cases k : a = d
    · simp [h, k, this]
    · simp only [h, k, if_true, if_false]
      constructor
      · intro q; split at q <;> omega
      · intro q; exact absurd q.1 (by simp)
  · simp only [h, if_false]
    constructor
    · intro q; split at q <;> omega
    · intro q; exact absurd q.2.1 (by simp)
theorem cmpO_refl (x : Occ) : cmpO x x = 0 := (cmpO_eq x x).2 rfl
theorem cmpO_trans {x y z : Occ} (h1 : cmpO x y < 0) (h2 : cmpO y z < 0) : cmpO x z < 0 := by
  unfold cmpO at *
  have := cmpIds_trans x.f2 y.f2 z.f2
  by_cases a : x.f1 = y.f1 <;> by_cases b : y.f1 = z.f1
  · rw [if_pos a] at h1; rw [if_pos b] at h2; rw [if_pos (by omega)]
    by_cases c : x.f0 = y.f0 <;> by_cases d : y.f0 = z.f0
    · rw [if_pos c] at h1; rw [if_pos d] at h2; rw [if_pos (by omega)]; exact this h1 h2
    · rw [if_neg d] at h2; rw [if_neg (by omega)]; split at h2 <;> split <;> omega
    · rw [if_neg c] at h1; rw [if_neg (by omega)]; split at h1 <;> split <;> omega
    · rw [if_neg c] at h1; rw [if_neg d] at h2; split at h1 <;> split at h2 <;> first | omega | (rw [if_neg (by omega), if_pos (by omega)]; omega)
  · rw [if_neg b] at h2; rw [if_neg (by omega)]; split at h2 <;> split <;> omega
  · rw [if_neg a] at h1; rw [if_neg (by omega)]; split at h1 <;> split <;> omega
  · rw [if_neg a] at h1; rw [if_neg b] at h2; split at h1 <;> split at h2 <;> first | omega | (rw [if_neg (by omega), if_pos (by omega)]; omega)
def lt (x y : Occ) : Prop := cmpO x y < 0
instance (x y : Occ) : Decidable (lt x y) := inferInstanceAs (Decidable (_ < _))
theorem lt_irrefl (x : Occ) : ¬ lt x x := by unfold lt; rw [cmpO_refl]; omega
theorem lt_trans {x y z : Occ} (h1 : lt x y) (h2 : lt y z) : lt x z := cmpO_trans h1 h2
theorem lt_asymm {x y : Occ} (h : lt x y) : ¬ lt y x := fun g => lt_irrefl x (lt_trans h g)
theorem lt_tri (x y : Occ) : lt x y ∨ x = y ∨ lt y x := by
  unfold lt
  have h1 := cmpO_swap x y
  have h2 := cmpO_eq x y
  by_cases h : cmpO x y = 0
  · exact .inr (.inl (h2.1 h))
  · omega
theorem cmpO_pos {x y : Occ} : 0 < cmpO x y ↔ lt y x := by
  unfold lt
  have h1 := cmpO_swap x y
  omega

/-! lists in order -/
abbrev Sorted (l : List Occ) : Prop := l.Pairwise lt
theorem sorted_ext : ∀ {a b : List Occ}, Sorted a → Sorted b → (∀ x, x ∈ a ↔ x ∈ b) → a = b
  | [], [], _, _, _ => rfl
  | [], y :: ys, _, _, h => by have := (h y).2 (by simp); simp at this
  | x :: xs, [], _, _, h => by have := (h x).1 (by simp); simp at this
  | x :: xs, y :: ys, ha, hb, h => by
    obtain ⟨hx, hxs⟩ := List.pairwise_cons.1 ha
    obtain ⟨hy, hys⟩ := List.pairwise_cons.1 hb
    have hxy : x = y := by
      rcases List.mem_cons.1 ((h x).1 (by simp)) with e | e
      · exact e
      · rcases List.mem_cons.1 ((h y).2 (by simp)) with g | g
        · exact g.symm
        · exact absurd (hx y g) (lt_asymm (hy x e))
    subst hxy
    have := sorted_ext hxs hys (fun z => ⟨fun hz => by
      rcases List.mem_cons.1 ((h z).1 (List.mem_cons_of_mem _ hz)) with e | e
      · subst e; exact absurd (hx _ hz) (lt_irrefl _)
      · exact e, fun hz => by
      rcases List.mem_cons.1 ((h z).2 (List.mem_cons_of_mem _ hz)) with e | e
      · subst e; exact absurd (hy _ hz) (lt_irrefl _)
      · exact e⟩)
    rw [this]

def put : List Occ → Occ → List Occ
  | [], o => [o]
  | y :: ys, o => if cmpO y o < 0 then y :: put ys o else if cmpO y o = 0 then y :: ys else o :: y :: ys
theorem mem_put (o z : Occ) : ∀ l, z ∈ put l o ↔ z = o ∨ z ∈ l
  | [] => by simp [put]
  | y :: ys => by
    simp only [put]
    have ih := mem_put o z ys
    split
    · simp only [List.mem_cons, ih]
      constructor
      · rintro (h | h | h) <;> simp [h]
      · rintro (h | h | h) <;> simp [h]
    · split
      · rename_i _ h
        have := (cmpO_eq y o).1 h
        subst this
        simp
      · simp
theorem sorted_put {o : Occ} : ∀ {l : List Occ}, Sorted l → Sorted (put l o)
  | [], _ => by simp [put, Sorted]
  | y :: ys, h => by
    obtain ⟨hy, hys⟩ := List.pairwise_cons.1 h
    simp only [put]
    split
    · rename_i hlt
      refine List.pairwise_cons.2 ⟨fun z hz => ?_, sorted_put hys⟩
      rcases (mem_put o z ys).1 hz with e | e
      · subst e; exact hlt
      · exact hy z e
    · split
      · exact h
      · rename_i h1 h2
        have hlt : lt o y := cmpO_pos.1 (by omega)
        refine List.pairwise_cons.2 ⟨fun z hz => ?_, h⟩
        rcases List.mem_cons.1 hz with e | e
        · subst e; exact hlt
        · exact lt_trans hlt (hy z e)
def putAll (l : List Occ) : List Occ → List Occ
  | [] => l
  | o :: os => putAll (put l o) os
theorem mem_putAll (z : Occ) : ∀ (os l : List Occ), z ∈ putAll l os ↔ z ∈ l ∨ z ∈ os
  | [], l => by simp [putAll]
  | o :: os, l => by
    simp only [putAll, mem_putAll z os, mem_put, List.mem_cons]
    constructor
    · rintro ((h | h) | h) <;> simp [h]
    · rintro (h | h | h) <;> simp [h]
theorem sorted_putAll : ∀ {os l : List Occ}, Sorted l → Sorted (putAll l os)
  | [], _, h => h
  | _ :: os, _, h => sorted_putAll (os := os) (sorted_put h)
theorem putAll_append (l a b : List Occ) : putAll l (a ++ b) = putAll (putAll l a) b := by
  induction a generalizing l with
  | nil => rfl
  | cons x xs ih => exact ih _
theorem put_mem {l : List Occ} {o : Occ} (h : Sorted l) (ho : o ∈ l) : put l o = l := sorted_ext (sorted_put h) h (fun z => by rw [mem_put]; exact ⟨fun e => e.elim (fun e => e ▸ ho) id, .inr⟩)

/-! numbers ascending, of both lists, each once -/
abbrev Asc (l : List Int) : Prop := l.Pairwise (· < ·)
theorem asc_ext : ∀ {a b : List Int}, Asc a → Asc b → (∀ x, x ∈ a ↔ x ∈ b) → a = b
  | [], [], _, _, _ => rfl
  | [], y :: ys, _, _, h => by have := (h y).2 (by simp); simp at this
  | x :: xs, [], _, _, h => by have := (h x).1 (by simp); simp at this
  | x :: xs, y :: ys, ha, hb, h => by
    obtain ⟨hx, hxs⟩ := List.pairwise_cons.1 ha
    obtain ⟨hy, hys⟩ := List.pairwise_cons.1 hb
    have hxy : x = y := by
      rcases List.mem_cons.1 ((h x).1 (by simp)) with e | e
      · exact e
      · rcases List.mem_cons.1 ((h y).2 (by simp)) with g | g
        · exact g.symm
        · have := hx y g; have := hy x e; omega
    subst hxy
    have := asc_ext hxs hys (fun z => ⟨fun hz => by
      rcases List.mem_cons.1 ((h z).1 (List.mem_cons_of_mem _ hz)) with e | e
      · subst e; have := hx _ hz; omega
      · exact e, fun hz => by
      rcases List.mem_cons.1 ((h z).2 (List.mem_cons_of_mem _ hz)) with e | e
      · subst e; have := hy _ hz; omega
      · exact e⟩)
    rw [this]
def uni : List Int → List Int → List Int
  | [], bs => bs
  | a :: as, [] => a :: as
  | a :: as, b :: bs => if a < b then a :: uni as (b :: bs) else if a = b then b :: uni as bs else b :: uni (a :: as) bs
termination_by a b => a.length + b.length
theorem mem_uni (z : Int) : ∀ a b, z ∈ uni a b ↔ z ∈ a ∨ z ∈ b := by
  intro a b
  fun_induction uni a b with
  | case1 bs => simp
  | case2 a as => simp
  | case3 a as b bs h ih =>
    simp only [List.mem_cons, ih]
    constructor
    · rintro (h | h | h | h) <;> simp [h]
    · rintro ((h | h) | h | h) <;> simp [h]
  | case4 as b bs h1 ih =>
    simp only [List.mem_cons, ih]
    constructor
    · rintro (h | h | h) <;> simp [h]
    · rintro ((h | h) | h | h) <;> simp [h]
  | case5 a as b bs h1 h2 ih =>
    simp only [List.mem_cons, ih]
    constructor
    · rintro (h | (h | h) | h) <;> simp [h]
    · rintro ((h | h) | h | h) <;> simp [h]
theorem asc_uni : ∀ {a b : List Int}, Asc a → Asc b → Asc (uni a b) := by
  intro a b
  fun_induction uni a b with
  | case1 bs => intro _ h; exact h
  | case2 a as => intro h _; exact h
  | case3 a as b bs h ih =>
    intro ha hb
    obtain ⟨h1, h2⟩ := List.pairwise_cons.1 ha
    obtain ⟨h3, h4⟩ := List.pairwise_cons.1 hb
    refine List.pairwise_cons.2 ⟨fun z hz => ?_, ih h2 hb⟩
    rcases (mem_uni z _ _).1 hz with e | e
    · exact h1 z e
    · rcases List.mem_cons.1 e with e | e
      · omega
      · have := h3 z e; omega
  | case4 as b bs h1 ih =>
    intro ha hb
    obtain ⟨h3, h4⟩ := List.pairwise_cons.1 ha
    obtain ⟨h5, h6⟩ := List.pairwise_cons.1 hb
    refine List.pairwise_cons.2 ⟨fun z hz => ?_, ih h4 h6⟩
    rcases (mem_uni z _ _).1 hz with e | e
    · exact h3 z e
    · exact h5 z e
  | case5 a as b bs h1 h2 ih =>
    intro ha hb
    obtain ⟨h3, h4⟩ := List.pairwise_cons.1 ha
    obtain ⟨h5, h6⟩ := List.pairwise_cons.1 hb
    refine List.pairwise_cons.2 ⟨fun z hz => ?_, ih ha h6⟩
    rcases (mem_uni z _ _).1 hz with e | e
    · rcases List.mem_cons.1 e with e | e
      · omega
      · have := h3 z e; omega
    · exact h5 z e
def join (x y : Occ) : Occ := ⟨min x.f0 y.f0, max x.f1 y.f1, uni x.f2 y.f2⟩
theorem uni_comm {a b : List Int} (ha : Asc a) (hb : Asc b) : uni a b = uni b a := asc_ext (asc_uni ha hb) (asc_uni hb ha) (fun z => by rw [mem_uni, mem_uni]; exact Or.comm)
/-! what is right -/
def inb (n a b : Int) : Bool := decide (a ≤ n) && decide (n ≤ b)
def okIds (last : Int) : List Int → Bool
  | [] => true
  | i :: is => inb i (last + 1) 23 && okIds i is
def okO (x : Occ) : Bool := okIds (-1) x.f2 && (decide (1 ≤ x.f0) && inb x.f1 x.f0 2000 && decide (1 ≤ x.f2.length))
def chain (prev : Option Occ) : List Occ → Bool
  | [] => true
  | o :: os => okO o && (match prev with | none => true | some p => decide (cmpO p o < 0)) && chain (some o) os
def okOs (l : List Occ) : Bool := chain none l && decide (l.length ≤ 40)
theorem okIds_asc : ∀ {l : List Int} {last : Int}, okIds last l = true → Asc l ∧ ∀ z ∈ l, last < z ∧ z ≤ 23
  | [], _, _ => ⟨List.Pairwise.nil, by simp⟩
  | i :: is, last, h => by
    simp only [okIds, inb, Bool.and_eq_true, decide_eq_true_eq] at h
    obtain ⟨⟨h1, h2⟩, h3⟩ := h
    obtain ⟨h4, h5⟩ := okIds_asc h3
    refine ⟨List.pairwise_cons.2 ⟨fun z hz => (h5 z hz).1, h4⟩, fun z hz => ?_⟩
    rcases List.mem_cons.1 hz with e | e
    · subst e; omega
    · have := h5 z e; omega
theorem okIds_of : ∀ {l : List Int} {last : Int}, Asc l → (∀ z ∈ l, last < z ∧ z ≤ 23) → okIds last l = true
  | [], _, _, _ => rfl
  | i :: is, last, h, g => by
    obtain ⟨h1, h2⟩ := List.pairwise_cons.1 h
    have := g i (by simp)
    simp only [okIds, inb, Bool.and_eq_true, decide_eq_true_eq]
    exact ⟨⟨by omega, by omega⟩, okIds_of h2 (fun z hz => ⟨h1 z hz, (g z (List.mem_cons_of_mem _ hz)).2⟩)⟩
structure IsOk (x : Occ) : Prop where
  asc : Asc x.f2
  ids : ∀ z ∈ x.f2, 0 ≤ z ∧ z ≤ 23
  f1 : 1 ≤ x.f0
  ft : x.f0 ≤ x.f1
  t2 : x.f1 ≤ 2000
  ne : 1 ≤ x.f2.length
theorem okO_iff {x : Occ} : okO x = true ↔ IsOk x := by
  unfold okO inb
  simp only [Bool.and_eq_true, decide_eq_true_eq]
  constructor
  · rintro ⟨h, ⟨h1, h2, h3⟩, h4⟩
    obtain ⟨h5, h6⟩ := okIds_asc h
    exact ⟨h5, fun z hz => by have := h6 z hz; omega, h1, h2, h3, h4⟩
  · rintro ⟨h1, h2, h3, h4, h5, h6⟩
    exact ⟨okIds_of h1 (fun z hz => by have := h2 z hz; omega), ⟨h3, h4, h5⟩, h6⟩
theorem isOk_join {x y : Occ} (hx : IsOk x) (hy : IsOk y) : IsOk (join x y) := by
  refine ⟨asc_uni hx.asc hy.asc, fun z hz => ?_, ?_, ?_, ?_, ?_⟩
  · rcases (mem_uni z _ _).1 hz with e | e
    · exact hx.ids z e
    · exact hy.ids z e
  · have := hx.f1; have := hy.f1; simp only [join]; omega
  · have := hx.ft; have := hy.ft; simp only [join]; omega
  · have := hx.t2; have := hy.t2; simp only [join]; omega
  · have h := hx.ne
    simp only [join]
    cases hl : x.f2 with
    | nil => rw [hl] at h; simp at h
    | cons a as =>
      have : a ∈ uni (a :: as) y.f2 := (mem_uni a _ _).2 (.inl (by simp))
      exact List.length_pos_of_mem this
theorem chain_sorted : ∀ {l : List Occ} {p : Option Occ}, chain p l = true → Sorted l ∧ (∀ x ∈ l, IsOk x) ∧ ∀ q, p = some q → ∀ x ∈ l, lt q x
  | [], _, _ => ⟨List.Pairwise.nil, by simp, by simp⟩
  | o :: os, p, h => by
    simp only [chain, Bool.and_eq_true] at h
    obtain ⟨⟨h1, h2⟩, h3⟩ := h
    obtain ⟨h4, h5, h6⟩ := chain_sorted h3
    refine ⟨List.pairwise_cons.2 ⟨h6 o rfl, h4⟩, fun x hx => ?_, fun q hq x hx => ?_⟩
    · rcases List.mem_cons.1 hx with e | e
      · subst e; exact okO_iff.1 h1
      · exact h5 x e
    · subst hq
      simp only [decide_eq_true_eq] at h2
      rcases List.mem_cons.1 hx with e | e
      · subst e; exact h2
      · exact lt_trans h2 (h6 o rfl x e)
theorem chain_of : ∀ {l : List Occ} {p : Option Occ}, Sorted l → (∀ x ∈ l, IsOk x) → (∀ q, p = some q → ∀ x ∈ l, lt q x) → chain p l = true
  | [], _, _, _, _ => rfl
  | o :: os, p, h, g, k => by
    obtain ⟨h1, h2⟩ := List.pairwise_cons.1 h
    simp only [chain, Bool.and_eq_true]
    refine ⟨⟨okO_iff.2 (g o (by simp)), ?_⟩, chain_of h2 (fun x hx => g x (List.mem_cons_of_mem _ hx)) (fun q hq x hx => by injection hq with hq; subst hq; exact h1 x hx)⟩
    cases p with
    | none => rfl
    | some q => exact decide_eq_true (k q rfl o (by simp))
structure AreOk (l : List Occ) : Prop where
  sorted : Sorted l
  all : ∀ x ∈ l, IsOk x
theorem okOs_iff {l : List Occ} : okOs l = true ↔ AreOk l ∧ l.length ≤ 40 := by
  unfold okOs
  simp only [Bool.and_eq_true, decide_eq_true_eq]
  constructor
  · rintro ⟨h1, h2⟩
    obtain ⟨h3, h4, _⟩ := chain_sorted h1
    exact ⟨⟨h3, h4⟩, h2⟩
  · rintro ⟨⟨h1, h2⟩, h3⟩
    exact ⟨chain_of h1 h2 (by simp), h3⟩
theorem AreOk.nil : AreOk [] := ⟨List.Pairwise.nil, by simp⟩
theorem AreOk.put {l : List Occ} {o : Occ} (h : AreOk l) (ho : IsOk o) : AreOk (put l o) := ⟨sorted_put h.sorted, fun x hx => by
  rcases (mem_put o x l).1 hx with e | e
  · subst e; exact ho
  · exact h.all x e⟩
theorem AreOk.putAll {os l : List Occ} (h : AreOk l) (ho : ∀ x ∈ os, IsOk x) : AreOk (putAll l os) := ⟨sorted_putAll h.sorted, fun x hx => by
  rcases (mem_putAll x os l).1 hx with e | e
  · exact h.all x e
  · exact ho x e⟩
theorem AreOk.filter {l : List Occ} (h : AreOk l) (p : Occ → Bool) : AreOk (l.filter p) := ⟨h.sorted.filter p, fun x hx => h.all x (List.mem_filter.1 hx).1⟩
end Go.Proofs.YtccenpmaooailaaGreat.Pu

/- Plain laws on what is paired: what the program and the reference compute, and that it is one. No program. -/
set_option linter.unusedVariables false
set_option linter.unusedSimpArgs false
namespace Go.Proofs.YtccenpmaooailaaGreat.Pv
open Go.Proofs.YtccenpmaooailaaGreat.Pu

theorem join_comm {x y : Occ} (hx : IsOk x) (hy : IsOk y) : join x y = join y x := by
  unfold join
  rw [uni_comm hx.asc hy.asc, Int.min_comm, Int.max_comm]

/-! one and those that wait -/
def combine (mode : Int) (o : Occ) (l : List Occ) : List Occ × List Occ :=
  if l.length = 0 then ([], [])
  else if mode = 1 then ([join o (l.getD (l.length - 1) zO)], [])
  else if mode = 2 then ([join o (l.getD 0 zO)], l.take 1)
  else if mode = 4 then ([l.foldl join o], l)
  else (putAll [] (l.map (join o)), if mode = 3 then l else [])
def without (l gone : List Occ) : List Occ := l.filter (fun o => !decide (o ∈ gone))
def pick (mode : Int) (l : List Occ) (can : Occ → Bool) : List Occ × List Occ :=
  let s := l.filter can
  if s.length = 0 then (s, l)
  else if mode = 0 then (s, l)
  else if mode = 1 then ([s.getD (s.length - 1) zO], l)
  else if mode = 2 then (s.take 1, l.filter (fun x => !can x || !decide (x = s.getD 0 zO)))
  else (s, l.filter (fun x => !can x))
def make (mode : Int) (s : List Occ) (o : Occ) : List Occ :=
  if s.length = 0 then [] else if mode = 4 then [s.foldl join o] else putAll [] (s.map (fun x => join x o))
theorem putAll_one (o : Occ) : putAll [] [o] = [o] := rfl
theorem getD_mem {l : List Occ} {i : Nat} (h : i < l.length) : l.getD i zO ∈ l := by
  rw [List.getD_eq_getElem?_getD, List.getElem?_eq_getElem h]
  exact List.getElem_mem _
theorem take_one {l : List Occ} (h : ¬ l.length = 0) : l.take 1 = [l.getD 0 zO] := by
  cases l with
  | nil => simp at h
  | cons x xs => rfl
theorem without_nil (l : List Occ) : without l [] = l := by unfold without; exact List.filter_eq_self.2 (by simp)
theorem isOk_fold : ∀ {s : List Occ} {o : Occ}, IsOk o → (∀ x ∈ s, IsOk x) → IsOk (s.foldl join o)
  | [], _, ho, _ => ho
  | x :: xs, o, ho, h => isOk_fold (s := xs) (isOk_join ho (h x (by simp))) (fun y hy => h y (List.mem_cons_of_mem _ hy))
theorem comb_pick {mode : Int} (hm : 0 ≤ mode ∧ mode ≤ 4) {l : List Occ} (hl : AreOk l) {o : Occ} (ho : IsOk o) (can : Occ → Bool) :
    (combine mode o (l.filter can)).1 = make mode (pick mode l can).1 o ∧ without l (combine mode o (l.filter can)).2 = (pick mode l can).2 := by
  have hs : ∀ x ∈ l.filter can, IsOk x := fun x hx => hl.all x (List.mem_filter.1 hx).1
  have hc : ∀ x ∈ l.filter can, can x = true := fun x hx => (List.mem_filter.1 hx).2
  have hmem : ∀ x ∈ l, can x = true → x ∈ l.filter can := fun x hx h => List.mem_filter.2 ⟨hx, h⟩
  unfold combine pick make
  simp only
  generalize l.filter can = s at hs hc hmem
  by_cases h0 : s.length = 0
  · simp only [h0, if_true]
    exact ⟨trivial, without_nil l⟩
  simp only [h0, if_false]
  by_cases h1 : mode = 1
  · subst h1
    simp only [if_true, show ¬ ((1 : Int) = 0) by omega, show ¬ ((1 : Int) = 4) by omega, if_false, List.length_singleton, Nat.one_ne_zero, List.map_cons, List.map_nil]
    refine ⟨?_, without_nil l⟩
    rw [putAll_one, join_comm ho (hs _ (getD_mem (by omega)))]
  by_cases h2 : mode = 2
  · subst h2
    simp only [h1, if_true, show ¬ ((2 : Int) = 0) by omega, show ¬ ((2 : Int) = 4) by omega, if_false]
    have h3 : ¬ ([s.getD 0 zO].length = 0) := by simp
    rw [take_one h0]
    simp only [h3, if_false, List.map_cons, List.map_nil]
    refine ⟨?_, ?_⟩
    · rw [putAll_one, join_comm ho (hs _ (getD_mem (by omega)))]
    · unfold without
      refine List.filter_congr (fun x hx => ?_)
      by_cases e : x = s.getD 0 zO
      · have h5 := hc _ (getD_mem (l := s) (i := 0) (by omega))
        rw [← e] at h5
        have h6 : x ∈ [s.getD 0 zO] := by rw [← e]; simp
        rw [decide_eq_true h6, h5, decide_eq_true e]
        rfl
      · have h6 : ¬ x ∈ [s.getD 0 zO] := fun h => e (List.mem_singleton.1 h)
        rw [decide_eq_false h6, decide_eq_false e]
        simp
  by_cases h4 : mode = 4
  · subst h4
    simp only [show ¬ ((4 : Int) = 1) by omega, show ¬ ((4 : Int) = 2) by omega, show ¬ ((4 : Int) = 0) by omega, if_false, if_true, h0]
    refine ⟨trivial, ?_⟩
    unfold without
    refine List.filter_congr (fun x hx => ?_)
    by_cases e : can x = true
    · simp [hmem x hx e, e]
    · have : x ∉ s := fun h => e (hc x h)
      simp [this, e]
  have hmap : s.map (join o) = s.map (fun x => join x o) := List.map_congr_left (fun x hx => join_comm ho (hs x hx))
  by_cases h3 : mode = 3
  · subst h3
    simp only [h0, if_true, if_false, show ¬ ((3 : Int) = 1) by omega, show ¬ ((3 : Int) = 2) by omega, show ¬ ((3 : Int) = 0) by omega, show ¬ ((3 : Int) = 4) by omega]
    refine ⟨by rw [hmap], ?_⟩
    unfold without
    refine List.filter_congr (fun x hx => ?_)
    by_cases e : can x = true
    · simp [hmem x hx e, e]
    · have : x ∉ s := fun h => e (hc x h)
      simp [this, e]
  · have h00 : mode = 0 := by omega
    subst h00
    simp only [h0, if_true, if_false, show ¬ ((0 : Int) = 1) by omega, show ¬ ((0 : Int) = 2) by omega, show ¬ ((0 : Int) = 3) by omega, show ¬ ((0 : Int) = 4) by omega]
    exact ⟨by rw [hmap], without_nil l⟩
theorem mem_combine {mode : Int} {o : Occ} {s : List Occ} (ho : IsOk o) (hs : ∀ x ∈ s, IsOk x) : ∀ z ∈ (combine mode o s).1, IsOk z := by
  intro z hz
  unfold combine at hz
  by_cases h0 : s.length = 0
  · simp [h0] at hz
  simp only [h0, if_false] at hz
  split at hz
  · rw [List.mem_singleton.1 hz]; exact isOk_join ho (hs _ (getD_mem (by omega)))
  split at hz
  · rw [List.mem_singleton.1 hz]; exact isOk_join ho (hs _ (getD_mem (by omega)))
  split at hz
  · rw [List.mem_singleton.1 hz]; exact isOk_fold ho hs
  · rcases (mem_putAll z _ _).1 hz with e | e
    · simp at e
    · obtain ⟨x, hx, rfl⟩ := List.mem_map.1 e
      exact isOk_join ho (hs x hx)
theorem areOk_without {l gone : List Occ} (h : AreOk l) : AreOk (without l gone) := h.filter _
theorem areOk_pick {mode : Int} {l : List Occ} (h : AreOk l) (can : Occ → Bool) : AreOk (pick mode l can).2 := by
  unfold pick
  simp only
  split
  · exact h
  split
  · exact h
  split
  · exact h
  split
  · exact h.filter _
  · exact h.filter _
theorem pick_ok {mode : Int} {l : List Occ} (h : AreOk l) (can : Occ → Bool) : ∀ x ∈ (pick mode l can).1, IsOk x := by
  intro x hx
  have hs : ∀ x ∈ l.filter can, IsOk x := fun x hx => h.all x (List.mem_filter.1 hx).1
  unfold pick at hx
  simp only at hx
  generalize l.filter can = s at hs hx
  split at hx
  · exact hs x hx
  split at hx
  · exact hs x hx
  split at hx
  · rw [List.mem_singleton.1 hx]; exact hs _ (getD_mem (by omega))
  split at hx
  · exact hs x (List.mem_of_mem_take hx)
  · exact hs x hx

/-! a sequence -/
def before (o : Occ) : Occ → Bool := fun s => decide (s.f1 < o.f0)
def seqStep (mode : Int) (st : List Occ × List Occ) (o : Occ) : List Occ × List Occ :=
  (without st.1 (combine mode o (st.1.filter (before o))).2, putAll st.2 (combine mode o (st.1.filter (before o))).1)
def seqI (mode : Int) (l : List Occ) (left right : List Occ) : List Occ × List Occ :=
  (putAll (right.foldl (seqStep mode) (l, [])).1 left, (right.foldl (seqStep mode) (l, [])).2)
def seqStepS (mode : Int) (st : List Occ × List Occ) (o : Occ) : List Occ × List Occ :=
  ((pick mode st.1 (before o)).2, putAll st.2 (make mode (pick mode st.1 (before o)).1 o))
theorem seqStep_eq {mode : Int} (hm : 0 ≤ mode ∧ mode ≤ 4) {st : List Occ × List Occ} (h : AreOk st.1) {o : Occ} (ho : IsOk o) : seqStep mode st o = seqStepS mode st o := by
  obtain ⟨h1, h2⟩ := comb_pick hm h ho (before o)
  unfold seqStep seqStepS
  rw [h1, h2]
theorem seqStep_ok {mode : Int} {st : List Occ × List Occ} (h : AreOk st.1) (h2 : AreOk st.2) {o : Occ} (ho : IsOk o) : AreOk (seqStep mode st o).1 ∧ AreOk (seqStep mode st o).2 :=
  ⟨areOk_without h, h2.putAll (mem_combine ho (fun x hx => h.all x (List.mem_filter.1 hx).1))⟩
theorem seqFold {mode : Int} (hm : 0 ≤ mode ∧ mode ≤ 4) : ∀ {right : List Occ} {st : List Occ × List Occ}, AreOk st.1 → AreOk st.2 → (∀ o ∈ right, IsOk o) →
    right.foldl (seqStep mode) st = right.foldl (seqStepS mode) st ∧ AreOk (right.foldl (seqStep mode) st).1 ∧ AreOk (right.foldl (seqStep mode) st).2
  | [], _, h1, h2, _ => ⟨rfl, h1, h2⟩
  | o :: os, st, h1, h2, h => by
    have ho := h o (by simp)
    obtain ⟨h3, h4⟩ := seqStep_ok (mode := mode) h1 h2 ho
    obtain ⟨h5, h6⟩ := seqFold hm (right := os) h3 h4 (fun x hx => h x (List.mem_cons_of_mem _ hx))
    rw [List.foldl_cons, List.foldl_cons, ← seqStep_eq hm h1 ho]
    exact ⟨h5, h6⟩
theorem seqI_ok {mode : Int} (hm : 0 ≤ mode ∧ mode ≤ 4) {l left right : List Occ} (hl : AreOk l) (hle : ∀ o ∈ left, IsOk o) (hr : ∀ o ∈ right, IsOk o) : AreOk (seqI mode l left right).1 ∧ AreOk (seqI mode l left right).2 := by
  obtain ⟨_, h1, h2⟩ := seqFold hm (st := (l, [])) hl AreOk.nil hr
  exact ⟨h1.putAll hle, h2⟩

/-! a conjunction -/
def stow (mode : Int) (l : List Occ) (o : Occ) (alone : Bool) : List Occ := if mode = 1 then [o] else if mode = 0 ∨ alone = true then put l o else l
/-- own side, other side, found -/
structure Sides where
  own : List Occ
  oth : List Occ
  out : List Occ
def andStep (mode : Int) (st : Sides) (o : Occ) : Sides :=
  ⟨stow mode st.own o (decide ((combine mode o st.oth).1.length = 0)), without st.oth (combine mode o st.oth).2, putAll st.out (combine mode o st.oth).1⟩
def whole : Occ → Bool := fun _ => true
def stowS (mode : Int) (l : List Occ) (o : Occ) (alone : Bool) : List Occ := if mode = 0 then put l o else if mode = 1 then [o] else if alone = true then put l o else l
def andStepS (mode : Int) (st : Sides) (o : Occ) : Sides :=
  ⟨stowS mode st.own o (decide ((pick mode st.oth whole).1.length = 0)), (pick mode st.oth whole).2, putAll st.out (make mode (pick mode st.oth whole).1 o)⟩
def flip (st : Sides) : Sides := ⟨st.oth, st.own, st.out⟩
def andI (mode : Int) (l r : List Occ) (left right : List Occ) : Sides := flip (right.foldl (andStep mode) (flip (left.foldl (andStep mode) ⟨l, r, []⟩)))
def andS (mode : Int) (l r : List Occ) (left right : List Occ) : Sides := flip (right.foldl (andStepS mode) (flip (left.foldl (andStepS mode) ⟨l, r, []⟩)))
structure SidesOk (st : Sides) : Prop where
  own : AreOk st.own
  oth : AreOk st.oth
  out : AreOk st.out
theorem SidesOk.flip {st : Sides} (h : SidesOk st) : SidesOk (flip st) := ⟨h.oth, h.own, h.out⟩
/-! lengths -/
theorem len_put1 (l : List Occ) (o : Occ) : (put l o).length ≤ l.length + 1 := by
  induction l with
  | nil => simp [put]
  | cons x l ih =>
    unfold put
    repeat' split
    all_goals simp
    all_goals try omega
theorem len_putAll1 (l : List Occ) : ∀ os : List Occ, (putAll l os).length ≤ l.length + os.length := by
  intro os
  induction os generalizing l with
  | nil => simp [putAll]
  | cons x os ih =>
    rw [putAll]
    have := ih (put l x)
    have := len_put1 l x
    simp only [List.length_cons]
    omega
theorem len_combine (mode : Int) (o : Occ) (s : List Occ) : (combine mode o s).1.length ≤ s.length := by
  unfold combine
  split
  · simp
  split
  · simp; omega
  split
  · simp; omega
  split
  · simp; omega
  · have := len_putAll1 [] (s.map (join o))
    simpa using this
theorem len_without (l g : List Occ) : (without l g).length ≤ l.length := List.length_filter_le _ _
theorem gone_sub {mode : Int} {o : Occ} {s : List Occ} (hs : Sorted s) : Sorted (combine mode o s).2 := by
  unfold combine
  split
  · simp [Sorted]
  split
  · simp [Sorted]
  split
  · exact hs.sublist (List.take_sublist _ _)
  split
  · exact hs
  · simp only
    split
    · exact hs
    · simp [Sorted]
theorem len_gone (mode : Int) (o : Occ) (s : List Occ) : (combine mode o s).2.length ≤ s.length := by
  unfold combine
  split
  · simp
  split
  · simp
  split
  · exact List.length_take_le' _ _
  split
  · exact Nat.le_refl _
  · simp only
    split
    · exact Nat.le_refl _
    · simp
theorem foldl_take {α : Type} (f : α → Occ → α) (a : α) (l : List Occ) (k : Nat) (h : k < l.length) : (l.take (k + 1)).foldl f a = f ((l.take k).foldl f a) (l.getD k zO) := by
  rw [List.take_add_one, List.foldl_append, List.getD_eq_getElem?_getD, List.getElem?_eq_getElem h]
  rfl

/-! all points in time -/
def atT (l : List Occ) (t : Int) : List Occ := l.filter (fun o => decide (o.f1 = t))
def tms (l : List Occ) : List Int := ((List.range 2000).map (fun n : Nat => (n : Int) + 1)).filter (fun t => l.any (fun o => decide (o.f1 = t)))
theorem asc_tms (l : List Occ) : Asc (tms l) := by
  unfold tms Asc
  refine List.Pairwise.filter _ (List.pairwise_map.2 ?_)
  exact List.Pairwise.imp (fun h => by omega) List.pairwise_lt_range
theorem mem_tms {l : List Occ} (h : ∀ o ∈ l, IsOk o) (z : Int) : z ∈ tms l ↔ ∃ o ∈ l, o.f1 = z := by
  unfold tms
  simp only [List.mem_filter, List.mem_map, List.mem_range, List.any_eq_true, decide_eq_true_eq]
  constructor
  · rintro ⟨_, h⟩; exact h
  · rintro ⟨o, ho, rfl⟩
    have h1 := (h o ho).f1; have h2 := (h o ho).ft; have h3 := (h o ho).t2
    exact ⟨⟨(o.f1 - 1).toNat, by omega, by omega⟩, o, ho, rfl⟩
theorem tms_of {l : List Occ} (h : ∀ o ∈ l, IsOk o) {r : List Int} (hr : Asc r) (hm : ∀ z, z ∈ r ↔ ∃ o ∈ l, o.f1 = z) : r = tms l := asc_ext hr (asc_tms l) (fun z => by rw [hm, mem_tms h])
end Go.Proofs.YtccenpmaooailaaGreat.Pv

/- Words of this proof's own, of no program: three numbers in line; what came in, read by its kind. -/
set_option linter.unusedVariables false
set_option linter.unusedSimpArgs false
namespace Go.Proofs.YtccenpmaooailaaGreat.Wd
open Go.RowKit Go.Proofs.YtccenpmaooailaaGreatW.PrintWords
open Go.Proofs.YtccenpmaooailaaGreat.Pu (Occ zO)

theorem ret_bool {a b : Bool} (h : a = b) : Ending.returned (.bool a) = .returned (.bool b) := by rw [h]
/-! three numbers in line -/
structure T3 where
  a : Int
  b : Int
  c : Int
def z3 : T3 := ⟨0, 0, 0⟩
def c3 (x : T3) : List Value := [.int .i64 x.a, .int .i64 x.b, .int .i64 x.c]
theorem C_len {α : Type} {d : Kd α} {w : World} {A : Option Addr} {n : Nat} {xs : List α} (h : d.C w A n xs) : xs.length = n ∧ n ≤ 9223372036854775807 := ⟨h.1, h.2.1⟩
theorem drop_at {α : Type} (xs : List α) (z : α) (k : Nat) (h : k < xs.length) : xs.drop k = xs.getD k z :: xs.drop (k + 1) := by
  rw [List.drop_eq_getElem_cons h]
  simp [h]

/-! a number of a row -/
theorem at1 {w : World} {A : Option Addr} {n : Nat} {xs : List Int} (h : (Kd.int .i64).C w A n xs) (k : Nat) (hk : k < n) : ∃ ad, A = some ad ∧ w.cell? (ad.add k) = some (.int .i64 (xs.getD k 0)) := by
  obtain ⟨ad, e, hc⟩ := Kd.at_int h (k : Int) (by omega) (by omega)
  exact ⟨ad, e, hc⟩

/-! occurrences: from, to, the events -/
abbrev kO : Kd Occ := P.k43
theorem kO_open {w : World} {x : Occ} {cs : List Value} (h : kO.K w x cs) : ∃ A c, cs = [.int .i64 x.f0, .int .i64 x.f1, .slice A x.f2.length c] ∧ x.f2.length ≤ c ∧ (Kd.int .i64).C w A x.f2.length x.f2 := by
  obtain ⟨_, _, rfl, rfl, ⟨_, _, rfl, rfl, ⟨A, c, rfl, l, g⟩⟩⟩ := h
  exact ⟨A, c, rfl, l, g⟩
theorem kO_openM {w : World} {base : Nat} {ok : Nat → Prop} {x : Occ} {cs : List Value} (h : kO.M w base ok x cs) : ∃ v, cs = [.int .i64 x.f0, .int .i64 x.f1, v] ∧ (Kd.int .i64).R 3 w base ok v x.f2 := by
  obtain ⟨_, _, rfl, rfl, ⟨_, _, rfl, rfl, ⟨v, rfl, g⟩⟩⟩ := h
  exact ⟨v, rfl, g⟩
theorem kO_mk (w : World) (x : Occ) {A : Option Addr} {c : Nat} (l : x.f2.length ≤ c) (g : (Kd.int .i64).C w A x.f2.length x.f2) : kO.K w x [.int .i64 x.f0, .int .i64 x.f1, .slice A x.f2.length c] :=
  ⟨[.int .i64 x.f0], [.int .i64 x.f1, .slice A x.f2.length c], rfl, rfl, ⟨[.int .i64 x.f1], [.slice A x.f2.length c], rfl, rfl, ⟨A, c, rfl, l, g⟩⟩⟩
theorem kO_mkM (w : World) (base : Nat) (ok : Nat → Prop) (x : Occ) {v : Value} (g : (Kd.int .i64).R 3 w base ok v x.f2) : kO.M w base ok x [.int .i64 x.f0, .int .i64 x.f1, v] :=
  ⟨[.int .i64 x.f0], [.int .i64 x.f1, v], rfl, rfl, ⟨[.int .i64 x.f1], [v], rfl, rfl, ⟨v, rfl, g⟩⟩⟩
theorem atO {w : World} {A : Option Addr} {n : Nat} {xs : List Occ} (h : kO.C w A n xs) (k : Nat) (hk : k < n) :
    ∃ ad A2 c2, A = some ad ∧ w.cell? (ad.add (k * 3)) = some (.int .i64 (xs.getD k zO).f0) ∧ w.cell? ⟨(ad.add (k * 3)).block, (ad.add (k * 3)).off + 1, none⟩ = some (.int .i64 (xs.getD k zO).f1) ∧ w.cell? ⟨(ad.add (k * 3)).block, (ad.add (k * 3)).off + 2, none⟩ = some (.slice A2 (xs.getD k zO).f2.length c2) ∧
      (xs.getD k zO).f2.length ≤ c2 ∧ (Kd.int .i64).C w A2 (xs.getD k zO).f2.length (xs.getD k zO).f2 := by
  obtain ⟨ad, c, e, _, hK, hc⟩ := Kd.C_get h zO (k : Int) (by omega) (by omega)
  rw [Int.toNat_natCast] at hK hc
  have hc' : ∀ j u, c[j]? = some u → w.cell? (ad.add (k * 3 + j)) = some u := hc
  obtain ⟨A2, c2, rfl, l, g⟩ := kO_open hK
  exact ⟨ad, A2, c2, e, hc' 0 _ rfl, by rw [← add_field _ _ 1 (by omega)]; exact hc' 1 _ rfl, by rw [← add_field _ _ 2 (by omega)]; exact hc' 2 _ rfl, l, g⟩
/-- an occurrence as it is handed over, and what it reads -/
def IsO (w : World) (x : Occ) (A : Option Addr) (c : Nat) : Prop := x.f2.length ≤ c ∧ (Kd.int .i64).C w A x.f2.length x.f2
theorem IsO.below {w w' : World} {x : Occ} {A : Option Addr} {c : Nat} (h : IsO w x A c) (hb : Below w.heap.size w w') : IsO w' x A c := ⟨h.1, Kd.C_below h.2 hb⟩

/-! worlds behind W: new blocks, what was is as it was -/
def Ext (W : World) : Type := { w' : World // Below W.heap.size W w' }
instance (W : World) : Nonempty (Ext W) := ⟨⟨W, Below.refl _ _⟩⟩
theorem cellE {W : World} {p : Addr} {v : Value} (h : W.cell? p = some v) (s : Ext W) : s.1.cell? p = some v := pw_cell_below s.2 h
theorem IsO.ext {W : World} {x : Occ} {A : Option Addr} {c : Nat} (h : IsO W x A c) (s : Ext W) : IsO s.1 x A c := h.below s.2
section
variable {P : Program}
theorem calls_ext {f : FuncId} {args : Array Value} {W : World} {s : Ext W} {v : Value} (h : Calls P f args s.1 fun e w' => e = .returned v ∧ Below s.1.heap.size s.1 w') : Calls P f args s.1 fun e w'' => e = .returned v ∧ ∃ s' : Ext W, w'' = s'.1 :=
  h.mono fun _ w'' ⟨he, hb⟩ => ⟨he, ⟨w'', below_then s.2 s.2.size hb⟩, rfl⟩
/-- A region whose operations read what was, and whose calls leave it: one walk, in the order of the text. -/
theorem region_ext {id : Nat} {Q : Exit → Act → World → Prop} {a : Act} {w W : World} {l : List Oper} (hb : Below W.heap.size W w) (hm : P.follows .mixedOrders = true) (hB : Region.lexB .any l.toArray = true)
    (h : wpQuiet P l.toArray (fun w' => ∃ s : Ext W, w' = s.1) (fun a' => ∀ w', (∃ s : Ext W, w' = s.1) → Q .normal a' w') l a) : (Code.region id l.toArray true).wp P Q a w :=
  wp_region_quiet (C := fun w' => ∃ s : Ext W, w' = s.1) hm hB ⟨⟨w.drew, below_drew hb⟩, rfl⟩ (by simpa using h)
end

/-! what came in, read by its kind -/
section
variable {H : Type} (enc : TypeId × Value → H) (P : Program) (w : World) (base : Nat) (spare : Nat → Bool) (held : Bool)
/-- whatever can be read at type t is of kind d, and ok -/
def Opn {α : Type} (t : TypeId) (d : Kd α) (ok : α → Prop) : Prop :=
  ∀ fuel cs x, DataW.trod enc P w base spare held fuel t cs = some x → ∃ a, d.K w a cs ∧ ok a
end
section
variable {H : Type} {enc : TypeId × Value → H} {P : Program} {w : World} {base : Nat} {spare : Nat → Bool} {held : Bool}
theorem opn_int {t : TypeId} {k : IntKind} (ht : P.underlying t = some (.int k)) : Opn enc P w base spare held t (Kd.int k) (fun n => (Lit.int k n).wf = true) := by
  intro fuel cs x h
  cases fuel with
  | zero => simp [DataW.trod] at h
  | succ f =>
    rw [DataW.trod_step] at h
    unfold DataW.trodStep at h
    rw [ht] at h
    split at h <;> simp_all
    rename_i heq
    obtain ⟨rfl⟩ := heq
    exact ⟨_, by rw [← h.1.1]; rfl, h.1.2⟩
theorem list_of {α : Type} {Q : Nat → α → Prop} : ∀ len, (∀ i, i < len → ∃ y, Q i y) → ∃ l : List α, l.length = len ∧ ∀ i y, l[i]? = some y → Q i y
  | 0, _ => ⟨[], rfl, fun i y h => by simp at h⟩
  | k + 1, hall => by
    obtain ⟨l, hll, hl2⟩ := list_of k (fun i hi => hall i (by omega))
    obtain ⟨y, hy⟩ := hall k (by omega)
    refine ⟨l ++ [y], by simp [hll], fun i z hz => ?_⟩
    by_cases hi : i < l.length
    · rw [List.getElem?_append_left hi] at hz
      exact hl2 i z hz
    · rw [List.getElem?_append_right (by omega)] at hz
      have hik : i = k := by
        have := (List.getElem?_eq_some_iff.1 hz).1
        simp at this
        omega
      subst hik
      have : y = z := by rw [hll] at hz; simpa using hz
      subst this
      exact hy
theorem opn_slice {α : Type} {t e e0 : TypeId} {d : Kd α} {ok : α → Prop} (ht : P.underlying t = some (.slice e)) (hc : P.cellsOf e = d.sz) (hd : Opn enc P w base spare held e d ok) :
    Opn enc P w base spare held t (Kd.slice e0 d) (fun l => ∀ x ∈ l, ok x) := by
  intro fuel cs x h
  rcases Go.Deep.open_slice ht h with ⟨rfl, _⟩ | ⟨a, len, cap, m, n, D, Pl, rfl, hb, hl, hm, hmm, _, hx⟩
  · exact ⟨[], ⟨none, 0, rfl, Nat.le_refl _, rfl, by simp, fun h => by simp at h⟩, by simp⟩
  · have hlm : len ≤ m := by subst hmm; split <;> omega
    have hall : ∀ i, i < len → ∃ (y : α) (c : List Value), d.K w y c ∧ ok y ∧ c.length = d.sz ∧ ∀ j u, c[j]? = some u → w.cell? (a.add (i * d.sz + j)) = some u := by
      intro i hi
      obtain ⟨c, h1, h2⟩ := hx i (by omega)
      obtain ⟨y, hK, hok⟩ := hd _ _ _ h2
      rw [hc] at h1
      obtain ⟨_, hlen, hcell⟩ := World.cells?_some h1
      refine ⟨y, c, hK, hok, hlen, fun j u hj => ?_⟩
      have hjl : j < c.length := (List.getElem?_eq_some_iff.1 hj).1
      have := hcell j (by omega)
      rw [← add_add]
      rw [hj] at this
      exact this
    obtain ⟨l, hll, hl2⟩ := list_of len hall
    refine ⟨l, ⟨some a, cap, by rw [hll], by omega, rfl, ?_, fun _ => ⟨a, rfl, fun i y hy => ?_⟩⟩, fun y hy => ?_⟩
    · unfold maxLen at hm; omega
    · obtain ⟨c, h1, _, h3, h4⟩ := hl2 i y hy
      exact ⟨c, h3, h1, h4⟩
    · obtain ⟨i, hi⟩ := List.getElem?_of_mem hy
      obtain ⟨c, _, h2, _⟩ := hl2 i y hi
      exact h2
end
end Go.Proofs.YtccenpmaooailaaGreat.Wd
