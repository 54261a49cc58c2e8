/- Plain laws on what is paired: what the program and the reference compute, and that it is one. No program. -/
import Derived.Test.YtjeojdbfpncnkaaPu
set_option linter.unusedVariables false
set_option linter.unusedSimpArgs false
namespace Go.Proofs.Ytjeojdbfpncnkaa.Pv
open Go.Proofs.Ytjeojdbfpncnkaa.Pu

theorem join_comm {x y : Occ} (hx : IsOk x) (hy : IsOk y) : join x y = join y x := by
  unfold join
  rw [uni_comm hx.asc hy.asc, Int.min_comm, Int.max_comm]

/-! one and those that wait -/
def combine (mode : Int) (o : Occ) (l : List Occ) : List Occ × List Occ :=
  if l.length = 0 then ([], [])
  else if mode = 1 then ([join o (l.getD (l.length - 1) zO)], [])
  else if mode = 2 then ([join o (l.getD 0 zO)], l.take 1)
  else if mode = 4 then ([l.foldl join o], l)
  else (putAll [] (l.map (join o)), if mode = 3 then l else [])
def without (l gone : List Occ) : List Occ := l.filter (fun o => !decide (o ∈ gone))
def pick (mode : Int) (l : List Occ) (can : Occ → Bool) : List Occ × List Occ :=
  let s := l.filter can
  if s.length = 0 then (s, l)
  else if mode = 0 then (s, l)
  else if mode = 1 then ([s.getD (s.length - 1) zO], l)
  else if mode = 2 then (s.take 1, l.filter (fun x => !can x || !decide (x = s.getD 0 zO)))
  else (s, l.filter (fun x => !can x))
def make (mode : Int) (s : List Occ) (o : Occ) : List Occ :=
  if s.length = 0 then [] else if mode = 4 then [s.foldl join o] else putAll [] (s.map (fun x => join x o))
theorem putAll_one (o : Occ) : putAll [] [o] = [o] := rfl
theorem getD_mem {l : List Occ} {i : Nat} (h : i < l.length) : l.getD i zO ∈ l := by
  rw [List.getD_eq_getElem?_getD, List.getElem?_eq_getElem h]
  exact List.getElem_mem _
theorem take_one {l : List Occ} (h : ¬ l.length = 0) : l.take 1 = [l.getD 0 zO] := by
  cases l with
  | nil => simp at h
  | cons x xs => rfl
theorem without_nil (l : List Occ) : without l [] = l := by unfold without; exact List.filter_eq_self.2 (by simp)
theorem isOk_fold : ∀ {s : List Occ} {o : Occ}, IsOk o → (∀ x ∈ s, IsOk x) → IsOk (s.foldl join o)
  | [], _, ho, _ => ho
  | x :: xs, o, ho, h => isOk_fold (s := xs) (isOk_join ho (h x (by simp))) (fun y hy => h y (List.mem_cons_of_mem _ hy))
theorem comb_pick {mode : Int} (hm : 0 ≤ mode ∧ mode ≤ 4) {l : List Occ} (hl : AreOk l) {o : Occ} (ho : IsOk o) (can : Occ → Bool) :
    (combine mode o (l.filter can)).1 = make mode (pick mode l can).1 o ∧ without l (combine mode o (l.filter can)).2 = (pick mode l can).2 := by
  have hs : ∀ x ∈ l.filter can, IsOk x := fun x hx => hl.all x (List.mem_filter.1 hx).1
  have hc : ∀ x ∈ l.filter can, can x = true := fun x hx => (List.mem_filter.1 hx).2
  have hmem : ∀ x ∈ l, can x = true → x ∈ l.filter can := fun x hx h => List.mem_filter.2 ⟨hx, h⟩
  unfold combine pick make
  simp only
  generalize l.filter can = s at hs hc hmem
  by_cases h0 : s.length = 0
  · simp only [h0, if_true]
    exact ⟨trivial, without_nil l⟩
  simp only [h0, if_false]
  by_cases h1 : mode = 1
  · subst h1
    simp only [if_true, show ¬ ((1 : Int) = 0) by omega, show ¬ ((1 : Int) = 4) by omega, if_false, List.length_singleton, Nat.one_ne_zero, List.map_cons, List.map_nil]
    refine ⟨?_, without_nil l⟩
    rw [putAll_one, join_comm ho (hs _ (getD_mem (by omega)))]
  by_cases h2 : mode = 2
  · subst h2
    simp only [h1, if_true, show ¬ ((2 : Int) = 0) by omega, show ¬ ((2 : Int) = 4) by omega, if_false]
    have h3 : ¬ ([s.getD 0 zO].length = 0) := by simp
    rw [take_one h0]
    simp only [h3, if_false, List.map_cons, List.map_nil]
    refine ⟨?_, ?_⟩
    · rw [putAll_one, join_comm ho (hs _ (getD_mem (by omega)))]
    · unfold without
      refine List.filter_congr (fun x hx => ?_)
      by_cases e : x = s.getD 0 zO
      · have h5 := hc _ (getD_mem (l := s) (i := 0) (by omega))
        rw [← e] at h5
        have h6 : x ∈ [s.getD 0 zO] := by rw [← e]; simp
        rw [decide_eq_true h6, h5, decide_eq_true e]
        rfl
      · have h6 : ¬ x ∈ [s.getD 0 zO] := fun h => e (List.mem_singleton.1 h)
        rw [decide_eq_false h6, decide_eq_false e]
        simp
  by_cases h4 : mode = 4
  · subst h4
    simp only [show ¬ ((4 : Int) = 1) by omega, show ¬ ((4 : Int) = 2) by omega, show ¬ ((4 : Int) = 0) by omega, if_false, if_true, h0]
    refine ⟨trivial, ?_⟩
    unfold without
    refine List.filter_congr (fun x hx => ?_)
    by_cases e : can x = true
    · simp [hmem x hx e, e]
    · have : x ∉ s := fun h => e (hc x h)
      simp [this, e]
  have hmap : s.map (join o) = s.map (fun x => join x o) := List.map_congr_left (fun x hx => join_comm ho (hs x hx))
  by_cases h3 : mode = 3
  · subst h3
    simp only [h0, if_true, if_false, show ¬ ((3 : Int) = 1) by omega, show ¬ ((3 : Int) = 2) by omega, show ¬ ((3 : Int) = 0) by omega, show ¬ ((3 : Int) = 4) by omega]
    refine ⟨by rw [hmap], ?_⟩
    unfold without
    refine List.filter_congr (fun x hx => ?_)
    by_cases e : can x = true
    · simp [hmem x hx e, e]
    · have : x ∉ s := fun h => e (hc x h)
      simp [this, e]
  · have h00 : mode = 0 := by omega
    subst h00
    simp only [h0, if_true, if_false, show ¬ ((0 : Int) = 1) by omega, show ¬ ((0 : Int) = 2) by omega, show ¬ ((0 : Int) = 3) by omega, show ¬ ((0 : Int) = 4) by omega]
    exact ⟨by rw [hmap], without_nil l⟩
theorem mem_combine {mode : Int} {o : Occ} {s : List Occ} (ho : IsOk o) (hs : ∀ x ∈ s, IsOk x) : ∀ z ∈ (combine mode o s).1, IsOk z := by
  intro z hz
  unfold combine at hz
  by_cases h0 : s.length = 0
  · simp [h0] at hz
  simp only [h0, if_false] at hz
  split at hz
  · rw [List.mem_singleton.1 hz]; exact isOk_join ho (hs _ (getD_mem (by omega)))
  split at hz
  · rw [List.mem_singleton.1 hz]; exact isOk_join ho (hs _ (getD_mem (by omega)))
  split at hz
  · rw [List.mem_singleton.1 hz]; exact isOk_fold ho hs
  · rcases (mem_putAll z _ _).1 hz with e | e
    · simp at e
    · obtain ⟨x, hx, rfl⟩ := List.mem_map.1 e
      exact isOk_join ho (hs x hx)
theorem areOk_combine {mode : Int} {o : Occ} {s : List Occ} (ho : IsOk o) (hs : ∀ x ∈ s, IsOk x) : AreOk (combine mode o s).1 := by
  refine ⟨?_, mem_combine ho hs⟩
  unfold combine
  by_cases h0 : s.length = 0
  · simp [h0, Sorted]
  simp only [h0, if_false]
  split
  · simp [Sorted]
  split
  · simp [Sorted]
  split
  · simp [Sorted]
  · exact sorted_putAll List.Pairwise.nil
theorem comb_nil {mode : Int} {o : Occ} {s : List Occ} : (combine mode o s).1.length = 0 ↔ s.length = 0 := by
  unfold combine
  by_cases h0 : s.length = 0
  · simp [h0]
  simp only [h0, if_false, iff_false]
  split
  · simp
  split
  · simp
  split
  · simp
  · intro h
    obtain ⟨x, hx⟩ : ∃ x, x ∈ s := by
      cases s with
      | nil => simp at h0
      | cons x xs => exact ⟨x, by simp⟩
    have : join o x ∈ putAll [] (s.map (join o)) := (mem_putAll _ _ _).2 (.inr (List.mem_map.2 ⟨x, hx, rfl⟩))
    have h2 := List.length_pos_of_mem this
    simp only at h
    omega
theorem areOk_without {l gone : List Occ} (h : AreOk l) : AreOk (without l gone) := h.filter _
theorem areOk_pick {mode : Int} {l : List Occ} (h : AreOk l) (can : Occ → Bool) : AreOk (pick mode l can).2 := by
  unfold pick
  simp only
  split
  · exact h
  split
  · exact h
  split
  · exact h
  split
  · exact h.filter _
  · exact h.filter _
theorem pick_ok {mode : Int} {l : List Occ} (h : AreOk l) (can : Occ → Bool) : ∀ x ∈ (pick mode l can).1, IsOk x := by
  intro x hx
  have hs : ∀ x ∈ l.filter can, IsOk x := fun x hx => h.all x (List.mem_filter.1 hx).1
  unfold pick at hx
  simp only at hx
  generalize l.filter can = s at hs hx
  split at hx
  · exact hs x hx
  split at hx
  · exact hs x hx
  split at hx
  · rw [List.mem_singleton.1 hx]; exact hs _ (getD_mem (by omega))
  split at hx
  · exact hs x (List.mem_of_mem_take hx)
  · exact hs x hx

/-! a sequence -/
def before (o : Occ) : Occ → Bool := fun s => decide (s.f1 < o.f0)
def seqStep (mode : Int) (st : List Occ × List Occ) (o : Occ) : List Occ × List Occ :=
  (without st.1 (combine mode o (st.1.filter (before o))).2, putAll st.2 (combine mode o (st.1.filter (before o))).1)
def seqI (mode : Int) (l : List Occ) (left right : List Occ) : List Occ × List Occ :=
  (putAll (right.foldl (seqStep mode) (l, [])).1 left, (right.foldl (seqStep mode) (l, [])).2)
def seqStepS (mode : Int) (st : List Occ × List Occ) (o : Occ) : List Occ × List Occ :=
  ((pick mode st.1 (before o)).2, putAll st.2 (make mode (pick mode st.1 (before o)).1 o))
def seqS (mode : Int) (l : List Occ) (left right : List Occ) : List Occ × List Occ :=
  (putAll (right.foldl (seqStepS mode) (l, [])).1 left, (right.foldl (seqStepS mode) (l, [])).2)
theorem seqStep_eq {mode : Int} (hm : 0 ≤ mode ∧ mode ≤ 4) {st : List Occ × List Occ} (h : AreOk st.1) {o : Occ} (ho : IsOk o) : seqStep mode st o = seqStepS mode st o := by
  obtain ⟨h1, h2⟩ := comb_pick hm h ho (before o)
  unfold seqStep seqStepS
  rw [h1, h2]
theorem seqStep_ok {mode : Int} {st : List Occ × List Occ} (h : AreOk st.1) (h2 : AreOk st.2) {o : Occ} (ho : IsOk o) : AreOk (seqStep mode st o).1 ∧ AreOk (seqStep mode st o).2 :=
  ⟨areOk_without h, h2.putAll (mem_combine ho (fun x hx => h.all x (List.mem_filter.1 hx).1))⟩
theorem seqFold {mode : Int} (hm : 0 ≤ mode ∧ mode ≤ 4) : ∀ {right : List Occ} {st : List Occ × List Occ}, AreOk st.1 → AreOk st.2 → (∀ o ∈ right, IsOk o) →
    right.foldl (seqStep mode) st = right.foldl (seqStepS mode) st ∧ AreOk (right.foldl (seqStep mode) st).1 ∧ AreOk (right.foldl (seqStep mode) st).2
  | [], _, h1, h2, _ => ⟨rfl, h1, h2⟩
  | o :: os, st, h1, h2, h => by
    have ho := h o (by simp)
    obtain ⟨h3, h4⟩ := seqStep_ok (mode := mode) h1 h2 ho
    obtain ⟨h5, h6⟩ := seqFold hm (right := os) h3 h4 (fun x hx => h x (List.mem_cons_of_mem _ hx))
    rw [List.foldl_cons, List.foldl_cons, ← seqStep_eq hm h1 ho]
    exact ⟨h5, h6⟩
theorem seqI_eq {mode : Int} (hm : 0 ≤ mode ∧ mode ≤ 4) {l left right : List Occ} (hl : AreOk l) (hr : ∀ o ∈ right, IsOk o) : seqI mode l left right = seqS mode l left right := by
  unfold seqI seqS
  rw [(seqFold hm (st := (l, [])) hl AreOk.nil hr).1]
theorem seqI_ok {mode : Int} (hm : 0 ≤ mode ∧ mode ≤ 4) {l left right : List Occ} (hl : AreOk l) (hle : ∀ o ∈ left, IsOk o) (hr : ∀ o ∈ right, IsOk o) : AreOk (seqI mode l left right).1 ∧ AreOk (seqI mode l left right).2 := by
  obtain ⟨_, h1, h2⟩ := seqFold hm (st := (l, [])) hl AreOk.nil hr
  exact ⟨h1.putAll hle, h2⟩

/-! a conjunction -/
def stow (mode : Int) (l : List Occ) (o : Occ) (alone : Bool) : List Occ := if mode = 1 then [o] else if mode = 0 ∨ alone = true then put l o else l
/-- own side, other side, found -/
structure Sides where
  own : List Occ
  oth : List Occ
  out : List Occ
def andStep (mode : Int) (st : Sides) (o : Occ) : Sides :=
  ⟨stow mode st.own o (decide ((combine mode o st.oth).1.length = 0)), without st.oth (combine mode o st.oth).2, putAll st.out (combine mode o st.oth).1⟩
def whole : Occ → Bool := fun _ => true
def stowS (mode : Int) (l : List Occ) (o : Occ) (alone : Bool) : List Occ := if mode = 0 then put l o else if mode = 1 then [o] else if alone = true then put l o else l
def andStepS (mode : Int) (st : Sides) (o : Occ) : Sides :=
  ⟨stowS mode st.own o (decide ((pick mode st.oth whole).1.length = 0)), (pick mode st.oth whole).2, putAll st.out (make mode (pick mode st.oth whole).1 o)⟩
def flip (st : Sides) : Sides := ⟨st.oth, st.own, st.out⟩
def andI (mode : Int) (l r : List Occ) (left right : List Occ) : Sides := flip (right.foldl (andStep mode) (flip (left.foldl (andStep mode) ⟨l, r, []⟩)))
def andS (mode : Int) (l r : List Occ) (left right : List Occ) : Sides := flip (right.foldl (andStepS mode) (flip (left.foldl (andStepS mode) ⟨l, r, []⟩)))
theorem filter_whole (l : List Occ) : l.filter whole = l := List.filter_eq_self.2 (fun _ _ => rfl)
theorem pick_nil {mode : Int} {l : List Occ} : (pick mode l whole).1.length = 0 ↔ l.length = 0 := by
  unfold pick
  simp only [filter_whole]
  by_cases h0 : l.length = 0
  · simp [h0]
  simp only [h0, if_false, iff_false]
  split
  · exact h0
  split
  · simp
  split
  · rw [List.length_take]; omega
  · exact h0
theorem store_eq {mode : Int} {l : List Occ} {o : Occ} {a : Bool} : stow mode l o a = stowS mode l o a := by
  unfold stow stowS
  by_cases h0 : mode = 0
  · subst h0; simp
  · by_cases h1 : mode = 1
    · subst h1; simp
    · simp [h0, h1]
structure SidesOk (st : Sides) : Prop where
  own : AreOk st.own
  oth : AreOk st.oth
  out : AreOk st.out
theorem andStep_eq {mode : Int} (hm : 0 ≤ mode ∧ mode ≤ 4) {st : Sides} (h : SidesOk st) {o : Occ} (ho : IsOk o) : andStep mode st o = andStepS mode st o := by
  obtain ⟨h1, h2⟩ := comb_pick hm h.oth ho whole
  rw [filter_whole] at h1 h2
  unfold andStep andStepS
  have h3 : decide ((combine mode o st.oth).1.length = 0) = decide ((pick mode st.oth whole).1.length = 0) := by
    rw [decide_eq_decide, comb_nil, pick_nil]
  rw [h3, h1, h2, store_eq]
theorem areOk_store {mode : Int} {l : List Occ} {o : Occ} {a : Bool} (h : AreOk l) (ho : IsOk o) : AreOk (stow mode l o a) := by
  unfold stow
  split
  · exact ⟨by simp [Sorted], fun x hx => by rw [List.mem_singleton.1 hx]; exact ho⟩
  split
  · exact h.put ho
  · exact h
theorem andStep_ok {mode : Int} {st : Sides} (h : SidesOk st) {o : Occ} (ho : IsOk o) : SidesOk (andStep mode st o) :=
  ⟨areOk_store h.own ho, areOk_without h.oth, h.out.putAll (mem_combine ho h.oth.all)⟩
theorem andFold {mode : Int} (hm : 0 ≤ mode ∧ mode ≤ 4) : ∀ {xs : List Occ} {st : Sides}, SidesOk st → (∀ o ∈ xs, IsOk o) → xs.foldl (andStep mode) st = xs.foldl (andStepS mode) st ∧ SidesOk (xs.foldl (andStep mode) st)
  | [], _, h1, _ => ⟨rfl, h1⟩
  | o :: os, st, h1, h => by
    have ho := h o (by simp)
    obtain ⟨h5, h6⟩ := andFold hm (xs := os) (andStep_ok (mode := mode) h1 ho) (fun x hx => h x (List.mem_cons_of_mem _ hx))
    rw [List.foldl_cons, List.foldl_cons, ← andStep_eq hm h1 ho]
    exact ⟨h5, h6⟩
theorem SidesOk.flip {st : Sides} (h : SidesOk st) : SidesOk (flip st) := ⟨h.oth, h.own, h.out⟩
theorem andI_eq {mode : Int} (hm : 0 ≤ mode ∧ mode ≤ 4) {l r left right : List Occ} (hl : AreOk l) (hr : AreOk r) (hle : ∀ o ∈ left, IsOk o) (hri : ∀ o ∈ right, IsOk o) : andI mode l r left right = andS mode l r left right ∧ SidesOk (andI mode l r left right) := by
  unfold andI andS
  obtain ⟨h1, h2⟩ := andFold hm (st := ⟨l, r, []⟩) ⟨hl, hr, AreOk.nil⟩ hle
  obtain ⟨h3, h4⟩ := andFold hm h2.flip hri
  rw [← h1, ← h3]
  exact ⟨rfl, h4.flip⟩

/-! lengths -/
theorem len_put1 (l : List Occ) (o : Occ) : (put l o).length ≤ l.length + 1 := by
  induction l with
  | nil => simp [put]
  | cons x l ih =>
    unfold put
    repeat' split
    all_goals simp
    all_goals try omega
theorem len_putAll1 (l : List Occ) : ∀ os : List Occ, (putAll l os).length ≤ l.length + os.length := by
  intro os
  induction os generalizing l with
  | nil => simp [putAll]
  | cons x os ih =>
    rw [putAll]
    have := ih (put l x)
    have := len_put1 l x
    simp only [List.length_cons]
    omega
theorem len_combine (mode : Int) (o : Occ) (s : List Occ) : (combine mode o s).1.length ≤ s.length := by
  unfold combine
  split
  · simp
  split
  · simp; omega
  split
  · simp; omega
  split
  · simp; omega
  · have := len_putAll1 [] (s.map (join o))
    simpa using this
theorem len_without (l g : List Occ) : (without l g).length ≤ l.length := List.length_filter_le _ _
theorem gone_sub {mode : Int} {o : Occ} {s : List Occ} (hs : Sorted s) : Sorted (combine mode o s).2 := by
  unfold combine
  split
  · simp [Sorted]
  split
  · simp [Sorted]
  split
  · exact hs.sublist (List.take_sublist _ _)
  split
  · exact hs
  · simp only
    split
    · exact hs
    · simp [Sorted]
theorem len_gone (mode : Int) (o : Occ) (s : List Occ) : (combine mode o s).2.length ≤ s.length := by
  unfold combine
  split
  · simp
  split
  · simp
  split
  · exact List.length_take_le' _ _
  split
  · exact Nat.le_refl _
  · simp only
    split
    · exact Nat.le_refl _
    · simp
theorem len_store (mode : Int) (l : List Occ) (o : Occ) (a : Bool) : (stow mode l o a).length ≤ l.length + 1 := by
  unfold stow
  split
  · simp
  split
  · exact len_put1 l o
  · omega
theorem foldl_take {α : Type} (f : α → Occ → α) (a : α) (l : List Occ) (k : Nat) (h : k < l.length) : (l.take (k + 1)).foldl f a = f ((l.take k).foldl f a) (l.getD k zO) := by
  rw [List.take_add_one, List.foldl_append, List.getD_eq_getElem?_getD, List.getElem?_eq_getElem h]
  rfl

/-! all points in time -/
def atT (l : List Occ) (t : Int) : List Occ := l.filter (fun o => decide (o.f1 = t))
def tms (l : List Occ) : List Int := ((List.range 2000).map (fun n : Nat => (n : Int) + 1)).filter (fun t => l.any (fun o => decide (o.f1 = t)))
theorem asc_tms (l : List Occ) : Asc (tms l) := by
  unfold tms Asc
  refine List.Pairwise.filter _ (List.pairwise_map.2 ?_)
  exact List.Pairwise.imp (fun h => by omega) List.pairwise_lt_range
theorem mem_tms {l : List Occ} (h : ∀ o ∈ l, IsOk o) (z : Int) : z ∈ tms l ↔ ∃ o ∈ l, o.f1 = z := by
  unfold tms
  simp only [List.mem_filter, List.mem_map, List.mem_range, List.any_eq_true, decide_eq_true_eq]
  constructor
  · rintro ⟨_, h⟩; exact h
  · rintro ⟨o, ho, rfl⟩
    have h1 := (h o ho).f1; have h2 := (h o ho).ft; have h3 := (h o ho).t2
    exact ⟨⟨(o.f1 - 1).toNat, by omega, by omega⟩, o, ho, rfl⟩
theorem tms_of {l : List Occ} (h : ∀ o ∈ l, IsOk o) {r : List Int} (hr : Asc r) (hm : ∀ z, z ∈ r ↔ ∃ o ∈ l, o.f1 = z) : r = tms l := asc_ext hr (asc_tms l) (fun z => by rw [hm, mem_tms h])
end Go.Proofs.Ytjeojdbfpncnkaa.Pv
