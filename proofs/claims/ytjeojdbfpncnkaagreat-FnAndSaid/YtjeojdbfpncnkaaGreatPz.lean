
/- What a conjunction finds over all points in time: plain laws. No program. -/
import Derived.Test.YtjeojdbfpncnkaaGreatB7
set_option linter.unusedVariables false
set_option linter.unusedSimpArgs false
namespace Go.Proofs.YtjeojdbfpncnkaaGreat.Pz
open Go.Proofs.YtjeojdbfpncnkaaGreat.Pu Go.Proofs.YtjeojdbfpncnkaaGreat.Pv Go.Proofs.YtjeojdbfpncnkaaGreat.Ig Go.Proofs.YtjeojdbfpncnkaaGreat.Ih Go.Proofs.YtjeojdbfpncnkaaGreat.Ik Go.Proofs.YtjeojdbfpncnkaaGreat.Il Go.Proofs.YtjeojdbfpncnkaaGreat.Pw Go.Proofs.YtjeojdbfpncnkaaGreat.Px

def ev (mode : Int) (st : Sides) (e : Bool × Occ) : Sides := if e.1 then Pv.flip (andStep mode (Pv.flip st) e.2) else andStep mode st e.2
def evs (a b : List Occ) (ts : List Int) : List (Bool × Occ) := ts.flatMap fun t => (atT a t).map (Prod.mk false) ++ (atT b t).map (Prod.mk true)
theorem ev_left (mode : Int) (st : Sides) (o : Occ) : ev mode st (false, o) = andStep mode st o := rfl
theorem ev_right (mode : Int) (st : Sides) (o : Occ) : ev mode st (true, o) = Pv.flip (andStep mode (Pv.flip st) o) := rfl
theorem fold_left {mode : Int} : ∀ (os : List Occ) (st : Sides), (os.map (Prod.mk false)).foldl (ev mode) st = os.foldl (andStep mode) st
  | [], _ => rfl
  | o :: os, st => by rw [List.map_cons, List.foldl_cons, List.foldl_cons, ev_left]; exact fold_left os _
theorem fold_right {mode : Int} : ∀ (os : List Occ) (st : Sides), (os.map (Prod.mk true)).foldl (ev mode) st = Pv.flip (os.foldl (andStep mode) (Pv.flip st))
  | [], _ => rfl
  | o :: os, st => by rw [List.map_cons, List.foldl_cons, List.foldl_cons, ev_right, fold_right os]; rfl
theorem andI_ev {mode : Int} {l r left right : List Occ} : andI mode l r left right = (left.map (Prod.mk false) ++ right.map (Prod.mk true)).foldl (ev mode) ⟨l, r, []⟩ := by
  rw [List.foldl_append, fold_left, fold_right]
  rfl
theorem ev_any {mode : Int} {l r : List Occ} (e : Bool × Occ) : ∃ l' r' f, ∀ out, ev mode ⟨l, r, out⟩ e = ⟨l', r', putAll out f⟩ := by
  obtain ⟨s, o⟩ := e
  cases s with
  | false => exact ⟨stow mode l o (decide ((combine mode o r).1.length = 0)), without r (combine mode o r).2, (combine mode o r).1, fun out => rfl⟩
  | true => exact ⟨without l (combine mode o l).2, stow mode r o (decide ((combine mode o l).1.length = 0)), (combine mode o l).1, fun out => rfl⟩
theorem ev_out {mode : Int} : ∀ (es : List (Bool × Occ)) (l r out : List Occ), Sorted out → es.foldl (ev mode) ⟨l, r, out⟩ = ⟨(es.foldl (ev mode) ⟨l, r, []⟩).own, (es.foldl (ev mode) ⟨l, r, []⟩).oth, putAll out (es.foldl (ev mode) ⟨l, r, []⟩).out⟩
  | [], _, _, _, _ => rfl
  | e :: es, l, r, out, h => by
    obtain ⟨l', r', f, hf⟩ := ev_any (mode := mode) (l := l) (r := r) e
    rw [List.foldl_cons, List.foldl_cons, hf, hf, ev_out es l' r' (putAll out f) (sorted_putAll h), ev_out es l' r' (putAll [] f) (sorted_putAll (by simp [Sorted]))]
    simp only
    rw [putAll_putAll h]
theorem both_ev {mode : Int} {a b : List Occ} : ∀ (ts : List Int) (st : P3), Sorted st.c → (ts.foldl (bothStep (and3 mode) a b) st).c = ((evs a b ts).foldl (ev mode) ⟨st.a, st.b, st.c⟩).out
  | [], _, _ => rfl
  | t :: ts, st, h => by
    have e : evs a b (t :: ts) = ((atT a t).map (Prod.mk false) ++ (atT b t).map (Prod.mk true)) ++ evs a b ts := rfl
    have hb : bothStep (and3 mode) a b st t = ⟨(andI mode st.a st.b (atT a t) (atT b t)).own, (andI mode st.a st.b (atT a t) (atT b t)).oth, putAll st.c (andI mode st.a st.b (atT a t) (atT b t)).out⟩ := rfl
    rw [List.foldl_cons, both_ev ts _ (by rw [hb]; exact sorted_putAll h), hb, e, List.foldl_append, ev_out _ st.a st.b st.c h, ← andI_ev]
def an (mode : Int) (a b : List Occ) : List Occ := (both (and3 mode) a b (tms (a ++ b))).c
theorem an_ev {mode : Int} {a b : List Occ} : an mode a b = ((evs a b (tms (a ++ b))).foldl (ev mode) ⟨[], [], []⟩).out := both_ev _ _ (by simp [Sorted])
theorem mem_evs {a b : List Occ} {ts : List Int} {s : Bool} {o : Occ} : (s, o) ∈ evs a b ts ↔ o.f1 ∈ ts ∧ (if s then o ∈ b else o ∈ a) := by
  unfold evs
  rw [List.mem_flatMap]
  constructor
  · rintro ⟨t, ht, h⟩
    rcases List.mem_append.1 h with h | h
    · obtain ⟨x, hx, e⟩ := List.mem_map.1 h
      cases e
      obtain ⟨h1, h2⟩ := List.mem_filter.1 hx
      have : o.f1 = t := by simpa using h2
      exact ⟨by rw [this]; exact ht, by simpa using h1⟩
    · obtain ⟨x, hx, e⟩ := List.mem_map.1 h
      cases e
      obtain ⟨h1, h2⟩ := List.mem_filter.1 hx
      have : o.f1 = t := by simpa using h2
      exact ⟨by rw [this]; exact ht, by simpa using h1⟩
  · rintro ⟨ht, h⟩
    refine ⟨o.f1, ht, ?_⟩
    cases s with
    | false => exact List.mem_append.2 (.inl (List.mem_map.2 ⟨o, List.mem_filter.2 ⟨by simpa using h, by simp⟩, rfl⟩))
    | true => exact List.mem_append.2 (.inr (List.mem_map.2 ⟨o, List.mem_filter.2 ⟨by simpa using h, by simp⟩, rfl⟩))
theorem mem_left {a b : List Occ} (ka : AreOk a) (kb : AreOk b) {x : Occ} : (false, x) ∈ evs a b (tms (a ++ b)) ↔ x ∈ a := by
  rw [mem_evs]
  have hab : ∀ o ∈ a ++ b, IsOk o := fun o ho => (List.mem_append.1 ho).elim (ka.all o) (kb.all o)
  exact ⟨fun h => by simpa using h.2, fun h => ⟨(mem_tms hab _).2 ⟨x, List.mem_append.2 (.inl h), rfl⟩, by simpa using h⟩⟩
theorem mem_right {a b : List Occ} (ka : AreOk a) (kb : AreOk b) {x : Occ} : (true, x) ∈ evs a b (tms (a ++ b)) ↔ x ∈ b := by
  rw [mem_evs]
  have hab : ∀ o ∈ a ++ b, IsOk o := fun o ho => (List.mem_append.1 ho).elim (ka.all o) (kb.all o)
  exact ⟨fun h => by simpa using h.2, fun h => ⟨(mem_tms hab _).2 ⟨x, List.mem_append.2 (.inr h), rfl⟩, by simpa using h⟩⟩
theorem mem_stow {mode : Int} {l : List Occ} {o z : Occ} {al : Bool} (h : z ∈ stow mode l o al) : z = o ∨ z ∈ l := by
  unfold stow at h
  split at h
  · exact .inl (by simpa using h)
  · split at h
    · exact (mem_put o z l).1 h
    · exact .inr h
theorem stow_alone {mode : Int} {l : List Occ} {o : Occ} : stow mode l o true ≠ [] := by
  unfold stow
  split
  · simp
  · rw [if_pos (.inr rfl)]
    exact List.ne_nil_of_mem ((mem_put o o l).2 (.inl rfl))
/-! what is found comes of one of each -/
structure Sub (a b : List Occ) (st : Sides) : Prop where
  own : ∀ x ∈ st.own, x ∈ a
  oth : ∀ x ∈ st.oth, x ∈ b
theorem sub_step {mode : Int} {a b : List Occ} {st : Sides} (h : Sub a b st) {o : Occ} (ho : o ∈ a) : Sub a b (andStep mode st o) :=
  ⟨fun x hx => (mem_stow hx).elim (fun e => e ▸ ho) (h.own x), fun x hx => h.oth x (mem_without.1 hx).1⟩
theorem Sub.flip {a b : List Occ} {st : Sides} (h : Sub a b st) : Sub b a (Pv.flip st) := ⟨h.oth, h.own⟩
theorem sub_ev {mode : Int} {a b : List Occ} {st : Sides} (h : Sub a b st) {e : Bool × Occ} (he : if e.1 then e.2 ∈ b else e.2 ∈ a) : Sub a b (ev mode st e) := by
  obtain ⟨s, o⟩ := e
  cases s with
  | false => exact sub_step h (by simpa using he)
  | true => exact (sub_step h.flip (by simpa using he)).flip
theorem from_ev {mode : Int} (h4 : mode ≠ 4) {a b : List Occ} (ka : AreOk a) (kb : AreOk b) : ∀ (es : List (Bool × Occ)) (st : Sides), (∀ e ∈ es, if e.1 then e.2 ∈ b else e.2 ∈ a) → Sub a b st → ∀ z, z ∈ (es.foldl (ev mode) st).out → z ∈ st.out ∨ ∃ x ∈ a, ∃ y ∈ b, z = join x y
  | [], _, _, _, _, h => .inl h
  | (s, o) :: es, st, he, hs, z, h => by
    have h0 := he _ (List.mem_cons_self ..)
    rcases from_ev h4 ka kb es (ev mode st (s, o)) (fun e h => he e (List.mem_cons_of_mem _ h)) (sub_ev hs h0) z h with h | h
    · cases s with
      | false =>
        have ho : o ∈ a := by simpa using h0
        rcases (mem_putAll z _ _).1 h with h | h
        · exact .inl h
        · obtain ⟨y, hy, e⟩ := found_sub h4 h
          exact .inr ⟨o, ho, y, hs.oth y hy, e⟩
      | true =>
        have ho : o ∈ b := by simpa using h0
        rcases (mem_putAll z _ _).1 h with h | h
        · exact .inl h
        · obtain ⟨x, hx, e⟩ := found_sub h4 h
          have hx2 := hs.own x hx
          exact .inr ⟨x, hx2, o, ho, by rw [e]; exact join_comm (kb.all o ho) (ka.all x hx2)⟩
    · exact .inr h
theorem evs_in {a b : List Occ} (ka : AreOk a) (kb : AreOk b) : ∀ e ∈ evs a b (tms (a ++ b)), if e.1 then e.2 ∈ b else e.2 ∈ a := fun e he => (mem_evs (s := e.1) (o := e.2).1 he).2
theorem an_from {mode : Int} (h4 : mode ≠ 4) {a b : List Occ} (ka : AreOk a) (kb : AreOk b) {z : Occ} (h : z ∈ an mode a b) : ∃ x ∈ a, ∃ y ∈ b, z = join x y := by
  rw [an_ev] at h
  rcases from_ev h4 ka kb _ ⟨[], [], []⟩ (evs_in ka kb) ⟨by simp, by simp⟩ z h with h | h
  · simp at h
  · exact h
/-! in all ways: each pair -/
theorem out_ev {mode : Int} : ∀ (es : List (Bool × Occ)) (st : Sides) (z : Occ), z ∈ st.out → z ∈ (es.foldl (ev mode) st).out
  | [], _, _, h => h
  | (s, o) :: es, st, z, h => by
    refine out_ev es _ z ?_
    cases s with
    | false => exact (mem_putAll _ _ _).2 (.inl h)
    | true => exact (mem_putAll _ _ _).2 (.inl h)
theorem left0 (st : Sides) (o : Occ) : ev 0 st (false, o) = ⟨put st.own o, st.oth, putAll st.out (combine 0 o st.oth).1⟩ := by
  show andStep 0 st o = _
  unfold andStep stow
  rw [gone_all, without_nil, if_neg (by decide), if_pos (.inl rfl)]
theorem right0 (st : Sides) (o : Occ) : ev 0 st (true, o) = ⟨st.own, put st.oth o, putAll st.out (combine 0 o st.own).1⟩ := by
  show Pv.flip (andStep 0 (Pv.flip st) o) = _
  unfold andStep stow Pv.flip
  rw [gone_all, without_nil, if_neg (by decide), if_pos (.inl rfl)]
theorem own0 : ∀ (es : List (Bool × Occ)) (st : Sides) (x : Occ), x ∈ (es.foldl (ev 0) st).own ↔ x ∈ st.own ∨ (false, x) ∈ es
  | [], _, _ => by simp
  | (s, o) :: es, st, x => by
    rw [List.foldl_cons, own0 es]
    cases s with
    | false =>
      rw [left0, mem_put]
      simp only [List.mem_cons, Prod.mk.injEq, true_and]
      constructor
      · rintro ((h | h) | h) <;> simp [h]
      · rintro (h | h | h) <;> simp [h]
    | true =>
      rw [right0]
      simp
theorem oth0 : ∀ (es : List (Bool × Occ)) (st : Sides) (x : Occ), x ∈ (es.foldl (ev 0) st).oth ↔ x ∈ st.oth ∨ (true, x) ∈ es
  | [], _, _ => by simp
  | (s, o) :: es, st, x => by
    rw [List.foldl_cons, oth0 es]
    cases s with
    | true =>
      rw [right0, mem_put]
      simp only [List.mem_cons, Prod.mk.injEq, true_and]
      constructor
      · rintro ((h | h) | h) <;> simp [h]
      · rintro (h | h | h) <;> simp [h]
    | false =>
      rw [left0]
      simp
/-- a left one, or one that waits on the left already, with a right one, or one that waits there -/
theorem has0 {a b : List Occ} (ka : AreOk a) (kb : AreOk b) : ∀ (es : List (Bool × Occ)) (st : Sides), (∀ e ∈ es, if e.1 then e.2 ∈ b else e.2 ∈ a) → Sub a b st → (∀ x y, x ∈ st.own → y ∈ st.oth → join x y ∈ st.out) → ∀ x y, (x ∈ st.own ∨ (false, x) ∈ es) → (y ∈ st.oth ∨ (true, y) ∈ es) → join x y ∈ (es.foldl (ev 0) st).out
  | [], st, _, _, hp, x, y, hx, hy => hp x y (by simpa using hx) (by simpa using hy)
  | (s, o) :: es, st, he, hs, hp, x, y, hx, hy => by
    have h0 := he _ (List.mem_cons_self ..)
    rw [List.foldl_cons]
    refine has0 ka kb es _ (fun e h => he e (List.mem_cons_of_mem _ h)) (sub_ev hs h0) ?_ x y ?_ ?_
    · intro x y hx hy
      cases s with
      | false =>
        rw [left0] at hx hy ⊢
        rw [mem_putAll]
        rcases (mem_put o x _).1 hx with e | hx
        · rw [e]; exact .inr (found_all hy)
        · exact .inl (hp x y hx hy)
      | true =>
        have ho : o ∈ b := by simpa using h0
        rw [right0] at hx hy ⊢
        rw [mem_putAll]
        rcases (mem_put o y _).1 hy with e | hy
        · rw [e, join_comm (ka.all x (hs.own x hx)) (kb.all o ho)]; exact .inr (found_all hx)
        · exact .inl (hp x y hx hy)
    · cases s with
      | false =>
        rw [left0, mem_put]
        rcases hx with hx | hx
        · exact .inl (.inr hx)
        · rcases List.mem_cons.1 hx with e | hx
          · cases e; exact .inl (.inl rfl)
          · exact .inr hx
      | true =>
        rw [right0]
        rcases hx with hx | hx
        · exact .inl hx
        · rcases List.mem_cons.1 hx with e | hx
          · cases e
          · exact .inr hx
    · cases s with
      | true =>
        rw [right0, mem_put]
        rcases hy with hy | hy
        · exact .inl (.inr hy)
        · rcases List.mem_cons.1 hy with e | hy
          · cases e; exact .inl (.inl rfl)
          · exact .inr hy
      | false =>
        rw [left0]
        rcases hy with hy | hy
        · exact .inl hy
        · rcases List.mem_cons.1 hy with e | hy
          · cases e
          · exact .inr hy
theorem mem_an0 {a b : List Occ} (ka : AreOk a) (kb : AreOk b) {z : Occ} : z ∈ an 0 a b ↔ ∃ x ∈ a, ∃ y ∈ b, z = join x y :=
  ⟨an_from (by decide) ka kb, fun ⟨x, hx, y, hy, e⟩ => by
    rw [e, an_ev]
    exact has0 ka kb _ ⟨[], [], []⟩ (evs_in ka kb) ⟨by simp, by simp⟩ (by simp) x y (.inr ((mem_left ka kb).2 hx)) (.inr ((mem_right ka kb).2 hy))⟩
theorem sorted_ev {mode : Int} : ∀ (es : List (Bool × Occ)) (st : Sides), Sorted st.out → Sorted (es.foldl (ev mode) st).out
  | [], _, h => h
  | (s, o) :: es, st, h => by
    refine sorted_ev es _ ?_
    cases s with
    | false => exact sorted_putAll h
    | true => exact sorted_putAll h
theorem sorted_an {mode : Int} {a b : List Occ} : Sorted (an mode a b) := by rw [an_ev]; exact sorted_ev _ _ (by simp [Sorted])
/-! something is found just if both have something -/
def Seen (st : Sides) (l r : Bool) : Prop := st.out ≠ [] ∨ (r = false ∧ (l = true → st.own ≠ [])) ∨ (l = false ∧ (r = true → st.oth ≠ []))
theorem seen_left {mode : Int} {st : Sides} {l r : Bool} {o : Occ} (h : Seen st l r) : Seen (andStep mode st o) true r := by
  rcases h with h | h
  · left
    obtain ⟨z, hz⟩ := List.exists_mem_of_ne_nil _ h
    exact List.ne_nil_of_mem ((mem_putAll z _ _).2 (.inl hz))
  · by_cases ho : st.oth = []
    · right; left
      have hr : r = false := by
        rcases h with h | h
        · exact h.1
        · cases r with
          | false => rfl
          | true => exact absurd ho (h.2 rfl)
      refine ⟨hr, fun _ => ?_⟩
      have hc : decide ((combine mode o st.oth).1.length = 0) = true := by rw [decide_eq_true_eq, comb_nil, ho]; rfl
      show stow mode st.own o (decide ((combine mode o st.oth).1.length = 0)) ≠ []
      rw [hc]
      exact stow_alone
    · left
      obtain ⟨z, hz⟩ := List.exists_mem_of_ne_nil _ (found_some (mode := mode) (o := o) ho)
      exact List.ne_nil_of_mem ((mem_putAll z _ _).2 (.inr hz))
theorem Seen.flip {st : Sides} {l r : Bool} (h : Seen st l r) : Seen (Pv.flip st) r l := by
  rcases h with h | h | h
  · exact .inl h
  · exact .inr (.inr h)
  · exact .inr (.inl h)
theorem seen_ev {mode : Int} : ∀ (es : List (Bool × Occ)) (st : Sides) (l r : Bool), Seen st l r → Seen (es.foldl (ev mode) st) (l || es.any (fun e => !e.1)) (r || es.any (fun e => e.1))
  | [], _, _, _, h => by simpa using h
  | (s, o) :: es, st, l, r, h => by
    rw [List.foldl_cons]
    cases s with
    | false =>
      have := seen_ev (mode := mode) es (andStep mode st o) true r (seen_left h)
      rw [ev_left]
      simpa using this
    | true =>
      have := seen_ev (mode := mode) es (Pv.flip (andStep mode (Pv.flip st) o)) l true (seen_left h.flip).flip
      rw [ev_right]
      simpa using this
theorem none_left {mode : Int} : ∀ (es : List (Bool × Occ)) (st : Sides), (∀ e ∈ es, e.1 = true) → st.own = [] → st.out = [] → (es.foldl (ev mode) st).out = [] ∧ (es.foldl (ev mode) st).own = []
  | [], _, _, h, g => ⟨g, h⟩
  | (s, o) :: es, st, he, h, g => by
    obtain rfl : s = true := he _ (List.mem_cons_self ..)
    rw [List.foldl_cons]
    refine none_left es _ (fun e h => he e (List.mem_cons_of_mem _ h)) ?_ ?_
    · show without st.own _ = []
      rw [h]; rfl
    · show putAll st.out (combine mode o st.own).1 = []
      rw [h, g]
      rfl
theorem none_right {mode : Int} : ∀ (es : List (Bool × Occ)) (st : Sides), (∀ e ∈ es, e.1 = false) → st.oth = [] → st.out = [] → (es.foldl (ev mode) st).out = [] ∧ (es.foldl (ev mode) st).oth = []
  | [], _, _, h, g => ⟨g, h⟩
  | (s, o) :: es, st, he, h, g => by
    obtain rfl : s = false := he _ (List.mem_cons_self ..)
    rw [List.foldl_cons]
    refine none_right es _ (fun e h => he e (List.mem_cons_of_mem _ h)) ?_ ?_
    · show without st.oth _ = []
      rw [h]; rfl
    · show putAll st.out (combine mode o st.oth).1 = []
      rw [h, g]
      rfl
theorem an_some {mode : Int} {a b : List Occ} (ka : AreOk a) (kb : AreOk b) : an mode a b ≠ [] ↔ a ≠ [] ∧ b ≠ [] := by
  rw [an_ev]
  constructor
  · intro h
    constructor
    · rintro rfl
      exact h (none_left _ ⟨[], [], []⟩ (fun e he => by
        obtain ⟨s, o⟩ := e
        cases s with
        | true => rfl
        | false => have := (mem_left ka kb).1 he; simp at this) rfl rfl).1
    · rintro rfl
      exact h (none_right _ ⟨[], [], []⟩ (fun e he => by
        obtain ⟨s, o⟩ := e
        cases s with
        | false => rfl
        | true => have := (mem_right ka kb).1 he; simp at this) rfl rfl).1
  · rintro ⟨h1, h2⟩
    obtain ⟨x, hx⟩ := List.exists_mem_of_ne_nil _ h1
    obtain ⟨y, hy⟩ := List.exists_mem_of_ne_nil _ h2
    have s1 : (evs a b (tms (a ++ b))).any (fun e => !e.1) = true := List.any_eq_true.2 ⟨_, (mem_left ka kb).2 hx, rfl⟩
    have s2 : (evs a b (tms (a ++ b))).any (fun e => e.1) = true := List.any_eq_true.2 ⟨_, (mem_right ka kb).2 hy, rfl⟩
    have h := seen_ev (mode := mode) (evs a b (tms (a ++ b))) ⟨[], [], []⟩ false false (.inr (.inl ⟨rfl, fun h => by cases h⟩))
    rw [s1, s2] at h
    rcases h with h | h | h
    · exact h
    · exact absurd h.1 (by simp)
    · exact absurd h.1 (by simp)
/-! how many -/
def nL (es : List (Bool × Occ)) : Nat := (es.filter (fun e => !e.1)).length
def nR (es : List (Bool × Occ)) : Nat := (es.filter (fun e => e.1)).length
theorem nL_evs (a b : List Occ) : ∀ ts : List Int, nL (evs a b ts) = sumAt a ts
  | [] => rfl
  | t :: ts => by
    have e : evs a b (t :: ts) = ((atT a t).map (Prod.mk false) ++ (atT b t).map (Prod.mk true)) ++ evs a b ts := rfl
    have ih := nL_evs a b ts
    unfold nL at *
    rw [e, List.filter_append, List.length_append, ih, List.filter_append, List.length_append]
    have e1 : ((atT a t).map (Prod.mk false)).filter (fun e => !e.1) = (atT a t).map (Prod.mk false) := List.filter_eq_self.2 (fun e he => by obtain ⟨x, _, rfl⟩ := List.mem_map.1 he; rfl)
    have e2 : ((atT b t).map (Prod.mk true)).filter (fun e => !e.1) = [] := List.filter_eq_nil_iff.2 (fun e he => by obtain ⟨x, _, rfl⟩ := List.mem_map.1 he; simp)
    rw [e1, e2]
    simp [sumAt]
theorem nR_evs (a b : List Occ) : ∀ ts : List Int, nR (evs a b ts) = sumAt b ts
  | [] => rfl
  | t :: ts => by
    have e : evs a b (t :: ts) = ((atT a t).map (Prod.mk false) ++ (atT b t).map (Prod.mk true)) ++ evs a b ts := rfl
    have ih := nR_evs a b ts
    unfold nR at *
    rw [e, List.filter_append, List.length_append, ih, List.filter_append, List.length_append]
    have e1 : ((atT b t).map (Prod.mk true)).filter (fun e => e.1) = (atT b t).map (Prod.mk true) := List.filter_eq_self.2 (fun e he => by obtain ⟨x, _, rfl⟩ := List.mem_map.1 he; rfl)
    have e2 : ((atT a t).map (Prod.mk false)).filter (fun e => e.1) = [] := List.filter_eq_nil_iff.2 (fun e he => by obtain ⟨x, _, rfl⟩ := List.mem_map.1 he; simp)
    rw [e1, e2]
    simp [sumAt]
structure SortedS (st : Sides) : Prop where
  own : Sorted st.own
  oth : Sorted st.oth
theorem sorted_stow {mode : Int} {l : List Occ} {o : Occ} {al : Bool} (h : Sorted l) : Sorted (stow mode l o al) := by
  unfold stow
  split
  · exact List.pairwise_singleton _ _
  · split
    · exact sorted_put h
    · exact h
theorem sorted_step {mode : Int} {st : Sides} (h : SortedS st) (o : Occ) : SortedS (andStep mode st o) := ⟨sorted_stow h.own, sorted_without h.oth⟩
theorem SortedS.flip {st : Sides} (h : SortedS st) : SortedS (Pv.flip st) := ⟨h.oth, h.own⟩
theorem len_stow_alone (mode : Int) (l : List Occ) (o : Occ) (al : Bool) (hm : mode = 2 ∨ mode = 3) : (stow mode l o al).length ≤ l.length + (if al then 1 else 0) := by
  unfold stow
  rw [if_neg (by omega)]
  cases al with
  | true => rw [if_pos (.inr rfl)]; exact Pv.len_put1 l o
  | false => rw [if_neg (by simp; omega)]; simp
theorem nil_of {l : List Occ} (h : ¬ decide (l.length = 0) = true) : 1 ≤ l.length := by
  rw [decide_eq_true_eq] at h
  omega
/-- as the first that waits: each that is found uses up one of each side -/
theorem first_step {st : Sides} (h : SortedS st) (o : Occ) : (andStep 2 st o).out.length + (andStep 2 st o).own.length ≤ st.out.length + st.own.length + 1 ∧ (andStep 2 st o).out.length + (andStep 2 st o).oth.length ≤ st.out.length + st.oth.length := by
  have h1 := Pv.len_putAll1 st.out (combine 2 o st.oth).1
  have h2 := len_gone' (mode := 2) (.inl rfl) o st.oth
  have h3 := len_without' h.oth (gone_sub (mode := 2) (o := o) (s := st.oth) h.oth) (fun x hx => mem_gone hx)
  have h4 := found_one (mode := 2) (.inr (.inl rfl)) o st.oth
  have h5 := len_stow_alone 2 st.own o (decide ((combine 2 o st.oth).1.length = 0)) (.inl rfl)
  have e1 : (andStep 2 st o).out = putAll st.out (combine 2 o st.oth).1 := rfl
  have e2 : (andStep 2 st o).own = stow 2 st.own o (decide ((combine 2 o st.oth).1.length = 0)) := rfl
  have e3 : (andStep 2 st o).oth = without st.oth (combine 2 o st.oth).2 := rfl
  rw [e1, e2, e3]
  refine ⟨?_, by omega⟩
  by_cases hc : decide ((combine 2 o st.oth).1.length = 0) = true
  · rw [hc] at h5 ⊢
    have h6 : (combine 2 o st.oth).1.length = 0 := by simpa using hc
    simp only [if_true] at h5
    omega
  · have h6 := nil_of hc
    rw [Bool.not_eq_true] at hc
    rw [hc] at h5 ⊢
    simp only [Bool.false_eq_true, if_false] at h5
    omega
theorem first_ev : ∀ (es : List (Bool × Occ)) (st : Sides), SortedS st → (es.foldl (ev 2) st).out.length + (es.foldl (ev 2) st).own.length ≤ st.out.length + st.own.length + nL es ∧ (es.foldl (ev 2) st).out.length + (es.foldl (ev 2) st).oth.length ≤ st.out.length + st.oth.length + nR es
  | [], _, _ => ⟨Nat.le_refl _, Nat.le_refl _⟩
  | (s, o) :: es, st, h => by
    rw [List.foldl_cons]
    cases s with
    | false =>
      have h1 := first_step h o
      have h2 := first_ev es (andStep 2 st o) (sorted_step h o)
      have e1 : nL ((false, o) :: es) = nL es + 1 := by unfold nL; rw [List.filter_cons_of_pos (by rfl)]; rfl
      have e2 : nR ((false, o) :: es) = nR es := by unfold nR; rw [List.filter_cons_of_neg (by simp)]
      rw [e1, e2, ev_left]
      omega
    | true =>
      have h1 := first_step h.flip o
      have h2 := first_ev es (Pv.flip (andStep 2 (Pv.flip st) o)) (sorted_step h.flip o).flip
      have e1 : nR ((true, o) :: es) = nR es + 1 := by unfold nR; rw [List.filter_cons_of_pos (by rfl)]; rfl
      have e2 : nL ((true, o) :: es) = nL es := by unfold nL; rw [List.filter_cons_of_neg (by simp)]
      rw [e1, e2, ev_right]
      simp only [Pv.flip] at h1 h2 ⊢
      omega
theorem an_first {a b : List Occ} : (an 2 a b).length ≤ a.length ∧ (an 2 a b).length ≤ b.length := by
  rw [an_ev]
  have h := first_ev (evs a b (tms (a ++ b))) ⟨[], [], []⟩ ⟨by simp [Sorted], by simp [Sorted]⟩
  rw [nL_evs, nR_evs] at h
  have h1 := sumAt_le (l := a) (asc_tms (a ++ b))
  have h2 := sumAt_le (l := b) (asc_tms (a ++ b))
  simp at h
  omega
theorem sum_ev {mode : Int} (hm : mode = 1 ∨ mode = 2 ∨ mode = 4) : ∀ (es : List (Bool × Occ)) (st : Sides), (es.foldl (ev mode) st).out.length ≤ st.out.length + es.length
  | [], _ => Nat.le_refl _
  | (s, o) :: es, st => by
    rw [List.foldl_cons, List.length_cons]
    have h2 := sum_ev hm es (ev mode st (s, o))
    have h1 : (ev mode st (s, o)).out.length ≤ st.out.length + 1 := by
      cases s with
      | false =>
        have h1 := Pv.len_putAll1 st.out (combine mode o st.oth).1
        have h4 := found_one hm o st.oth
        have e : (ev mode st (false, o)).out = putAll st.out (combine mode o st.oth).1 := rfl
        rw [e]; omega
      | true =>
        have h1 := Pv.len_putAll1 st.out (combine mode o st.own).1
        have h4 := found_one hm o st.own
        have e : (ev mode st (true, o)).out = putAll st.out (combine mode o st.own).1 := rfl
        rw [e]; omega
    omega
theorem len_evs (es : List (Bool × Occ)) : es.length = nL es + nR es := by
  unfold nL nR
  induction es with
  | nil => rfl
  | cons e es ih => cases h : e.1 <;> simp [h] <;> omega
theorem an_sum {a b : List Occ} : (an 4 a b).length ≤ a.length + b.length := by
  rw [an_ev]
  have h := sum_ev (mode := 4) (.inr (.inr rfl)) (evs a b (tms (a ++ b))) ⟨[], [], []⟩
  rw [len_evs, nL_evs, nR_evs] at h
  have h1 := sumAt_le (l := a) (asc_tms (a ++ b))
  have h2 := sumAt_le (l := b) (asc_tms (a ++ b))
  simp at h
  omega
theorem each_step {st : Sides} (h : SortedS st) (o : Occ) : (andStep 3 st o).out.length + (andStep 3 st o).own.length + (andStep 3 st o).oth.length ≤ st.out.length + st.own.length + st.oth.length + 1 := by
  have h1 := Pv.len_putAll1 st.out (combine 3 o st.oth).1
  have h2 := len_gone' (mode := 3) (.inr rfl) o st.oth
  have h3 := len_without' h.oth (gone_sub (mode := 3) (o := o) (s := st.oth) h.oth) (fun x hx => mem_gone hx)
  have h5 := len_stow_alone 3 st.own o (decide ((combine 3 o st.oth).1.length = 0)) (.inr rfl)
  have e1 : (andStep 3 st o).out = putAll st.out (combine 3 o st.oth).1 := rfl
  have e2 : (andStep 3 st o).own = stow 3 st.own o (decide ((combine 3 o st.oth).1.length = 0)) := rfl
  have e3 : (andStep 3 st o).oth = without st.oth (combine 3 o st.oth).2 := rfl
  rw [e1, e2, e3]
  by_cases hc : decide ((combine 3 o st.oth).1.length = 0) = true
  · rw [hc] at h5 ⊢
    simp only [if_true] at h5
    omega
  · rw [Bool.not_eq_true] at hc
    rw [hc] at h5 ⊢
    simp only [Bool.false_eq_true, if_false] at h5
    omega
theorem each_ev : ∀ (es : List (Bool × Occ)) (st : Sides), SortedS st → (es.foldl (ev 3) st).out.length + (es.foldl (ev 3) st).own.length + (es.foldl (ev 3) st).oth.length ≤ st.out.length + st.own.length + st.oth.length + es.length
  | [], _, _ => Nat.le_refl _
  | (s, o) :: es, st, h => by
    rw [List.foldl_cons, List.length_cons]
    cases s with
    | false =>
      have h1 := each_step h o
      have h2 := each_ev es (andStep 3 st o) (sorted_step h o)
      rw [ev_left]
      omega
    | true =>
      have h1 := each_step h.flip o
      have h2 := each_ev es (Pv.flip (andStep 3 (Pv.flip st) o)) (sorted_step h.flip o).flip
      rw [ev_right]
      simp only [Pv.flip] at h1 h2 ⊢
      omega
theorem an_each {a b : List Occ} : (an 3 a b).length ≤ a.length + b.length := by
  rw [an_ev]
  have h := each_ev (evs a b (tms (a ++ b))) ⟨[], [], []⟩ ⟨by simp [Sorted], by simp [Sorted]⟩
  rw [len_evs, nL_evs, nR_evs] at h
  have h1 := sumAt_le (l := a) (asc_tms (a ++ b))
  have h2 := sumAt_le (l := b) (asc_tms (a ++ b))
  simp at h
  omega
theorem an_ok {mode : Int} (hm : 0 ≤ mode ∧ mode ≤ 4) {a b : List Occ} (ka : AreOk a) (kb : AreOk b) (na : a.length ≤ 40) (nb : b.length ≤ 40) : AreOk (an mode a b) := by
  have h := both_ok (and3_step hm) ka kb na nb (asc_tms (a ++ b)) (tms (a ++ b)).length (Nat.le_refl _)
  rw [List.take_length] at h
  exact h.kc
theorem ofA_cases (md : Int) (a b : List Occ) : ofI and3 md a b = ([], false) ∨ ((0 ≤ md ∧ md ≤ 4) ∧ (AreOk a ∧ a.length ≤ 40) ∧ (AreOk b ∧ b.length ≤ 40) ∧ (an md a b).length ≤ 40 ∧ ofI and3 md a b = (an md a b, true)) := by
  unfold ofI
  by_cases h : fits md [] [] a b = true
  · rw [if_pos h]
    obtain ⟨hm, _, _, ha, hb⟩ := fits_iff.1 h
    unfold told
    split
    · exact .inl rfl
    · exact .inr ⟨hm, ha, hb, by unfold an; omega, rfl⟩
  · rw [if_neg h]
    exact .inl rfl
theorem ofA_ok {md : Int} {a b : List Occ} (hm : 0 ≤ md ∧ md ≤ 4) (h : (okOs a && okOs b) = true) : ofI and3 md a b = told (an md a b) := by
  have h0 : inb md 0 4 = true := by unfold inb; simp; omega
  have hf : fits md [] [] a b = true := by unfold fits; have e : okOs [] = true := rfl; rw [h0, e, Bool.and_self, Bool.true_and, Bool.true_and]; exact h
  unfold ofI
  rw [if_pos hf]
  rfl
theorem ofA_bad {md : Int} {a b : List Occ} (h : (okOs a && okOs b) = false) : ofI and3 md a b = ([], false) := by
  have hf : fits md [] [] a b = false := by
    unfold fits
    have e : okOs [] = true := rfl
    rw [e, Bool.and_self, Bool.and_true, Bool.and_assoc, h, Bool.and_false]
  unfold ofI
  rw [if_neg (by rw [hf]; simp)]
end Go.Proofs.YtjeojdbfpncnkaaGreat.Pz
