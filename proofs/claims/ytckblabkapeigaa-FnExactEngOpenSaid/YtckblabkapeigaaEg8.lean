
/- The parts of an expression, each once: plain. -/
import Derived.Test.YtckblabkapeigaaNb
set_option linter.unusedVariables false
set_option linter.unusedSimpArgs false
namespace Go.Proofs.Ytckblabkapeigaa.Eg8
open Go.Proofs.Ytckblabkapeigaa.Jb Go.Proofs.Ytckblabkapeigaa.Na Go.Proofs.Ytckblabkapeigaa.Nb Go.Proofs.Ytckblabkapeigaa.Kf

def hasX (es : List Ex) (x : Ex) : Bool := es.any (fun z => sameE z x)
theorem has_iff {es : List Ex} {x : Ex} : hasX es x = true ↔ x ∈ es := by
  unfold hasX
  rw [List.any_eq_true]
  constructor
  · rintro ⟨z, hz, h⟩
    rw [(sameE_iff z x).1 h] at hz
    exact hz
  · intro h
    exact ⟨x, h, (sameE_iff x x).2 rfl⟩
theorem has_no {es : List Ex} {x : Ex} : hasX es x = false ↔ ¬ x ∈ es := by
  rw [← has_iff]; simp
/-! the reference's way: look first; the program's: the kids first -/
mutual
def adX : Ex → List Ex → List Ex
  | .mk a b c l, es => if hasX es (.mk a b c l) = true then es else adL l es ++ [.mk a b c l]
def adL : List Ex → List Ex → List Ex
  | [], es => es
  | x :: xs, es => adL xs (adX x es)
end
mutual
def aiX : Ex → List Ex → List Ex
  | .mk a b c l, es => if hasX (aiL l es) (.mk a b c l) = true then aiL l es else aiL l es ++ [.mk a b c l]
def aiL : List Ex → List Ex → List Ex
  | [], es => es
  | x :: xs, es => aiL xs (aiX x es)
end
theorem adX_eq (x : Ex) (es : List Ex) : adX x es = if hasX es x = true then es else adL x.f3 es ++ [x] := by
  cases x with
  | mk a b c l => rw [adX]; rfl
theorem aiX_eq (x : Ex) (es : List Ex) : aiX x es = if hasX (aiL x.f3 es) x = true then aiL x.f3 es else aiL x.f3 es ++ [x] := by
  cases x with
  | mk a b c l => rw [aiX]; rfl
/-! what is behind is a part of x -/
mutual
theorem adX_pre : ∀ (x : Ex) (es : List Ex), ∃ t, adX x es = es ++ t ∧ (∀ z ∈ t, cntL z.f3 ≤ cntL x.f3)
  | .mk a b c l, es => by
    unfold adX
    split
    · exact ⟨[], by simp, by simp⟩
    · obtain ⟨t, h1, h2⟩ := adL_pre l es
      refine ⟨t ++ [.mk a b c l], by rw [h1, List.append_assoc], fun z hz => ?_⟩
      rcases List.mem_append.1 hz with h | h
      · have := h2 z h
        show _ ≤ cntL l
        omega
      · simp at h; subst h; exact Nat.le_refl _
theorem adL_pre : ∀ (l : List Ex) (es : List Ex), ∃ t, adL l es = es ++ t ∧ (∀ z ∈ t, cntL z.f3 < cntL l)
  | [], es => ⟨[], by simp [adL], by simp⟩
  | x :: xs, es => by
    obtain ⟨t, h1, h2⟩ := adX_pre x es
    obtain ⟨t2, h3, h4⟩ := adL_pre xs (adX x es)
    refine ⟨t ++ t2, by rw [adL, h3, h1, List.append_assoc], fun z hz => ?_⟩
    rw [cntL_cons]
    rcases List.mem_append.1 hz with h | h
    · have := h2 z h; omega
    · have := h4 z h; omega
end
/-- every part's kids stand ahead of it -/
def Closed (es : List Ex) : Prop := ∀ z ∈ es, ∀ y ∈ z.f3, y ∈ es
theorem adX_mem (x : Ex) (es : List Ex) : x ∈ adX x es := by
  rw [adX_eq]
  split
  · rename_i h; exact has_iff.1 h
  · simp
theorem adL_all : ∀ (l : List Ex) (es : List Ex), ∀ y ∈ l, y ∈ adL l es
  | [], _, y, h => by simp at h
  | x :: xs, es, y, h => by
    rw [adL]
    rcases List.mem_cons.1 h with e | h
    · subst e
      obtain ⟨t, h1, _⟩ := adL_pre xs (adX y es)
      rw [h1]
      exact List.mem_append_left _ (adX_mem y es)
    · exact adL_all xs _ y h
theorem adL_in : ∀ (l : List Ex) (es : List Ex), (∀ y ∈ l, y ∈ es) → adL l es = es
  | [], _, _ => by rw [adL]
  | x :: xs, es, h => by
    rw [adL, adX_eq, if_pos (has_iff.2 (h x (by simp)))]
    exact adL_in xs es (fun y hy => h y (by simp [hy]))
mutual
theorem adX_closed : ∀ (x : Ex) (es : List Ex), Closed es → Closed (adX x es)
  | .mk a b c l, es, h => by
    unfold adX
    split
    · exact h
    · have hc := adL_closed l es h
      intro z hz y hy
      rcases List.mem_append.1 hz with hz | hz
      · exact List.mem_append_left _ (hc z hz y hy)
      · simp at hz; subst hz
        exact List.mem_append_left _ (adL_all l es y hy)
theorem adL_closed : ∀ (l : List Ex) (es : List Ex), Closed es → Closed (adL l es)
  | [], es, h => by rw [adL]; exact h
  | x :: xs, es, h => by rw [adL]; exact adL_closed xs _ (adX_closed x es h)
end
theorem adX_new {x : Ex} {es : List Ex} (h : ¬ x ∈ es) : ¬ x ∈ adL x.f3 es := by
  obtain ⟨t, h1, h2⟩ := adL_pre x.f3 es
  rw [h1]
  intro hx
  rcases List.mem_append.1 hx with hx | hx
  · exact h hx
  · have := h2 x hx; omega
mutual
theorem ad_ai : ∀ (x : Ex) (es : List Ex), Closed es → aiX x es = adX x es
  | .mk a b c l, es, h => by
    have hl : aiL l es = adL l es := adL_aiL l es h
    rw [aiX_eq, adX_eq]
    show (if hasX (aiL l es) (.mk a b c l) = true then aiL l es else aiL l es ++ [.mk a b c l]) = if hasX es (.mk a b c l) = true then es else adL l es ++ [.mk a b c l]
    rw [hl]
    by_cases hx : (Ex.mk a b c l) ∈ es
    · have h1 : adL l es = es := adL_in l es (fun y hy => h _ hx y hy)
      rw [h1, if_pos (has_iff.2 hx)]
    · have h1 : ¬ (Ex.mk a b c l) ∈ adL l es := adX_new (x := .mk a b c l) hx
      rw [if_neg (by rw [has_iff]; exact h1), if_neg (by rw [has_iff]; exact hx)]
theorem adL_aiL : ∀ (l : List Ex) (es : List Ex), Closed es → aiL l es = adL l es
  | [], es, _ => by rw [aiL, adL]
  | x :: xs, es, h => by
    rw [aiL, adL, ad_ai x es h]
    exact adL_aiL xs _ (adX_closed x es h)
end
/-! each once -/
mutual
theorem adX_nodup : ∀ (x : Ex) (es : List Ex), es.Nodup → (adX x es).Nodup
  | .mk a b c l, es, h => by
    unfold adX
    split
    · exact h
    · rename_i hx
      have h1 := adL_nodup l es h
      have h2 : ¬ (Ex.mk a b c l) ∈ adL l es := adX_new (x := .mk a b c l) (fun g => hx (has_iff.2 g))
      rw [List.nodup_append]
      exact ⟨h1, by simp, fun z hz y hy e => by simp at hy; subst hy; subst e; exact h2 hz⟩
theorem adL_nodup : ∀ (l : List Ex) (es : List Ex), es.Nodup → (adL l es).Nodup
  | [], es, h => by rw [adL]; exact h
  | x :: xs, es, h => by rw [adL]; exact adL_nodup xs _ (adX_nodup x es h)
end
/-! places -/
def at_ (es : List Ex) (x : Ex) : Nat := es.findIdx (fun z => sameE z x)
theorem at_lt {es : List Ex} {x : Ex} (h : x ∈ es) : at_ es x < es.length := List.findIdx_lt_length_of_exists ⟨x, h, (sameE_iff x x).2 rfl⟩
theorem at_get {es : List Ex} {x : Ex} (h : x ∈ es) : es[at_ es x]? = some x := by
  have hl := at_lt h
  rw [List.getElem?_eq_getElem hl]
  have h1 := List.findIdx_getElem (xs := es) (p := fun z => sameE z x) (w := hl)
  have h2 := (sameE_iff _ _).1 h1
  exact congrArg some h2
theorem at_inj {es : List Ex} {x y : Ex} (hx : x ∈ es) (hy : y ∈ es) (h : at_ es x = at_ es y) : x = y := by
  have h1 := at_get hx
  rw [h, at_get hy] at h1
  exact (Option.some.inj h1).symm
theorem at_app {es t : List Ex} {x : Ex} (h : x ∈ es) : at_ (es ++ t) x = at_ es x := by
  unfold at_
  rw [List.findIdx_append]
  exact if_pos (at_lt h)
/-- a part's node: kind, symbol, number, the places of its kids -/
structure Nd where
  a : Int
  b : Int
  c : Int
  k : List Int
def ndOf (es : List Ex) (x : Ex) : Nd := ⟨x.f0, x.f1, x.f2, x.f3.map (fun y => (at_ es y : Int))⟩
theorem map_inj : ∀ {l m : List Ex} {es : List Ex}, (∀ y ∈ l, y ∈ es) → (∀ y ∈ m, y ∈ es) → l.map (fun y => (at_ es y : Int)) = m.map (fun y => (at_ es y : Int)) → l = m
  | [], [], _, _, _, _ => rfl
  | [], y :: ys, _, _, _, h => by simp at h
  | x :: xs, [], _, _, _, h => by simp at h
  | x :: xs, y :: ys, es, h1, h2, h => by
    simp only [List.map_cons, List.cons.injEq] at h
    have e : x = y := at_inj (h1 x (by simp)) (h2 y (by simp)) (by omega)
    rw [e, map_inj (fun z hz => h1 z (by simp [hz])) (fun z hz => h2 z (by simp [hz])) h.2]
theorem nd_inj {es : List Ex} {x y : Ex} (hx : ∀ z ∈ x.f3, z ∈ es) (hy : ∀ z ∈ y.f3, z ∈ es) (h : ndOf es x = ndOf es y) : x = y := by
  cases x with
  | mk a b c l =>
    cases y with
    | mk a' b' c' m =>
      unfold ndOf at h
      injection h with h1 h2 h3 h4
      change a = a' at h1
      change b = b' at h2
      change c = c' at h3
      change l.map _ = m.map _ at h4
      rw [h1, h2, h3, map_inj (l := l) (m := m) hx hy h4]
theorem nd_app {es t : List Ex} {x : Ex} (hx : ∀ z ∈ x.f3, z ∈ es) : ndOf (es ++ t) x = ndOf es x := by
  unfold ndOf
  have : x.f3.map (fun y => (at_ (es ++ t) y : Int)) = x.f3.map (fun y => (at_ es y : Int)) := List.map_congr_left (fun y hy => by rw [at_app (hx y hy)])
  rw [this]
/-- the nodes of a list of parts -/
def nds (es : List Ex) : List Nd := es.map (ndOf es)
theorem nds_snoc {es : List Ex} {x : Ex} (hc : Closed es) (hx : ∀ z ∈ x.f3, z ∈ es) : nds (es ++ [x]) = nds es ++ [ndOf es x] := by
  unfold nds
  rw [List.map_append, List.map_cons, List.map_nil, nd_app hx]
  congr 1
  exact List.map_congr_left (fun z hz => nd_app (hc z hz))
/-- a node is found exactly where the part stands -/
theorem nd_at {es : List Ex} {x : Ex} (hc : Closed es) (hx : ∀ z ∈ x.f3, z ∈ es) (i : Nat) (h : (nds es)[i]? = some (ndOf es x)) : es[i]? = some x := by
  unfold nds at h
  rw [List.getElem?_map] at h
  obtain ⟨z, hz, e⟩ := Option.map_eq_some_iff.1 h
  rw [hz, nd_inj (hc z (List.mem_of_getElem? hz)) hx e]
end Go.Proofs.Ytckblabkapeigaa.Eg8
