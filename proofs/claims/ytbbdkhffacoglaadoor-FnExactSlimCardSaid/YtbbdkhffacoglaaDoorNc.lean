
/- An expression made shorter, both ways: plain. -/
import Derived.Test.YtbbdkhffacoglaaDoorNb
set_option linter.unusedVariables false
set_option linter.unusedSimpArgs false
namespace Go.Proofs.YtbbdkhffacoglaaDoor.Nc
open Go.Proofs.YtbbdkhffacoglaaDoor.Jb Go.Proofs.YtbbdkhffacoglaaDoor.Jg Go.Proofs.YtbbdkhffacoglaaDoor.Na Go.Proofs.YtbbdkhffacoglaaDoor.Nb

/-- a chain of ors -/
def chain : List Ex → Ex
  | [] => zE
  | [x] => x
  | x :: y :: r => .mk 2 0 0 [x, chain (y :: r)]
/-- the last step: chains, sums of delays -/
def top (ch : Ex → List Ex) (x : Ex) : Ex :=
  if x.f0 = 2 then chain (ch x)
  else if x.f0 = 7 ∧ (x.f3.getD 0 zE).f0 = 7 ∧ x.f2 + (x.f3.getD 0 zE).f2 ≤ 20 then .mk 7 0 (x.f2 + (x.f3.getD 0 zE).f2) (x.f3.getD 0 zE).f3
  else x
mutual
def slX : Ex → Ex
  | .mk k a b l => top chX (.mk k a b (slL l))
def slL : List Ex → List Ex
  | [] => []
  | x :: xs => slX x :: slL xs
end
mutual
def slR : Ex → Ex
  | .mk k a b l => top (fun x => orX x []) (.mk k a b (slRL l))
def slRL : List Ex → List Ex
  | [] => []
  | x :: xs => slR x :: slRL xs
end
theorem slX_eq (x : Ex) : slX x = top chX (.mk x.f0 x.f1 x.f2 (slL x.f3)) := by cases x; rw [slX]; rfl
theorem slR_eq (x : Ex) : slR x = top (fun x => orX x []) (.mk x.f0 x.f1 x.f2 (slRL x.f3)) := by cases x; rw [slR]; rfl
theorem slL_length : ∀ l, (slL l).length = l.length
  | [] => by simp [slL]
  | x :: xs => by rw [slL, List.length_cons, slL_length xs, List.length_cons]
theorem slL_append : ∀ l m, slL (l ++ m) = slL l ++ slL m
  | [], m => by simp [slL]
  | x :: xs, m => by rw [List.cons_append, slL, slL, slL_append xs m, List.cons_append]
theorem slL_snoc (l : List Ex) (i : Nat) (h : i < l.length) : slL (l.take (i + 1)) = slL (l.take i) ++ [slX (l.getD i zE)] := by
  rw [Ja.take_snoc l i zE h, slL_append, slL, slL]
theorem slRL_length : ∀ l, (slRL l).length = l.length
  | [] => by simp [slRL]
  | x :: xs => by rw [slRL, List.length_cons, slRL_length xs, List.length_cons]
theorem slRL_append : ∀ l m, slRL (l ++ m) = slRL l ++ slRL m
  | [], m => by simp [slRL]
  | x :: xs, m => by rw [List.cons_append, slRL, slRL, slRL_append xs m, List.cons_append]
theorem slRL_snoc (l : List Ex) (i : Nat) (h : i < l.length) : slRL (l.take (i + 1)) = slRL (l.take i) ++ [slR (l.getD i zE)] := by
  rw [Ja.take_snoc l i zE h, slRL_append, slRL, slRL]

/-! formed still -/
theorem formL_iff {l : List Ex} : formL l = true ↔ AllF l := by rw [formL_all, List.all_eq_true]
theorem form_mk {k s n : Int} {l : List Ex} (h : HeadOk k s n l.length) (g : formL l = true) : formB (.mk k s n l) = true := by
  rw [formB_eq, Bool.and_eq_true]; exact ⟨decide_eq_true h, g⟩
theorem chain_form : ∀ {l : List Ex}, AllF l → 1 ≤ l.length → formB (chain l) = true
  | [], _, h => by simp at h
  | [x], h, _ => h x (by simp)
  | x :: y :: r, h, _ => by
    unfold chain
    refine form_mk ⟨by omega, (show (2 : Int) = kidsN 2 by decide), by omega, fun _ => rfl, fun h => by omega, fun _ => rfl⟩ ?_
    rw [formL_iff]
    intro z hz
    rcases List.mem_cons.1 hz with rfl | hz
    · exact h z (by simp)
    · simp at hz; subst hz; exact chain_form (fun w hw => h w (List.mem_cons_of_mem _ hw)) (by simp)
mutual
theorem ch_pos : ∀ x, formB x = true → 1 ≤ (chX x).length
  | .mk k a b l, h => by
    unfold chX
    split
    · rename_i hk
      have hh := (form_head h).1.kids
      have hl : l.length = 2 := by
        have h2 : (l.length : Int) = kidsN k := hh
        rw [hk] at h2
        have h3 : kidsN 2 = 2 := by decide
        omega
      match l, hl, h with
      | [p, q], _, h =>
        have hp := ch_pos p (formL_head (form_kids h)).1
        have hm : ∃ z, z ∈ dedup (sortE (chL [p, q])) := by
          cases hc : chX p with
          | nil => rw [hc] at hp; simp at hp
          | cons z r =>
            refine ⟨z, mem_dedup.2 (mem_sortE.2 ?_)⟩
            unfold chL; rw [hc]; simp
        obtain ⟨z, hz⟩ := hm
        exact List.length_pos_of_mem hz
    · simp
end
theorem top_form {ch : Ex → List Ex} {x : Ex} (h : formB x = true) (hch : AllF (ch x) ∧ 1 ≤ (ch x).length) : formB (top ch x) = true := by
  unfold top
  split
  · exact chain_form hch.1 hch.2
  · split
    · rename_i h2 hc
      obtain ⟨h7, k7, hs⟩ := hc
      obtain ⟨p, pl⟩ := form_head h
      have hk : kidsN 7 = 1 := by decide
      have hl : x.f3.length = 1 := by have := p.kids; rw [h7, hk] at this; omega
      have hm : x.f3.getD 0 zE ∈ x.f3 := by rw [List.getD_eq_getElem?_getD, List.getElem?_eq_getElem (by omega)]; exact List.getElem_mem _
      obtain ⟨q, ql⟩ := form_head (formL_iff.1 pl _ hm)
      refine form_mk ⟨by omega, ?_, by omega, fun _ => rfl, fun _ => ?_, fun h => absurd rfl h⟩ ql
      · have := q.kids; rw [k7] at this; exact this
      · have a := p.plus h7; have b := q.plus k7; omega
    · exact h
mutual
theorem sl_form : ∀ x, formB x = true → formB (slX x) = true
  | .mk k a b l, h => by
    unfold slX
    obtain ⟨p, pl⟩ := form_head h
    have h2 : formB (.mk k a b (slL l)) = true := form_mk (by rw [slL_length]; exact p) (slL_form l pl)
    exact top_form h2 ⟨ch_form h2, ch_pos _ h2⟩
theorem slL_form : ∀ l, formL l = true → formL (slL l) = true
  | [], _ => by simp [slL, formL_nil]
  | x :: xs, h => by
    obtain ⟨h1, h2⟩ := formL_head h
    rw [slL, formL_cons, sl_form x h1, slL_form xs h2]; rfl
end
/-- the program's is the reference's -/
theorem top_same {x : Ex} (h : formB x = true) : top chX x = top (fun x => orX x []) x := by
  unfold top
  split
  · show chain (chX x) = chain (orX x [])
    rw [ch_or h]
  · rfl
mutual
theorem sl_same : ∀ x, formB x = true → slX x = slR x
  | .mk k a b l, h => by
    unfold slX slR
    obtain ⟨p, pl⟩ := form_head h
    rw [slL_same l pl]
    exact top_same (form_mk (by rw [slRL_length]; exact p) (by rw [← slL_same l pl]; exact slL_form l pl))
theorem slL_same : ∀ l, formL l = true → slL l = slRL l
  | [], _ => by simp [slL, slRL]
  | x :: xs, h => by
    obtain ⟨h1, h2⟩ := formL_head h
    rw [slL, slRL, sl_same x h1, slL_same xs h2]
end

/-! not longer -/
def tot (x : Ex) : Nat := 1 + cntL x.f3
theorem cntL_ins (x : Ex) : ∀ l, cntL (ins l x) = cntL l + tot x
  | [] => by simp [ins, cntL_cons, cntL_nil, tot]
  | y :: ys => by
    unfold ins
    split
    · rw [cntL_cons]; unfold tot; omega
    · rw [cntL_cons, cntL_ins x ys, cntL_cons]; omega
theorem cntL_foldl : ∀ (l a : List Ex), cntL (l.foldl ins a) = cntL a + cntL l
  | [], a => by simp [cntL_nil]
  | x :: xs, a => by rw [List.foldl_cons, cntL_foldl xs, cntL_ins, cntL_cons]; unfold tot; omega
theorem cntL_sortE (l : List Ex) : cntL (sortE l) = cntL l := by unfold sortE; rw [cntL_foldl, cntL_nil]; omega
theorem dd_le : ∀ (l : List Ex) (p : Ex), cntL (dd p l) ≤ cntL l ∧ (dd p l).length ≤ l.length
  | [], p => ⟨Nat.le_refl _, Nat.le_refl _⟩
  | y :: r, p => by
    obtain ⟨h1, h2⟩ := dd_le r y
    unfold dd
    split
    · rw [cntL_cons, List.length_cons]; omega
    · rw [cntL_cons, cntL_cons, List.length_cons, List.length_cons]; omega
theorem dedup_le (l : List Ex) : cntL (dedup l) ≤ cntL l ∧ (dedup l).length ≤ l.length := by
  cases l with
  | nil => exact ⟨Nat.le_refl _, Nat.le_refl _⟩
  | cons x r =>
    obtain ⟨h1, h2⟩ := dd_le r x
    unfold dedup
    rw [cntL_cons, cntL_cons, List.length_cons, List.length_cons]; omega
mutual
theorem ch_le : ∀ x, formB x = true → cntL (chX x) + (chX x).length ≤ tot x + 1
  | .mk k a b l, h => by
    unfold chX
    split
    · rename_i hk
      have hl : l.length = 2 := by
        have h2 : (l.length : Int) = kidsN k := (form_head h).1.kids
        rw [hk] at h2
        have h3 : kidsN 2 = 2 := by decide
        omega
      have h1 := chL_le l (form_kids h)
      obtain ⟨d1, d2⟩ := dedup_le (sortE (chL l))
      rw [cntL_sortE] at d1
      rw [sortE_length] at d2
      have : tot (.mk k a b l) = 1 + cntL l := rfl
      omega
    · have : tot (.mk k a b l) = 1 + cntL l := rfl
      rw [cntL_cons, cntL_nil, this]
      show 1 + cntL l + 0 + 1 ≤ _
      omega
theorem chL_le : ∀ l, formL l = true → cntL (chL l) + (chL l).length ≤ cntL l + l.length
  | [], _ => by simp [chL]
  | x :: xs, h => by
    obtain ⟨h1, h2⟩ := formL_head h
    have a := ch_le x h1
    have b := chL_le xs h2
    rw [chL, cntL_append, List.length_append, cntL_cons, List.length_cons]
    unfold tot at a
    omega
end
theorem chain_tot : ∀ {l : List Ex}, 1 ≤ l.length → tot (chain l) + 1 = cntL l + l.length
  | [], h => by simp at h
  | [x], _ => by unfold chain; rw [cntL_cons, cntL_nil]; unfold tot; simp
  | x :: y :: r, _ => by
    have ih := chain_tot (l := y :: r) (by simp)
    unfold chain
    have : tot (.mk 2 0 0 [x, chain (y :: r)]) = 1 + cntL [x, chain (y :: r)] := rfl
    rw [this, cntL_cons, cntL_cons, cntL_nil, cntL_cons x, List.length_cons]
    unfold tot at ih
    omega
theorem top_tot {x : Ex} (h : formB x = true) : tot (top chX x) ≤ tot x := by
  unfold top
  split
  · have := chain_tot (ch_pos x h)
    have := ch_le x h
    omega
  · split
    · rename_i h2 hc
      obtain ⟨h7, k7, hs⟩ := hc
      have hk : kidsN 7 = 1 := by decide
      have hl : x.f3.length = 1 := by have := (form_head h).1.kids; rw [h7, hk] at this; omega
      have := cnt_getD x.f3 0 (by omega)
      unfold tot
      show 1 + cntL (x.f3.getD 0 zE).f3 ≤ _
      omega
    · exact Nat.le_refl _
mutual
theorem sl_tot : ∀ x, formB x = true → tot (slX x) ≤ tot x
  | .mk k a b l, h => by
    unfold slX
    obtain ⟨p, pl⟩ := form_head h
    have h2 : formB (.mk k a b (slL l)) = true := form_mk (by rw [slL_length]; exact p) (slL_form l pl)
    have h3 := top_tot h2
    have h4 := slL_tot l pl
    have e1 : tot (.mk k a b (slL l)) = 1 + cntL (slL l) := rfl
    have e2 : tot (.mk k a b l) = 1 + cntL l := rfl
    omega
theorem slL_tot : ∀ l, formL l = true → cntL (slL l) ≤ cntL l
  | [], _ => by simp [slL]
  | x :: xs, h => by
    obtain ⟨h1, h2⟩ := formL_head h
    have a := sl_tot x h1
    have b := slL_tot xs h2
    unfold tot at a
    rw [slL, cntL_cons, cntL_cons]; omega
end
end Go.Proofs.YtbbdkhffacoglaaDoor.Nc
