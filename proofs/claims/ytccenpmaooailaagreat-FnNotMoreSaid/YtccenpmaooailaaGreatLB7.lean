
import Derived.Test.YtccenpmaooailaaGreatLB5
/- A sequence over all points in time, as one walk over the second list. No program. -/
set_option linter.unusedVariables false
set_option linter.unusedSimpArgs false
namespace Go.Proofs.YtccenpmaooailaaGreat.Pw
open Go.Proofs.YtccenpmaooailaaGreat.Pu Go.Proofs.YtccenpmaooailaaGreat.Pv Go.Proofs.YtccenpmaooailaaGreat.Ig Go.Proofs.YtccenpmaooailaaGreat.Ih Go.Proofs.YtccenpmaooailaaGreat.Ik Go.Proofs.YtccenpmaooailaaGreat.Il

theorem mem_gone {mode : Int} {o : Occ} {s : List Occ} {z : Occ} (h : z ∈ (combine mode o s).2) : z ∈ s := by
  unfold combine at h
  split at h
  · simp at h
  · split at h
    · simp at h
    · split at h
      · exact List.mem_of_mem_take h
      · split at h
        · exact h
        · simp only at h
          split at h
          · exact h
          · simp at h
theorem mem_without {l g : List Occ} {z : Occ} : z ∈ without l g ↔ z ∈ l ∧ z ∉ g := by
  unfold without
  rw [List.mem_filter]
  simp
theorem sorted_without {l g : List Occ} (h : Sorted l) : Sorted (without l g) := h.filter _
theorem lt_of_f1 {x y : Occ} (h : x.f1 < y.f1) : lt x y := by
  unfold lt cmpO
  rw [if_neg (by omega), if_pos h]
  omega
theorem putAll_putAll {l a b : List Occ} (h : Sorted l) : putAll (putAll l a) b = putAll l (putAll (putAll [] a) b) :=
  sorted_ext (sorted_putAll (sorted_putAll h)) (sorted_putAll h) (fun z => by
    rw [mem_putAll, mem_putAll, mem_putAll, mem_putAll, mem_putAll]
    simp
    constructor
    · rintro ((h | h) | h) <;> simp [h]
    · rintro (h | h | h) <;> simp [h])
theorem fold_out {mode : Int} : ∀ (os F out : List Occ), Sorted out → os.foldl (seqStep mode) (F, out) = ((os.foldl (seqStep mode) (F, [])).1, putAll out (os.foldl (seqStep mode) (F, [])).2)
  | [], F, out, _ => by simp [putAll]
  | o :: os, F, out, h => by
    have e : ∀ x : List Occ, seqStep mode (F, x) o = (without F (combine mode o (F.filter (before o))).2, putAll x (combine mode o (F.filter (before o))).1) := fun _ => rfl
    rw [List.foldl_cons, List.foldl_cons, e, e]
    generalize without F (combine mode o (F.filter (before o))).2 = F'
    generalize (combine mode o (F.filter (before o))).1 = f
    rw [fold_out os F' (putAll out f) (sorted_putAll h), fold_out os F' (putAll [] f) (sorted_putAll (by simp [Sorted]))]
    simp only
    rw [putAll_putAll h]
theorem step_filter {mode : Int} {F out : List Occ} {o : Occ} {T : Int} (h : o.f0 ≤ T) : seqStep mode (F.filter (fun x => decide (x.f1 < T)), out) o = ((seqStep mode (F, out) o).1.filter (fun x => decide (x.f1 < T)), (seqStep mode (F, out) o).2) := by
  have e : (F.filter (fun x => decide (x.f1 < T))).filter (before o) = F.filter (before o) := by
    rw [List.filter_filter]
    apply List.filter_congr
    intro x _
    unfold before
    by_cases hx : x.f1 < o.f0
    · have : x.f1 < T := by omega
      simp [hx, this]
    · simp [hx]
  unfold seqStep
  simp only [e]
  congr 1
  unfold without
  rw [List.filter_filter, List.filter_filter]
  apply List.filter_congr
  intro x _
  exact Bool.and_comm _ _
theorem fold_filter {mode : Int} {T : Int} : ∀ (os F out : List Occ), (∀ o ∈ os, o.f0 ≤ T) → os.foldl (seqStep mode) (F.filter (fun x => decide (x.f1 < T)), out) = ((os.foldl (seqStep mode) (F, out)).1.filter (fun x => decide (x.f1 < T)), (os.foldl (seqStep mode) (F, out)).2)
  | [], _, _, _ => rfl
  | o :: os, F, out, h => by
    rw [List.foldl_cons, List.foldl_cons, step_filter (h o (by simp))]
    exact fold_filter os _ _ (fun x hx => h x (List.mem_cons_of_mem _ hx))
theorem fold_sub {mode : Int} : ∀ (os F out : List Occ) (x : Occ), x ∈ (os.foldl (seqStep mode) (F, out)).1 → x ∈ F
  | [], _, _, _, h => h
  | o :: os, F, out, x, h => by
    have := fold_sub os _ _ x h
    exact (mem_without.1 this).1
theorem fold_keep {mode : Int} : ∀ (os F out : List Occ) (x : Occ), (∀ o ∈ os, o.f0 ≤ x.f1) → x ∈ F → x ∈ (os.foldl (seqStep mode) (F, out)).1
  | [], _, _, _, _, h => h
  | o :: os, F, out, x, ho, h => by
    refine fold_keep os _ _ x (fun y hy => ho y (List.mem_cons_of_mem _ hy)) (mem_without.2 ⟨h, fun hg => ?_⟩)
    have h1 := (List.mem_filter.1 (mem_gone hg)).2
    have h2 := ho o (by simp)
    unfold before at h1
    have : x.f1 < o.f0 := by simpa using h1
    omega
theorem fold_sorted {mode : Int} : ∀ (os F out : List Occ), Sorted F → Sorted out → Sorted (os.foldl (seqStep mode) (F, out)).1 ∧ Sorted (os.foldl (seqStep mode) (F, out)).2
  | [], _, _, h, g => ⟨h, g⟩
  | o :: os, F, out, h, g => fold_sorted os _ _ (sorted_without h) (sorted_putAll g)
/-- what is at a time, and what is later -/
theorem part {b : List Occ} (hb : Sorted b) {T t : Int} (hT : T ≤ t) (h : ∀ x ∈ b, T ≤ x.f1 → t ≤ x.f1) : b.filter (fun x => decide (T ≤ x.f1)) = atT b t ++ b.filter (fun x => decide (t + 1 ≤ x.f1)) := by
  refine sorted_ext (hb.filter _) (List.pairwise_append.2 ⟨hb.filter _, hb.filter _, fun x hx y hy => ?_⟩) (fun z => ?_)
  · have h1 := (List.mem_filter.1 hx).2
    have h2 := (List.mem_filter.1 hy).2
    simp only [decide_eq_true_eq] at h1 h2
    exact lt_of_f1 (by omega)
  · rw [List.mem_append]
    unfold atT
    rw [List.mem_filter, List.mem_filter, List.mem_filter]
    simp only [decide_eq_true_eq]
    constructor
    · rintro ⟨h1, h2⟩
      have := h z h1 h2
      by_cases e : z.f1 = t
      · exact .inl ⟨h1, e⟩
      · exact .inr ⟨h1, by omega⟩
    · rintro (⟨h1, h2⟩ | ⟨h1, h2⟩)
      · exact ⟨h1, by omega⟩
      · exact ⟨h1, by omega⟩
theorem seq_main {mode : Int} {a b : List Occ} (ha : AreOk a) (hb : AreOk b) : ∀ (ts : List Int) (T : Int) (F : List Occ) (st : P3), Asc ts → (∀ t ∈ ts, T ≤ t) → (∀ x, (x ∈ a ∨ x ∈ b) → T ≤ x.f1 → x.f1 ∈ ts) → Sorted F → Sorted st.c →
    st.a = F.filter (fun x => decide (x.f1 < T)) → (∀ x, T ≤ x.f1 → (x ∈ F ↔ x ∈ a)) → (ts.foldl (bothStep (seq3 mode) a b) st).c = ((b.filter (fun x => decide (T ≤ x.f1))).foldl (seqStep mode) (F, st.c)).2
  | [], T, F, st, _, _, hin, _, _, _, _ => by
    have : b.filter (fun x => decide (T ≤ x.f1)) = [] := by
      rw [List.filter_eq_nil_iff]
      intro x hx hc
      have := hin x (.inr hx) (by simpa using hc)
      simp at this
    rw [this]
    rfl
  | t :: ts, T, F, st, hasc, hle, hin, hF, hc, hst, hFa => by
    obtain ⟨ht, hts⟩ := List.pairwise_cons.1 hasc
    have hTt := hle t (by simp)
    have hlow : ∀ x, (x ∈ a ∨ x ∈ b) → T ≤ x.f1 → t ≤ x.f1 := fun x hx h => by
      rcases List.mem_cons.1 (hin x hx h) with e | e
      · omega
      · have := ht _ e; omega
    rw [part hb.sorted hTt (fun x hx h => hlow x (.inr hx) h), List.foldl_append, List.foldl_cons]
    have hof : ∀ o ∈ atT b t, o.f0 ≤ t := fun o ho => by
      have h1 := List.mem_filter.1 ho
      have h2 := (hb.all o h1.1).ft
      have h3 : o.f1 = t := by simpa using h1.2
      omega
    have hst2 : st.a = F.filter (fun x => decide (x.f1 < t)) := by
      rw [hst]
      apply List.filter_congr
      intro x hx
      rw [decide_eq_decide]
      constructor
      · intro h; omega
      · intro h
        rcases Int.lt_or_le x.f1 T with h2 | h2
        · exact h2
        · have := hlow x (.inl ((hFa x h2).1 hx)) h2; omega
    have hg := fold_out (mode := mode) (atT b t) F st.c hc
    have hf := fold_filter (mode := mode) (T := t) (atT b t) F [] hof
    obtain ⟨s1, s2⟩ := fold_sorted (mode := mode) (atT b t) F [] hF (by simp [Sorted])
    have k1 := fold_keep (mode := mode) (atT b t) F []
    have k2 := fold_sub (mode := mode) (atT b t) F []
    rw [hg]
    have hbs : bothStep (seq3 mode) a b st t = ⟨putAll ((atT b t).foldl (seqStep mode) (st.a, [])).1 (atT a t), st.b, putAll st.c ((atT b t).foldl (seqStep mode) (st.a, [])).2⟩ := rfl
    rw [hbs, hst2, hf]
    generalize (atT b t).foldl (seqStep mode) (F, []) = G at s1 s2 k1 k2 ⊢
    refine seq_main ha hb ts (t + 1) G.1 _ hts (fun x hx => by have := ht x hx; omega) (fun x hx h => ?_) s1 (sorted_putAll hc) ?_ (fun x hx => ?_)
    · rcases List.mem_cons.1 (hin x hx (by omega)) with e | e
      · omega
      · exact e
    · refine sorted_ext (sorted_putAll (s1.filter _)) (s1.filter _) (fun z => ?_)
      rw [mem_putAll, List.mem_filter, List.mem_filter]
      unfold atT
      rw [List.mem_filter]
      simp only [decide_eq_true_eq]
      constructor
      · rintro (⟨h1, h2⟩ | ⟨h1, h2⟩)
        · exact ⟨h1, by omega⟩
        · exact ⟨k1 z (fun o ho => by have := hof o ho; omega) ((hFa z (by omega)).2 h1), by omega⟩
      · rintro ⟨h1, h2⟩
        by_cases e : z.f1 = t
        · exact .inr ⟨(hFa z (by omega)).1 (k2 z h1), e⟩
        · exact .inl ⟨h1, by omega⟩
    · rw [← hFa x (by omega)]
      exact ⟨k2 x, k1 x (fun o ho => by have := hof o ho; omega)⟩
/-- a sequence's finds: each of the second list, in order, with those of the first that still wait -/
def sq (mode : Int) (a b : List Occ) : List Occ := (b.foldl (seqStep mode) (a, [])).2
theorem seq_all {mode : Int} {a b : List Occ} (ha : AreOk a) (hb : AreOk b) : (both (seq3 mode) a b (tms (a ++ b))).c = sq mode a b := by
  have hab : ∀ o ∈ a ++ b, IsOk o := fun o ho => (List.mem_append.1 ho).elim (ha.all o) (hb.all o)
  have h := seq_main (mode := mode) ha hb (tms (a ++ b)) 0 a ⟨[], [], []⟩ (asc_tms _) (fun t ht => by
    obtain ⟨o, ho, rfl⟩ := (mem_tms hab t).1 ht
    have h1 := (hab o ho).f1; have h2 := (hab o ho).ft; omega) (fun x hx _ => (mem_tms hab _).2 ⟨x, List.mem_append.2 hx, rfl⟩) ha.sorted (by simp [Sorted]) (by
      symm
      rw [List.filter_eq_nil_iff]
      intro x hx h
      have h1 := (ha.all x hx).f1; have h2 := (ha.all x hx).ft
      simp at h
      omega) (fun x _ => Iff.rfl)
  unfold both sq
  have e : b.filter (fun x => decide ((0 : Int) ≤ x.f1)) = b := by
    rw [List.filter_eq_self]
    intro x hx
    have h1 := (hb.all x hx).f1; have h2 := (hb.all x hx).ft
    rw [decide_eq_true_eq]
    omega
  rw [h, e]
theorem ofI_seq {mode : Int} {a b : List Occ} : ofI seq3 mode a b = if inb mode 0 4 && okOs a && okOs b then told (sq mode a b) else ([], false) := by
  unfold ofI fits
  have e : okOs [] = true := rfl
  rw [e, Bool.and_self, Bool.and_true]
  by_cases h : (inb mode 0 4 && okOs a && okOs b) = true
  · rw [if_pos h, if_pos h]
    simp only [Bool.and_eq_true] at h
    rw [seq_all (okOs_iff.1 h.1.2).1 (okOs_iff.1 h.2).1]
  · rw [if_neg h, if_neg h]
end Go.Proofs.YtccenpmaooailaaGreat.Pw

/- What a sequence finds in each mode: plain laws. No program. -/
set_option linter.unusedVariables false
set_option linter.unusedSimpArgs false
namespace Go.Proofs.YtccenpmaooailaaGreat.Px
open Go.Proofs.YtccenpmaooailaaGreat.Pu Go.Proofs.YtccenpmaooailaaGreat.Pv Go.Proofs.YtccenpmaooailaaGreat.Ig Go.Proofs.YtccenpmaooailaaGreat.Ih Go.Proofs.YtccenpmaooailaaGreat.Ik Go.Proofs.YtccenpmaooailaaGreat.Il Go.Proofs.YtccenpmaooailaaGreat.Pw

theorem len_put (l : List Occ) (o : Occ) : l.length ≤ (put l o).length := by
  induction l with
  | nil => simp [put]
  | cons y ys ih =>
    simp only [put]
    split
    · simp; omega
    · split <;> simp
theorem len_putAll (l : List Occ) : ∀ os : List Occ, l.length ≤ (putAll l os).length := by
  intro os
  induction os generalizing l with
  | nil => exact Nat.le_refl _
  | cons o os ih => exact Nat.le_trans (len_put l o) (ih _)
theorem len_sub {l m : List Occ} (h : Sorted l) (hm : Sorted m) (hs : ∀ x ∈ l, x ∈ m) : l.length ≤ m.length := by
  have e : l = m.filter (fun x => decide (x ∈ l)) := sorted_ext h (hm.filter _) (fun z => by
    rw [List.mem_filter]
    simp only [decide_eq_true_eq]
    exact ⟨fun hz => ⟨hs z hz, hz⟩, fun hz => hz.2⟩)
  rw [e]
  exact List.length_filter_le _ _
/-- what one finds comes of those that wait -/
theorem found_sub {mode : Int} (h4 : mode ≠ 4) {o : Occ} {s : List Occ} {z : Occ} (h : z ∈ (combine mode o s).1) : ∃ x ∈ s, z = join o x := by
  unfold combine at h
  split at h
  · simp at h
  · rename_i hs
    split at h
    · exact ⟨_, getD_mem (l := s) (i := s.length - 1) (by omega), by simpa using h⟩
    · split at h
      · exact ⟨_, getD_mem (l := s) (i := 0) (by omega), by simpa using h⟩
      · simp only [if_neg h4] at h
        have h2 := (mem_putAll z _ _).1 h
        simp only [List.not_mem_nil, false_or, List.mem_map] at h2
        obtain ⟨x, hx, rfl⟩ := h2
        exact ⟨x, hx, rfl⟩
theorem found_all {o : Occ} {s : List Occ} {x : Occ} (h : x ∈ s) : join o x ∈ (combine 0 o s).1 := by
  unfold combine
  rw [if_neg (by have := List.length_pos_of_mem h; omega), if_neg (by decide), if_neg (by decide), if_neg (by decide)]
  rw [mem_putAll]
  exact .inr (List.mem_map.2 ⟨x, h, rfl⟩)
theorem gone_all (o : Occ) (s : List Occ) : (combine 0 o s).2 = [] := by
  unfold combine
  split
  · rfl
  · rw [if_neg (by decide), if_neg (by decide), if_neg (by decide)]
    rfl
/-! lengths -/
/-! what is found -/
theorem fold_from {mode : Int} (h4 : mode ≠ 4) : ∀ (os F out : List Occ) (z : Occ), z ∈ (os.foldl (seqStep mode) (F, out)).2 → z ∈ out ∨ ∃ s ∈ F, ∃ o ∈ os, s.f1 < o.f0 ∧ z = join o s
  | [], _, _, _, h => .inl h
  | o :: os, F, out, z, h => by
    rcases fold_from h4 os _ _ z h with h | ⟨s, hs, p, hp, h1, h2⟩
    · rcases (mem_putAll z _ _).1 h with h | h
      · exact .inl h
      · obtain ⟨x, hx, e⟩ := found_sub h4 h
        obtain ⟨hx1, hx2⟩ := List.mem_filter.1 hx
        unfold before at hx2
        exact .inr ⟨x, hx1, o, by simp, by simpa using hx2, e⟩
    · exact .inr ⟨s, (mem_without.1 hs).1, p, List.mem_cons_of_mem _ hp, h1, h2⟩
theorem sq_from {mode : Int} (h4 : mode ≠ 4) {a b : List Occ} {z : Occ} (h : z ∈ sq mode a b) : ∃ s ∈ a, ∃ o ∈ b, s.f1 < o.f0 ∧ z = join o s := by
  rcases fold_from h4 b a [] z h with h | h
  · simp at h
  · exact h
theorem fold_out_sub {mode : Int} : ∀ (os F out : List Occ) (z : Occ), z ∈ out → z ∈ (os.foldl (seqStep mode) (F, out)).2
  | [], _, _, _, h => h
  | o :: os, F, out, z, h => fold_out_sub os _ _ z ((mem_putAll z _ _).2 (.inl h))
theorem fold_has {a : List Occ} : ∀ (os F out : List Occ) (s o : Occ), s ∈ F → o ∈ os → s.f1 < o.f0 → join o s ∈ (os.foldl (seqStep 0) (F, out)).2
  | p :: os, F, out, s, o, hs, ho, h => by
    rw [List.foldl_cons]
    have e : seqStep 0 (F, out) p = (F, putAll out (combine 0 p (F.filter (before p))).1) := by
      unfold seqStep
      simp only [gone_all, without_nil]
    rw [e]
    rcases List.mem_cons.1 ho with rfl | ho
    · exact fold_out_sub os _ _ _ ((mem_putAll _ _ _).2 (.inr (found_all (List.mem_filter.2 ⟨hs, by unfold before; simpa using h⟩))))
    · exact fold_has (a := a) os _ _ s o hs ho h
theorem mem_sq0 {a b : List Occ} {z : Occ} : z ∈ sq 0 a b ↔ ∃ s ∈ a, ∃ o ∈ b, s.f1 < o.f0 ∧ z = join o s :=
  ⟨sq_from (by decide), fun ⟨s, hs, o, ho, h, e⟩ => by rw [e]; exact fold_has (a := a) b a [] s o hs ho h⟩
end Go.Proofs.YtccenpmaooailaaGreat.Px

/- Contracts in the form that the laws' walks take. -/
set_option linter.unusedVariables false
set_option linter.unusedSimpArgs false
namespace Go.Proofs.YtccenpmaooailaaGreat.La
open Go.RowKit Go.Proofs.YtccenpmaooailaaGreatW.PrintWords Go.Proofs.YtccenpmaooailaaGreat.Wd Go.Proofs.YtccenpmaooailaaGreat.Pu Go.Proofs.YtccenpmaooailaaGreat.Pv Go.Proofs.YtccenpmaooailaaGreat.Ca Go.Proofs.YtccenpmaooailaaGreat.Cb Go.Proofs.YtccenpmaooailaaGreat.Cc Go.Proofs.YtccenpmaooailaaGreat.Cp Go.Proofs.YtccenpmaooailaaGreat.Cd Go.Proofs.YtccenpmaooailaaGreat.Ci Go.Proofs.YtccenpmaooailaaGreat.Ce Go.Proofs.YtccenpmaooailaaGreat.Cf Go.Proofs.YtccenpmaooailaaGreat.Cg Go.Proofs.YtccenpmaooailaaGreat.Sc Go.Proofs.YtccenpmaooailaaGreat.Se Go.Proofs.YtccenpmaooailaaGreat.Sh Go.Proofs.YtccenpmaooailaaGreat.Si Go.Proofs.YtccenpmaooailaaGreat.Sp Go.Proofs.YtccenpmaooailaaGreat.Ia Go.Proofs.YtccenpmaooailaaGreat.Ib Go.Proofs.YtccenpmaooailaaGreat.Ic Go.Proofs.YtccenpmaooailaaGreat.Id Go.Proofs.YtccenpmaooailaaGreat.Ie Go.Proofs.YtccenpmaooailaaGreat.If Go.Proofs.YtccenpmaooailaaGreat.Ig Go.Proofs.YtccenpmaooailaaGreat.Ih Go.Proofs.YtccenpmaooailaaGreat.Ij Go.Proofs.YtccenpmaooailaaGreat.Ik Go.Proofs.YtccenpmaooailaaGreat.Ra Go.Proofs.YtccenpmaooailaaGreat.Rb Go.Proofs.YtccenpmaooailaaGreat.Rc Go.Proofs.YtccenpmaooailaaGreat.Rd Go.Proofs.YtccenpmaooailaaGreat.Re Go.Proofs.YtccenpmaooailaaGreat.Sj Go.Proofs.YtccenpmaooailaaGreat.Ya Go.Proofs.YtccenpmaooailaaGreat.Yd Go.Proofs.YtccenpmaooailaaGreat.Yf Go.Proofs.YtccenpmaooailaaGreat.Yg Go.Proofs.YtccenpmaooailaaGreat.Ih Go.Proofs.YtccenpmaooailaaGreat.Yh Go.Proofs.YtccenpmaooailaaGreat.Yi Go.Proofs.YtccenpmaooailaaGreat.Sg Go.Proofs.YtccenpmaooailaaGreat.Sf Go.Proofs.YtccenpmaooailaaGreat.Yj Go.Proofs.YtccenpmaooailaaGreat.Ig Go.Proofs.YtccenpmaooailaaGreat.Yk Go.Proofs.YtccenpmaooailaaGreat.Ik Go.Proofs.YtccenpmaooailaaGreat.Yl Go.Proofs.YtccenpmaooailaaGreat.Ij Go.Proofs.YtccenpmaooailaaGreat.Ym Go.Proofs.YtccenpmaooailaaGreat.Il Go.Proofs.YtccenpmaooailaaGreat.Yn Go.Proofs.YtccenpmaooailaaGreat.Yo Go.Proofs.YtccenpmaooailaaGreat.In Go.Proofs.YtccenpmaooailaaGreat.Yq Go.Proofs.YtccenpmaooailaaGreat.Pw Go.Proofs.YtccenpmaooailaaGreat.Px


theorem ToldOut.l {w w' : World} {p : List Occ × Bool} {e : Ending} (h : ToldOut w w' p e) : ToldL w w' p e := by
  obtain ⟨v, rfl, hs, hb⟩ := h
  obtain ⟨A, c, rfl⟩ := Kd.S_slice hs
  have h2 := Kd.S_reads' hs
  exact ⟨A, c, rfl, ⟨h2.2.1, h2.2.2⟩, hb⟩
theorem SToldOut.l {w w' : World} {p : List Occ × Bool} {e : Ending} (h : SToldOut w w' p e) : ToldL w w' p e := by
  obtain ⟨v, rfl, hs, hb⟩ := h
  obtain ⟨A, c, rfl⟩ := Kd.R_slice hs
  have h2 := Kd.R_reads' hs
  exact ⟨A, c, rfl, ⟨h2.2.1, h2.2.2⟩, hb⟩
theorem iSeq (mode : Int) (A B : Option Addr) (ca cb : Nat) (a b : List Occ) (p : List Occ × Bool) (w : World) (hp : ofI seq3 mode a b = p) (hA : IsL w a A ca) (hB : IsL w b B cb) :
    Calls Tryz.prog 30 #[.int .i64 mode, .slice A a.length ca, .slice B b.length cb] w fun e w' => ToldL w w' p e := by
  subst hp
  exact (sOf_any mode A B ca cb a b w hA hB).mono (fun e w' h => ToldOut.l h)
theorem iOr (A B : Option Addr) (ca cb : Nat) (a b : List Occ) (p : List Occ × Bool) (w : World) (hp : orI a b = p) (hA : IsL w a A ca) (hB : IsL w b B cb) :
    Calls Tryz.prog 32 #[.slice A a.length ca, .slice B b.length cb] w fun e w' => ToldL w w' p e := by
  subst hp
  exact (oOf_any A B ca cb a b w hA hB).mono (fun e w' h => ToldOut.l h)
def PutL (w w' : World) (l : List Occ) (e : Ending) : Prop := ∃ A c, e = .returned (.slice A l.length c) ∧ IsL w' l A c ∧ Below w.heap.size w w'
theorem iPut (A B : Option Addr) (c c2 : Nat) (l l2 : List Occ) (o : Occ) (w : World) (h : putO l o = l2) (ll : l.length ≤ 1048575) (lo : o.f2.length ≤ 1048576) (li : ∀ x ∈ l, x.f2.length ≤ 1048576) (hl : IsL w l A c) (ho : IsO w o B c2) :
    Calls Tryz.prog 25 #[.slice A l.length c, .agg #[.int .i64 o.f0, .int .i64 o.f1, .slice B o.f2.length c2]] w fun e w' => PutL w w' l2 e := by
  subst h
  refine (occsPut_any A B c c2 l o w hl ho ll lo li).mono ?_
  rintro e w' ⟨v, rfl, hv, hb⟩
  obtain ⟨A3, c3, rfl⟩ := Kd.S_slice hv
  have h2 := Kd.S_reads' hv
  exact ⟨A3, c3, rfl, ⟨h2.2.1, h2.2.2⟩, hb⟩
structure ElemAt (w : World) (ad : Addr) (i : Nat) (o : Occ) (A2 : Option Addr) (c2 : Nat) : Prop where
  a : w.cell? (ad.add (i * 3)) = some (.int .i64 o.f0)
  b : w.cell? ⟨(ad.add (i * 3)).block, (ad.add (i * 3)).off + 1, none⟩ = some (.int .i64 o.f1)
  c : w.cell? ⟨(ad.add (i * 3)).block, (ad.add (i * 3)).off + 2, none⟩ = some (.slice A2 o.f2.length c2)
theorem ElemAt.below {w w' : World} {ad : Addr} {i : Nat} {o : Occ} {A2 : Option Addr} {c2 : Nat} (h : ElemAt w ad i o A2 c2) (hb : Below w.heap.size w w') : ElemAt w' ad i o A2 c2 :=
  ⟨pw_cell_below hb h.a, pw_cell_below hb h.b, pw_cell_below hb h.c⟩
theorem elem {w : World} {l : List Occ} {A : Option Addr} {c : Nat} (h : IsL w l A c) {i : Nat} (hi : i < l.length) : ∃ ad A2 c2, A = some ad ∧ IsO w (l.getD i zO) A2 c2 ∧ ElemAt w ad i (l.getD i zO) A2 c2 := by
  obtain ⟨ad, A2, c2, e, h0, h1, h2, hl, hC⟩ := atO h.rd i hi
  exact ⟨ad, A2, c2, e, ⟨hl, hC⟩, ⟨h0, h1, h2⟩⟩
theorem putO_ok {l : List Occ} {o : Occ} (h : AreOk l) (hn : l.length ≤ 40) (ho : IsOk o) : putO l o = put l o := by
  unfold putO
  rw [okOs_iff.2 ⟨h, hn⟩, okO_iff.2 ho]
  rfl
theorem putO_mem {l : List Occ} {o : Occ} (h : AreOk l) (hn : l.length ≤ 40) (ho : o ∈ l) : putO l o = l := by
  rw [putO_ok h hn (h.all o ho), put_mem h.sorted ho]
/-! the pairs of two lists of which something holds, put together row by row -/
structure Got (can : Occ → Occ → Bool) (a b : List Occ) (i k : Nat) (L : List Occ) : Prop where
  ok : AreOk L
  le : L.length ≤ 40
  mem : ∀ z, z ∈ L ↔ ∃ x y, ((x ∈ a.take i ∧ y ∈ b) ∨ (x ∈ (a.drop i).take 1 ∧ y ∈ b.take k)) ∧ can x y = true ∧ z = join x y
theorem Got.row {can : Occ → Occ → Bool} {a b : List Occ} {i : Nat} {L : List Occ} (hi : i < a.length) (h : Got can a b i b.length L) : Got can a b (i + 1) 0 L := ⟨h.ok, h.le, fun z => by
  rw [h.mem, List.take_length]
  have e : a.take (i + 1) = a.take i ++ (a.drop i).take 1 := by rw [← List.take_add]
  rw [e]
  constructor
  · rintro ⟨x, y, hp, h1, h2⟩
    refine ⟨x, y, .inl ?_, h1, h2⟩
    rcases hp with ⟨p, q⟩ | ⟨p, q⟩
    · exact ⟨List.mem_append.2 (.inl p), q⟩
    · exact ⟨List.mem_append.2 (.inr p), q⟩
  · rintro ⟨x, y, hp, h1, h2⟩
    rcases hp with ⟨p, q⟩ | ⟨p, q⟩
    · rcases List.mem_append.1 p with p | p
      · exact ⟨x, y, .inl ⟨p, q⟩, h1, h2⟩
      · exact ⟨x, y, .inr ⟨p, q⟩, h1, h2⟩
    · simp at q⟩
theorem drop_one {a : List Occ} {i : Nat} (hi : i < a.length) : (a.drop i).take 1 = [a.getD i zO] := by
  rw [drop_at a zO i hi]
  rfl
theorem mem_take_succ {b : List Occ} {k : Nat} (hk : k < b.length) (y : Occ) : y ∈ b.take (k + 1) ↔ y ∈ b.take k ∨ y = b.getD k zO := by
  rw [take_succ_getD b k zO hk, List.mem_append, List.mem_singleton]
theorem Got.no {can : Occ → Occ → Bool} {a b : List Occ} {i k : Nat} {L : List Occ} (hi : i < a.length) (hk : k < b.length) (h : Got can a b i k L) (hc : can (a.getD i zO) (b.getD k zO) = false) : Got can a b i (k + 1) L := ⟨h.ok, h.le, fun z => by
  rw [h.mem, drop_one hi]
  constructor
  · rintro ⟨x, y, hp, h1, h2⟩
    refine ⟨x, y, ?_, h1, h2⟩
    rcases hp with hp | ⟨p, q⟩
    · exact .inl hp
    · exact .inr ⟨p, (mem_take_succ hk y).2 (.inl q)⟩
  · rintro ⟨x, y, hp, h1, h2⟩
    refine ⟨x, y, ?_, h1, h2⟩
    rcases hp with hp | ⟨p, q⟩
    · exact .inl hp
    · rcases (mem_take_succ hk y).1 q with q | q
      · exact .inr ⟨p, q⟩
      · rw [List.mem_singleton] at p
        rw [p, q, hc] at h1
        cases h1⟩
theorem Got.all {can : Occ → Occ → Bool} {a b : List Occ} {L : List Occ} (h : Got can a b a.length 0 L) (z : Occ) : z ∈ L ↔ ∃ x ∈ a, ∃ y ∈ b, can x y = true ∧ z = join x y := by
  rw [h.mem, List.take_length]
  simp
  constructor
  · rintro ⟨x, y, ⟨p, q⟩, h1, h2⟩
    exact ⟨x, p, y, q, h1, h2⟩
  · rintro ⟨x, p, y, q, h1, h2⟩
    exact ⟨x, y, ⟨p, q⟩, h1, h2⟩
end Go.Proofs.YtccenpmaooailaaGreat.La
