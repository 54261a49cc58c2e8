
/- What absence and repetition find, over all points in time: plain laws. No program. -/
import Derived.Test.YtccenpmaooailaaGreatMB7
import Derived.Test.YtccenpmaooailaaGreatMB6
import Derived.Test.YtccenpmaooailaaGreatMGa
set_option linter.unusedVariables false
set_option linter.unusedSimpArgs false
namespace Go.Proofs.YtccenpmaooailaaGreat.Ha
open Go.RowKit Go.Proofs.YtccenpmaooailaaGreatW.PrintWords Go.Proofs.YtccenpmaooailaaGreat.Wd Go.Proofs.YtccenpmaooailaaGreat.Pu Go.Proofs.YtccenpmaooailaaGreat.Pv Go.Proofs.YtccenpmaooailaaGreat.Ca Go.Proofs.YtccenpmaooailaaGreat.Cb Go.Proofs.YtccenpmaooailaaGreat.Cc Go.Proofs.YtccenpmaooailaaGreat.Cp Go.Proofs.YtccenpmaooailaaGreat.Cd Go.Proofs.YtccenpmaooailaaGreat.Ci Go.Proofs.YtccenpmaooailaaGreat.Ce Go.Proofs.YtccenpmaooailaaGreat.Cf Go.Proofs.YtccenpmaooailaaGreat.Cg Go.Proofs.YtccenpmaooailaaGreat.Sc Go.Proofs.YtccenpmaooailaaGreat.Se Go.Proofs.YtccenpmaooailaaGreat.Sh Go.Proofs.YtccenpmaooailaaGreat.Si Go.Proofs.YtccenpmaooailaaGreat.Sp Go.Proofs.YtccenpmaooailaaGreat.Ia Go.Proofs.YtccenpmaooailaaGreat.Ib Go.Proofs.YtccenpmaooailaaGreat.Ic Go.Proofs.YtccenpmaooailaaGreat.Id Go.Proofs.YtccenpmaooailaaGreat.Ie Go.Proofs.YtccenpmaooailaaGreat.If Go.Proofs.YtccenpmaooailaaGreat.Ig Go.Proofs.YtccenpmaooailaaGreat.Ih Go.Proofs.YtccenpmaooailaaGreat.Ij Go.Proofs.YtccenpmaooailaaGreat.Ik Go.Proofs.YtccenpmaooailaaGreat.Ra Go.Proofs.YtccenpmaooailaaGreat.Rb Go.Proofs.YtccenpmaooailaaGreat.Rc Go.Proofs.YtccenpmaooailaaGreat.Rd Go.Proofs.YtccenpmaooailaaGreat.Re Go.Proofs.YtccenpmaooailaaGreat.Sj Go.Proofs.YtccenpmaooailaaGreat.Ya Go.Proofs.YtccenpmaooailaaGreat.Yd Go.Proofs.YtccenpmaooailaaGreat.Yf Go.Proofs.YtccenpmaooailaaGreat.Yg Go.Proofs.YtccenpmaooailaaGreat.Ih Go.Proofs.YtccenpmaooailaaGreat.Yh Go.Proofs.YtccenpmaooailaaGreat.Yi Go.Proofs.YtccenpmaooailaaGreat.Sg Go.Proofs.YtccenpmaooailaaGreat.Sf Go.Proofs.YtccenpmaooailaaGreat.Yj Go.Proofs.YtccenpmaooailaaGreat.Ig Go.Proofs.YtccenpmaooailaaGreat.Yk Go.Proofs.YtccenpmaooailaaGreat.Ik Go.Proofs.YtccenpmaooailaaGreat.Yl Go.Proofs.YtccenpmaooailaaGreat.Ij Go.Proofs.YtccenpmaooailaaGreat.Ym Go.Proofs.YtccenpmaooailaaGreat.Il Go.Proofs.YtccenpmaooailaaGreat.Yn Go.Proofs.YtccenpmaooailaaGreat.Yo Go.Proofs.YtccenpmaooailaaGreat.In Go.Proofs.YtccenpmaooailaaGreat.Yq Go.Proofs.YtccenpmaooailaaGreat.Pw Go.Proofs.YtccenpmaooailaaGreat.Px Go.Proofs.YtccenpmaooailaaGreat.La Go.Proofs.YtccenpmaooailaaGreat.Db Go.Proofs.YtccenpmaooailaaGreat.Ta Go.Proofs.YtccenpmaooailaaGreat.Tb Go.Proofs.YtccenpmaooailaaGreat.Td Go.Proofs.YtccenpmaooailaaGreat.Te Go.Proofs.YtccenpmaooailaaGreat.Sh Go.Proofs.YtccenpmaooailaaGreat.Id Go.Proofs.YtccenpmaooailaaGreat.Ik Go.Proofs.YtccenpmaooailaaGreat.Il Go.Proofs.YtccenpmaooailaaGreat.Ij Go.Proofs.YtccenpmaooailaaGreat.Ga Go.Proofs.YtccenpmaooailaaGreat.Ih Go.Proofs.YtccenpmaooailaaGreat.Ig

theorem opn_lt {m : List Occ} {o x : Occ} (h : opn m o x = true) : x.f1 < o.f0 := by
  unfold opn at h
  simp only [Bool.and_eq_true, decide_eq_true_eq] at h
  exact h.1
theorem n_fold_out {mode : Int} {m : List Occ} : ∀ (os F out : List Occ), Sorted out → os.foldl (notStep mode m) (F, out) = ((os.foldl (notStep mode m) (F, [])).1, putAll out (os.foldl (notStep mode m) (F, [])).2)
  | [], F, out, _ => by simp [putAll]
  | o :: os, F, out, h => by
    have e : ∀ x : List Occ, notStep mode m (F, x) o = (without F (combine mode o (F.filter (opn m o))).2, putAll x (combine mode o (F.filter (opn m o))).1) := fun _ => rfl
    rw [List.foldl_cons, List.foldl_cons, e, e]
    generalize without F (combine mode o (F.filter (opn m o))).2 = F'
    generalize (combine mode o (F.filter (opn m o))).1 = f
    rw [n_fold_out os F' (putAll out f) (sorted_putAll h), n_fold_out os F' (putAll [] f) (sorted_putAll (by simp [Sorted]))]
    simp only
    rw [putAll_putAll h]
theorem n_step_filter {mode : Int} {m : List Occ} {F out : List Occ} {o : Occ} {T : Int} (h : o.f0 ≤ T) : notStep mode m (F.filter (fun x => decide (x.f1 < T)), out) o = ((notStep mode m (F, out) o).1.filter (fun x => decide (x.f1 < T)), (notStep mode m (F, out) o).2) := by
  have e : (F.filter (fun x => decide (x.f1 < T))).filter (opn m o) = F.filter (opn m o) := by
    rw [List.filter_filter]
    apply List.filter_congr
    intro x _
    cases hx : opn m o x with
    | false => rfl
    | true =>
      have h2 := opn_lt hx
      have : x.f1 < T := by omega
      simp [this]
  unfold notStep
  simp only [e]
  congr 1
  unfold without
  rw [List.filter_filter, List.filter_filter]
  apply List.filter_congr
  intro x _
  exact Bool.and_comm _ _
theorem n_fold_filter {mode : Int} {m : List Occ} {T : Int} : ∀ (os F out : List Occ), (∀ o ∈ os, o.f0 ≤ T) → os.foldl (notStep mode m) (F.filter (fun x => decide (x.f1 < T)), out) = ((os.foldl (notStep mode m) (F, out)).1.filter (fun x => decide (x.f1 < T)), (os.foldl (notStep mode m) (F, out)).2)
  | [], _, _, _ => rfl
  | o :: os, F, out, h => by
    rw [List.foldl_cons, List.foldl_cons, n_step_filter (h o (by simp))]
    exact n_fold_filter os _ _ (fun x hx => h x (List.mem_cons_of_mem _ hx))
theorem n_fold_sub {mode : Int} {m : List Occ} : ∀ (os F out : List Occ) (x : Occ), x ∈ (os.foldl (notStep mode m) (F, out)).1 → x ∈ F
  | [], _, _, _, h => h
  | o :: os, F, out, x, h => by
    have := n_fold_sub os _ _ x h
    exact (mem_without.1 this).1
theorem n_fold_keep {mode : Int} {m : List Occ} : ∀ (os F out : List Occ) (x : Occ), (∀ o ∈ os, o.f0 ≤ x.f1) → x ∈ F → x ∈ (os.foldl (notStep mode m) (F, out)).1
  | [], _, _, _, _, h => h
  | o :: os, F, out, x, ho, h => by
    refine n_fold_keep os _ _ x (fun y hy => ho y (List.mem_cons_of_mem _ hy)) (mem_without.2 ⟨h, fun hg => ?_⟩)
    have h1 := (List.mem_filter.1 (mem_gone hg)).2
    have h2 := ho o (by simp)
    have := opn_lt h1
    omega
theorem n_fold_sorted {mode : Int} {m : List Occ} : ∀ (os F out : List Occ), Sorted F → Sorted out → Sorted (os.foldl (notStep mode m) (F, out)).1 ∧ Sorted (os.foldl (notStep mode m) (F, out)).2
  | [], _, _, h, g => ⟨h, g⟩
  | o :: os, F, out, h, g => n_fold_sorted os _ _ (sorted_without h) (sorted_putAll g)

theorem mid_next {b : List Occ} (hb : AreOk b) (t : Int) : putAll (b.filter (fun x => decide (x.f1 < t))) (atT b t) = b.filter (fun x => decide (x.f1 < t + 1)) := by
  refine sorted_ext (sorted_putAll (hb.sorted.filter _)) (hb.sorted.filter _) (fun z => ?_)
  rw [mem_putAll, List.mem_filter, List.mem_filter]
  unfold atT
  rw [List.mem_filter]
  simp only [decide_eq_true_eq]
  constructor
  · rintro (⟨h1, h2⟩ | ⟨h1, h2⟩)
    · exact ⟨h1, by omega⟩
    · exact ⟨h1, by omega⟩
  · rintro ⟨h1, h2⟩
    by_cases e : z.f1 = t
    · exact .inr ⟨h1, e⟩
    · exact .inl ⟨h1, by omega⟩
theorem opn_mid {b : List Occ} {t : Int} {o : Occ} (h : o.f0 ≤ t) : opn (b.filter (fun x => decide (x.f1 < t))) o = opn b o := by
  funext x
  have e : between (b.filter (fun x => decide (x.f1 < t))) x.f1 o.f0 = between b x.f1 o.f0 := by
    unfold between
    rw [List.any_filter]
    congr 1
    funext z
    by_cases hz : z.f1 < o.f0
    · have : z.f1 < t := by omega
      simp [this]
    · simp [hz]
  unfold opn
  rw [e]
theorem not_mid {mode : Int} {b : List Occ} {t : Int} : ∀ {os : List Occ} {st : List Occ × List Occ}, (∀ o ∈ os, o.f0 ≤ t) → os.foldl (notStep mode (b.filter (fun x => decide (x.f1 < t)))) st = os.foldl (notStep mode b) st
  | [], _, _ => rfl
  | o :: os, st, h => by
    rw [List.foldl_cons, List.foldl_cons]
    have e : notStep mode (b.filter (fun x => decide (x.f1 < t))) st o = notStep mode b st o := by
      unfold notStep
      rw [opn_mid (h o (by simp))]
    rw [e]
    exact not_mid (fun x hx => h x (List.mem_cons_of_mem _ hx))
theorem each_mid {mode : Int} {b : List Occ} {t : Int} : ∀ {os : List Occ} {st : List Occ × List Occ}, (∀ o ∈ os, o.f0 ≤ t) → os.foldl (eStep mode (b.filter (fun x => decide (x.f1 < t)))) st = os.foldl (eStep mode b) st
  | [], _, _ => rfl
  | o :: os, st, h => by
    rw [List.foldl_cons, List.foldl_cons]
    have e : eStep mode (b.filter (fun x => decide (x.f1 < t))) st o = eStep mode b st o := by
      unfold eStep
      rw [opn_mid (h o (by simp))]
    rw [e]
    exact each_mid (fun x hx => h x (List.mem_cons_of_mem _ hx))
theorem not_main {mode : Int} {a b c : List Occ} (ha : AreOk a) (hb : AreOk b) (hc0 : AreOk c) : ∀ (ts : List Int) (T : Int) (F : List Occ) (st : P3), Asc ts → (∀ t ∈ ts, T ≤ t) → (∀ x, (x ∈ a ∨ x ∈ b ∨ x ∈ c) → T ≤ x.f1 → x.f1 ∈ ts) → Sorted F → Sorted st.c →
    st.a = F.filter (fun x => decide (x.f1 < T)) → st.b = b.filter (fun x => decide (x.f1 < T)) → (∀ x, T ≤ x.f1 → (x ∈ F ↔ x ∈ a)) → (ts.foldl (all3Step (not3 mode) a b c) st).c = ((c.filter (fun x => decide (T ≤ x.f1))).foldl (notStep mode b) (F, st.c)).2
  | [], T, F, st, _, _, hin, _, _, _, _, _ => by
    have : c.filter (fun x => decide (T ≤ x.f1)) = [] := by
      rw [List.filter_eq_nil_iff]
      intro x hx hc
      have := hin x (.inr (.inr hx)) (by simpa using hc)
      simp at this
    rw [this]
    rfl
  | t :: ts, T, F, st, hasc, hle, hin, hF, hc, hst, hstb, hFa => by
    obtain ⟨ht, hts⟩ := List.pairwise_cons.1 hasc
    have hTt := hle t (by simp)
    have hlow : ∀ x, (x ∈ a ∨ x ∈ b ∨ x ∈ c) → T ≤ x.f1 → t ≤ x.f1 := fun x hx h => by
      rcases List.mem_cons.1 (hin x hx h) with e | e
      · omega
      · have := ht _ e; omega
    rw [Go.Proofs.YtccenpmaooailaaGreat.Pw.part hc0.sorted hTt (fun x hx h => hlow x (.inr (.inr hx)) h), List.foldl_append, List.foldl_cons]
    have hof : ∀ o ∈ atT c t, o.f0 ≤ t := fun o ho => by
      have h1 := List.mem_filter.1 ho
      have h2 := (hc0.all o h1.1).ft
      have h3 : o.f1 = t := by simpa using h1.2
      omega
    have hst2 : st.a = F.filter (fun x => decide (x.f1 < t)) := by
      rw [hst]
      apply List.filter_congr
      intro x hx
      rw [decide_eq_decide]
      constructor
      · intro h; omega
      · intro h
        rcases Int.lt_or_le x.f1 T with h2 | h2
        · exact h2
        · have := hlow x (.inl ((hFa x h2).1 hx)) h2; omega
    have hstb2 : st.b = b.filter (fun x => decide (x.f1 < t)) := by
      rw [hstb]
      apply List.filter_congr
      intro x hx
      rw [decide_eq_decide]
      constructor
      · intro h; omega
      · intro h
        rcases Int.lt_or_le x.f1 T with h2 | h2
        · exact h2
        · have := hlow x (.inr (.inl hx)) h2; omega
    have hg := n_fold_out (mode := mode) (m := b) (atT c t) F st.c hc
    have hf := n_fold_filter (mode := mode) (m := b) (T := t) (atT c t) F [] hof
    obtain ⟨s1, s2⟩ := n_fold_sorted (mode := mode) (m := b) (atT c t) F [] hF (by simp [Sorted])
    have k1 := n_fold_keep (mode := mode) (m := b) (atT c t) F []
    have k2 := n_fold_sub (mode := mode) (m := b) (atT c t) F []
    rw [hg]
    have hbs : all3Step (not3 mode) a b c st t = ⟨putAll ((atT c t).foldl (notStep mode st.b) (st.a, [])).1 (atT a t), putAll st.b (atT b t), putAll st.c ((atT c t).foldl (notStep mode st.b) (st.a, [])).2⟩ := rfl
    have hmid : putAll st.b (atT b t) = b.filter (fun x => decide (x.f1 < t + 1)) := by rw [hstb2]; exact mid_next hb t
    rw [hbs, hmid, hstb2, not_mid hof, hst2, hf]
    generalize (atT c t).foldl (notStep mode b) (F, []) = G at s1 s2 k1 k2 ⊢
    refine not_main ha hb hc0 ts (t + 1) G.1 _ hts (fun x hx => by have := ht x hx; omega) (fun x hx h => ?_) s1 (sorted_putAll hc) ?_ rfl (fun x hx => ?_)
    · rcases List.mem_cons.1 (hin x hx (by omega)) with e | e
      · omega
      · exact e
    · refine sorted_ext (sorted_putAll (s1.filter _)) (s1.filter _) (fun z => ?_)
      rw [mem_putAll, List.mem_filter, List.mem_filter]
      unfold atT
      rw [List.mem_filter]
      simp only [decide_eq_true_eq]
      constructor
      · rintro (⟨h1, h2⟩ | ⟨h1, h2⟩)
        · exact ⟨h1, by omega⟩
        · exact ⟨k1 z (fun o ho => by have := hof o ho; omega) ((hFa z (by omega)).2 h1), by omega⟩
      · rintro ⟨h1, h2⟩
        by_cases e : z.f1 = t
        · exact .inr ⟨(hFa z (by omega)).1 (k2 z h1), e⟩
        · exact .inl ⟨h1, by omega⟩
    · rw [← hFa x (by omega)]
      exact ⟨k2 x, k1 x (fun o ho => by have := hof o ho; omega)⟩

/-! repetition: what waits is all that was before -/
theorem e_out {mode : Int} {m : List Occ} : ∀ (os F out : List Occ), Sorted out → (os.foldl (eStep mode m) (F, out)).2 = putAll out (os.foldl (eStep mode m) (F, [])).2
  | [], F, out, _ => by simp [putAll]
  | o :: os, F, out, h => by
    have e : ∀ x : List Occ, eStep mode m (F, x) o = (F, putAll x (combine mode o (F.filter (opn m o))).1) := fun _ => rfl
    rw [List.foldl_cons, List.foldl_cons, e, e]
    generalize (combine mode o (F.filter (opn m o))).1 = f
    rw [e_out os F (putAll out f) (sorted_putAll h), e_out os F (putAll [] f) (sorted_putAll (by simp [Sorted]))]
    exact putAll_putAll h
theorem e_filter {mode : Int} {m : List Occ} {T : Int} : ∀ (os F out : List Occ), (∀ o ∈ os, o.f0 ≤ T) → (os.foldl (eStep mode m) (F.filter (fun x => decide (x.f1 < T)), out)).2 = (os.foldl (eStep mode m) (F, out)).2
  | [], _, _, _ => rfl
  | o :: os, F, out, h => by
    have e : (F.filter (fun x => decide (x.f1 < T))).filter (opn m o) = F.filter (opn m o) := by
      rw [List.filter_filter]
      apply List.filter_congr
      intro x _
      cases hx : opn m o x with
      | false => rfl
      | true =>
        have h2 := opn_lt hx
        have h3 := h o (by simp)
        have : x.f1 < T := by omega
        simp [this]
    have e1 : eStep mode m (F.filter (fun x => decide (x.f1 < T)), out) o = (F.filter (fun x => decide (x.f1 < T)), putAll out (combine mode o (F.filter (opn m o))).1) := by
      unfold eStep
      rw [e]
    have e2 : eStep mode m (F, out) o = (F, putAll out (combine mode o (F.filter (opn m o))).1) := rfl
    rw [List.foldl_cons, List.foldl_cons, e1, e2]
    exact e_filter os F _ (fun x hx => h x (List.mem_cons_of_mem _ hx))
theorem e_sorted {mode : Int} {m : List Occ} : ∀ (os F out : List Occ), Sorted out → Sorted (os.foldl (eStep mode m) (F, out)).2
  | [], _, _, g => g
  | o :: os, F, out, g => e_sorted os _ _ (sorted_putAll g)
theorem each_main {mode : Int} {a b c : List Occ} (ha : AreOk a) (hb : AreOk b) (hc0 : AreOk c) : ∀ (ts : List Int) (T : Int) (st : P3), Asc ts → (∀ t ∈ ts, T ≤ t) → (∀ x, (x ∈ a ∨ x ∈ b ∨ x ∈ c) → T ≤ x.f1 → x.f1 ∈ ts) → Sorted st.c →
    st.a = a.filter (fun x => decide (x.f1 < T)) → st.b = c.filter (fun x => decide (x.f1 < T)) → (ts.foldl (all3Step (each3 mode) a b c) st).c = ((b.filter (fun x => decide (T ≤ x.f1))).foldl (eStep mode c) (a, st.c)).2
  | [], T, st, _, _, hin, _, _, _ => by
    have : b.filter (fun x => decide (T ≤ x.f1)) = [] := by
      rw [List.filter_eq_nil_iff]
      intro x hx hc
      have := hin x (.inr (.inl hx)) (by simpa using hc)
      simp at this
    rw [this]
    rfl
  | t :: ts, T, st, hasc, hle, hin, hc, hst, hstb => by
    obtain ⟨ht, hts⟩ := List.pairwise_cons.1 hasc
    have hTt := hle t (by simp)
    have hlow : ∀ x, (x ∈ a ∨ x ∈ b ∨ x ∈ c) → T ≤ x.f1 → t ≤ x.f1 := fun x hx h => by
      rcases List.mem_cons.1 (hin x hx h) with e | e
      · omega
      · have := ht _ e; omega
    rw [Go.Proofs.YtccenpmaooailaaGreat.Pw.part hb.sorted hTt (fun x hx h => hlow x (.inr (.inl hx)) h), List.foldl_append, List.foldl_cons]
    have hof : ∀ o ∈ atT b t, o.f0 ≤ t := fun o ho => by
      have h1 := List.mem_filter.1 ho
      have h2 := (hb.all o h1.1).ft
      have h3 : o.f1 = t := by simpa using h1.2
      omega
    have low : ∀ {l : List Occ}, (∀ x ∈ l, x ∈ a ∨ x ∈ b ∨ x ∈ c) → l.filter (fun x => decide (x.f1 < T)) = l.filter (fun x => decide (x.f1 < t)) := fun hl => by
      apply List.filter_congr
      intro x hx
      rw [decide_eq_decide]
      constructor
      · intro h; omega
      · intro h
        rcases Int.lt_or_le x.f1 T with h2 | h2
        · exact h2
        · have := hlow x (hl x hx) h2; omega
    have hst2 : st.a = a.filter (fun x => decide (x.f1 < t)) := by rw [hst]; exact low (fun x hx => .inl hx)
    have hstb2 : st.b = c.filter (fun x => decide (x.f1 < t)) := by rw [hstb]; exact low (fun x hx => .inr (.inr hx))
    have hbs : all3Step (each3 mode) a b c st t = ⟨putAll ((atT b t).foldl (eStep mode st.b) (st.a, [])).1 (atT a t), putAll st.b (atT c t), putAll st.c ((atT b t).foldl (eStep mode st.b) (st.a, [])).2⟩ := rfl
    have hfst : ((atT b t).foldl (eStep mode st.b) (st.a, [])).1 = st.a := eStep_fst _ _
    have hmid : putAll st.b (atT c t) = c.filter (fun x => decide (x.f1 < t + 1)) := by rw [hstb2]; exact mid_next hc0 t
    have hmia : putAll st.a (atT a t) = a.filter (fun x => decide (x.f1 < t + 1)) := by rw [hst2]; exact mid_next ha t
    rw [hbs, hfst, hmid, hmia, hstb2, each_mid hof, hst2, e_filter _ _ _ hof]
    rw [each_main ha hb hc0 ts (t + 1) _ hts (fun x hx => by have := ht x hx; omega) (fun x hx h => by
      rcases List.mem_cons.1 (hin x hx (by omega)) with e | e
      · omega
      · exact e) (sorted_putAll hc) rfl rfl]
    have h1 := e_out (mode := mode) (m := c) (atT b t) a st.c hc
    have h2 : ((atT b t).foldl (eStep mode c) (a, st.c)) = (a, putAll st.c ((atT b t).foldl (eStep mode c) (a, [])).2) := by
      rw [← h1]
      have := eStep_fst (mode := mode) (m := c) (atT b t) (a, st.c)
      exact Prod.ext this rfl
    rw [h2]
theorem n_fold_from {mode : Int} {m : List Occ} (h4 : mode ≠ 4) : ∀ (os F out : List Occ) (z : Occ), z ∈ (os.foldl (notStep mode m) (F, out)).2 → z ∈ out ∨ ∃ s ∈ F, ∃ o ∈ os, opn m o s = true ∧ z = join o s
  | [], _, _, _, h => .inl h
  | o :: os, F, out, z, h => by
    rcases n_fold_from h4 os _ _ z h with h | ⟨s, hs, p, hp, h1, h2⟩
    · rcases (mem_putAll z _ _).1 h with h | h
      · exact .inl h
      · obtain ⟨x, hx, e⟩ := found_sub h4 h
        obtain ⟨hx1, hx2⟩ := List.mem_filter.1 hx
        exact .inr ⟨x, hx1, o, by simp, hx2, e⟩
    · exact .inr ⟨s, (mem_without.1 hs).1, p, List.mem_cons_of_mem _ hp, h1, h2⟩
theorem n_fold_out_sub {mode : Int} {m : List Occ} : ∀ (os F out : List Occ) (z : Occ), z ∈ out → z ∈ (os.foldl (notStep mode m) (F, out)).2
  | [], _, _, _, h => h
  | o :: os, F, out, z, h => n_fold_out_sub os _ _ z ((mem_putAll z _ _).2 (.inl h))
theorem n_fold_has {m : List Occ} : ∀ (os F out : List Occ) (s o : Occ), s ∈ F → o ∈ os → opn m o s = true → join o s ∈ (os.foldl (notStep 0 m) (F, out)).2
  | p :: os, F, out, s, o, hs, ho, h => by
    rw [List.foldl_cons]
    have e : notStep 0 m (F, out) p = (F, putAll out (combine 0 p (F.filter (opn m p))).1) := by
      unfold notStep
      simp only [gone_all, without_nil]
    rw [e]
    rcases List.mem_cons.1 ho with rfl | ho
    · exact n_fold_out_sub os _ _ _ ((mem_putAll _ _ _).2 (.inr (found_all (List.mem_filter.2 ⟨hs, h⟩))))
    · exact n_fold_has os _ _ s o hs ho h
theorem n_fold_some {mode : Int} {m : List Occ} : ∀ (os F out : List Occ) (s o : Occ), s ∈ F → o ∈ os → opn m o s = true → (os.foldl (notStep mode m) (F, out)).2 ≠ []
  | p :: os, F, out, s, o, hs, ho, h => by
    rw [List.foldl_cons]
    have e : notStep mode m (F, out) p = (without F (combine mode p (F.filter (opn m p))).2, putAll out (combine mode p (F.filter (opn m p))).1) := rfl
    rw [e]
    by_cases hp : F.filter (opn m p) = []
    · have hn : ¬ (opn m p s = true) := fun hc => by
        have : s ∈ F.filter (opn m p) := List.mem_filter.2 ⟨hs, hc⟩
        rw [hp] at this
        simp at this
      rcases List.mem_cons.1 ho with rfl | ho
      · exact absurd h hn
      · refine n_fold_some os _ _ s o (mem_without.2 ⟨hs, fun hg => ?_⟩) ho h
        have := mem_gone hg
        rw [hp] at this
        simp at this
    · obtain ⟨z, hz⟩ := List.exists_mem_of_ne_nil _ (found_some (mode := mode) (o := p) hp)
      exact List.ne_nil_of_mem (n_fold_out_sub os _ _ z ((mem_putAll z _ _).2 (.inr hz)))
theorem n_fold_none {mode : Int} {m : List Occ} : ∀ (os F out : List Occ), (∀ s ∈ F, ∀ o ∈ os, ¬ opn m o s = true) → (os.foldl (notStep mode m) (F, out)).2 = out
  | [], _, _, _ => rfl
  | p :: os, F, out, h => by
    have hf : F.filter (opn m p) = [] := by
      rw [List.filter_eq_nil_iff]
      intro x hx hc
      exact h x hx p (by simp) hc
    have e : notStep mode m (F, out) p = (F, out) := by
      unfold notStep combine
      simp only [hf, List.length_nil, if_true, without_nil, putAll]
    rw [List.foldl_cons, e]
    exact n_fold_none os F out (fun s hs o ho => h s hs o (List.mem_cons_of_mem _ ho))

def nq (mode : Int) (a m c : List Occ) : List Occ := (c.foldl (notStep mode m) (a, [])).2
def ew (mode : Int) (a m b : List Occ) : List Occ := (b.foldl (eStep mode m) (a, [])).2
theorem low_nil {a : List Occ} (ha : AreOk a) : a.filter (fun x => decide (x.f1 < 0)) = [] := by
  rw [List.filter_eq_nil_iff]
  intro x hx h
  have h1 := (ha.all x hx).f1; have h2 := (ha.all x hx).ft
  simp at h
  omega
theorem high_all {a : List Occ} (ha : AreOk a) : a.filter (fun x => decide ((0 : Int) ≤ x.f1)) = a := by
  rw [List.filter_eq_self]
  intro x hx
  have h1 := (ha.all x hx).f1; have h2 := (ha.all x hx).ft
  rw [decide_eq_true_eq]
  omega
theorem not_all {mode : Int} {a b c : List Occ} (ha : AreOk a) (hb : AreOk b) (hc : AreOk c) : (all3 (not3 mode) a b c (tms (a ++ (b ++ c)))).c = nq mode a b c := by
  have hab : ∀ o ∈ a ++ (b ++ c), IsOk o := fun o ho => (List.mem_append.1 ho).elim (ha.all o) (fun h => (List.mem_append.1 h).elim (hb.all o) (hc.all o))
  have h := not_main (mode := mode) ha hb hc (tms (a ++ (b ++ c))) 0 a ⟨[], [], []⟩ (asc_tms _) (fun t ht => by
    obtain ⟨o, ho, rfl⟩ := (mem_tms hab t).1 ht
    have h1 := (hab o ho).f1; have h2 := (hab o ho).ft; omega) (fun x hx _ => (mem_tms hab _).2 ⟨x, by rcases hx with h | h | h <;> simp [h], rfl⟩) ha.sorted (by simp [Sorted]) (low_nil ha).symm (low_nil hb).symm (fun x _ => Iff.rfl)
  unfold all3 nq
  rw [h, high_all hc]
theorem each_all {mode : Int} {a b c : List Occ} (ha : AreOk a) (hb : AreOk b) (hc : AreOk c) : (all3 (each3 mode) a b c (tms (a ++ (b ++ c)))).c = ew mode a c b := by
  have hab : ∀ o ∈ a ++ (b ++ c), IsOk o := fun o ho => (List.mem_append.1 ho).elim (ha.all o) (fun h => (List.mem_append.1 h).elim (hb.all o) (hc.all o))
  have h := each_main (mode := mode) ha hb hc (tms (a ++ (b ++ c))) 0 ⟨[], [], []⟩ (asc_tms _) (fun t ht => by
    obtain ⟨o, ho, rfl⟩ := (mem_tms hab t).1 ht
    have h1 := (hab o ho).f1; have h2 := (hab o ho).ft; omega) (fun x hx _ => (mem_tms hab _).2 ⟨x, by rcases hx with h | h | h <;> simp [h], rfl⟩) (by simp [Sorted]) (low_nil ha).symm (low_nil hc).symm
  unfold all3 ew
  rw [h, high_all hb]
theorem ofN_not {mode : Int} {a b c : List Occ} : ofN not3 mode a b c = if fits5 mode [] [] a b c then told (nq mode a b c) else ([], false) := by
  unfold ofN
  by_cases h : fits5 mode [] [] a b c = true
  · rw [if_pos h, if_pos h]
    obtain ⟨hm, _, _, ⟨ha, na⟩, ⟨hb, nb⟩, ⟨hc, nc⟩⟩ := fits5_iff.1 h
    rw [not_all ha hb hc]
  · rw [if_neg h, if_neg h]
theorem ofN_each {mode : Int} {a b c : List Occ} : ofN each3 mode a b c = if fits5 mode [] [] a b c then told (ew mode a c b) else ([], false) := by
  unfold ofN
  by_cases h : fits5 mode [] [] a b c = true
  · rw [if_pos h, if_pos h]
    obtain ⟨hm, _, _, ⟨ha, na⟩, ⟨hb, nb⟩, ⟨hc, nc⟩⟩ := fits5_iff.1 h
    rw [each_all ha hb hc]
  · rw [if_neg h, if_neg h]
/-! what is found -/
theorem nq_from {mode : Int} (h4 : mode ≠ 4) {a m c : List Occ} {z : Occ} (h : z ∈ nq mode a m c) : ∃ s ∈ a, ∃ o ∈ c, opn m o s = true ∧ z = join o s := by
  rcases n_fold_from h4 c a [] z h with h | h
  · simp at h
  · exact h
theorem mem_nq0 {a m c : List Occ} {z : Occ} : z ∈ nq 0 a m c ↔ ∃ s ∈ a, ∃ o ∈ c, opn m o s = true ∧ z = join o s :=
  ⟨nq_from (by decide), fun ⟨s, hs, o, ho, h, e⟩ => by rw [e]; exact n_fold_has c a [] s o hs ho h⟩
theorem nq_some {mode : Int} {a m c : List Occ} : nq mode a m c ≠ [] ↔ ∃ s ∈ a, ∃ o ∈ c, opn m o s = true := by
  constructor
  · intro h
    apply Classical.byContradiction
    intro hc
    exact h (n_fold_none c a [] (fun s hs o ho hl => hc ⟨s, hs, o, ho, hl⟩))
  · rintro ⟨s, hs, o, ho, h⟩
    exact n_fold_some c a [] s o hs ho h
theorem sorted_nq {mode : Int} {a m c : List Occ} (h : Sorted a) : Sorted (nq mode a m c) := (n_fold_sorted c a [] h (by simp [Sorted])).2
theorem sorted_ew {mode : Int} {a m b : List Occ} : Sorted (ew mode a m b) := e_sorted b a [] (by simp [Sorted])
theorem mem_ew {mode : Int} {a m : List Occ} {z : Occ} : ∀ {b out : List Occ}, z ∈ (b.foldl (eStep mode m) (a, out)).2 ↔ z ∈ out ∨ ∃ o ∈ b, z ∈ (combine mode o (a.filter (opn m o))).1
  | [], out => by simp
  | o :: os, out => by
    have e : eStep mode m (a, out) o = (a, putAll out (combine mode o (a.filter (opn m o))).1) := rfl
    rw [List.foldl_cons, e, mem_ew (b := os), mem_putAll]
    simp only [List.mem_cons, exists_eq_or_imp]
    constructor
    · rintro ((h | h) | h)
      · exact .inl h
      · exact .inr (.inl h)
      · exact .inr (.inr h)
    · rintro (h | h | h)
      · exact .inl (.inl h)
      · exact .inl (.inr h)
      · exact .inr h
theorem ew_from {mode : Int} (h4 : mode ≠ 4) {a m b : List Occ} {z : Occ} (h : z ∈ ew mode a m b) : ∃ s ∈ a, ∃ o ∈ b, opn m o s = true ∧ z = join o s := by
  rcases mem_ew.1 h with h | ⟨o, ho, h⟩
  · simp at h
  · obtain ⟨x, hx, e⟩ := found_sub h4 h
    obtain ⟨h1, h2⟩ := List.mem_filter.1 hx
    exact ⟨x, h1, o, ho, h2, e⟩
theorem found_all' {mode : Int} (hm : mode = 0 ∨ mode = 3) {o : Occ} {s : List Occ} {x : Occ} (h : x ∈ s) : join o x ∈ (combine mode o s).1 := by
  unfold combine
  rw [if_neg (by have := List.length_pos_of_mem h; omega), if_neg (by omega), if_neg (by omega), if_neg (by omega)]
  rw [mem_putAll]
  exact .inr (List.mem_map.2 ⟨x, h, rfl⟩)
theorem mem_ew0 {mode : Int} (hm : mode = 0 ∨ mode = 3) {a m b : List Occ} {z : Occ} : z ∈ ew mode a m b ↔ ∃ s ∈ a, ∃ o ∈ b, opn m o s = true ∧ z = join o s :=
  ⟨ew_from (by omega), fun ⟨s, hs, o, ho, h, e⟩ => mem_ew.2 (.inr ⟨o, ho, by rw [e]; exact found_all' hm (List.mem_filter.2 ⟨hs, h⟩)⟩)⟩
theorem ew_some {mode : Int} {a m b : List Occ} : ew mode a m b ≠ [] ↔ ∃ s ∈ a, ∃ o ∈ b, opn m o s = true := by
  constructor
  · intro h
    obtain ⟨z, hz⟩ := List.exists_mem_of_ne_nil _ h
    rcases mem_ew.1 hz with h | ⟨o, ho, h⟩
    · simp at h
    · have hne : a.filter (opn m o) ≠ [] := fun e => by
        rw [e] at h
        simp [combine] at h
      obtain ⟨x, hx⟩ := List.exists_mem_of_ne_nil _ hne
      obtain ⟨h1, h2⟩ := List.mem_filter.1 hx
      exact ⟨x, h1, o, ho, h2⟩
  · rintro ⟨s, hs, o, ho, h⟩
    have hne : a.filter (opn m o) ≠ [] := List.ne_nil_of_mem (List.mem_filter.2 ⟨hs, h⟩)
    obtain ⟨z, hz⟩ := List.exists_mem_of_ne_nil _ (found_some (mode := mode) (o := o) hne)
    exact List.ne_nil_of_mem (mem_ew.2 (.inr ⟨o, ho, hz⟩))
/-! nothing in the middle -/
theorem opn_nil (o : Occ) : opn [] o = before o := by
  funext x
  unfold opn before between
  simp
theorem nq_nil (mode : Int) (a c : List Occ) : nq mode a [] c = sq mode a c := by
  have e : notStep mode [] = seqStep mode := by
    funext st o
    unfold notStep seqStep
    rw [opn_nil]
  unfold nq sq
  rw [e]
theorem fits5_nil {mode : Int} {a c : List Occ} : fits5 mode [] [] a [] c = (inb mode 0 4 && okOs a && okOs c) := by
  have e : okOs [] = true := rfl
  unfold fits5
  rw [e]
  simp
theorem not_seq (mode : Int) (a c : List Occ) : ofN not3 mode a [] c = ofI seq3 mode a c := by
  rw [ofN_not, ofI_seq, fits5_nil, nq_nil]
theorem ofN_cases (stp : Int → Stp) (q : Int → List Occ → List Occ → List Occ → List Occ) (he : ∀ {m a b c}, ofN stp m a b c = if fits5 m [] [] a b c then told (q m a b c) else ([], false)) (md : Int) (a b c : List Occ) :
    ofN stp md a b c = ([], false) ∨ ((0 ≤ md ∧ md ≤ 4) ∧ (AreOk a ∧ a.length ≤ 40) ∧ (AreOk b ∧ b.length ≤ 40) ∧ (AreOk c ∧ c.length ≤ 40) ∧ (q md a b c).length ≤ 40 ∧ ofN stp md a b c = (q md a b c, true)) := by
  rw [he]
  by_cases h : fits5 md [] [] a b c = true
  · rw [if_pos h]
    obtain ⟨hm, _, _, ha, hb, hc⟩ := fits5_iff.1 h
    unfold told
    split
    · exact .inl rfl
    · exact .inr ⟨hm, ha, hb, hc, by omega, rfl⟩
  · rw [if_neg h]
    exact .inl rfl
end Go.Proofs.YtccenpmaooailaaGreat.Ha
