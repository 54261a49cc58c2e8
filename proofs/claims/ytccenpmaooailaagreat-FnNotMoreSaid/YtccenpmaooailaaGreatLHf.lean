
/- More disturbances, more that closes: plain laws. -/
import Derived.Test.YtccenpmaooailaaGreatLB7
import Derived.Test.YtccenpmaooailaaGreatLB6
import Derived.Test.YtccenpmaooailaaGreatLHc
set_option linter.unusedVariables false
set_option linter.unusedSimpArgs false
namespace Go.Proofs.YtccenpmaooailaaGreat.Hf
open Go.RowKit Go.Proofs.YtccenpmaooailaaGreatW.PrintWords Go.Proofs.YtccenpmaooailaaGreat.Wd Go.Proofs.YtccenpmaooailaaGreat.Pu Go.Proofs.YtccenpmaooailaaGreat.Pv Go.Proofs.YtccenpmaooailaaGreat.Ca Go.Proofs.YtccenpmaooailaaGreat.Cb Go.Proofs.YtccenpmaooailaaGreat.Cc Go.Proofs.YtccenpmaooailaaGreat.Cp Go.Proofs.YtccenpmaooailaaGreat.Cd Go.Proofs.YtccenpmaooailaaGreat.Ci Go.Proofs.YtccenpmaooailaaGreat.Ce Go.Proofs.YtccenpmaooailaaGreat.Cf Go.Proofs.YtccenpmaooailaaGreat.Cg Go.Proofs.YtccenpmaooailaaGreat.Sc Go.Proofs.YtccenpmaooailaaGreat.Se Go.Proofs.YtccenpmaooailaaGreat.Sh Go.Proofs.YtccenpmaooailaaGreat.Si Go.Proofs.YtccenpmaooailaaGreat.Sp Go.Proofs.YtccenpmaooailaaGreat.Ia Go.Proofs.YtccenpmaooailaaGreat.Ib Go.Proofs.YtccenpmaooailaaGreat.Ic Go.Proofs.YtccenpmaooailaaGreat.Id Go.Proofs.YtccenpmaooailaaGreat.Ie Go.Proofs.YtccenpmaooailaaGreat.If Go.Proofs.YtccenpmaooailaaGreat.Ig Go.Proofs.YtccenpmaooailaaGreat.Ih Go.Proofs.YtccenpmaooailaaGreat.Ij Go.Proofs.YtccenpmaooailaaGreat.Ik Go.Proofs.YtccenpmaooailaaGreat.Ra Go.Proofs.YtccenpmaooailaaGreat.Rb Go.Proofs.YtccenpmaooailaaGreat.Rc Go.Proofs.YtccenpmaooailaaGreat.Rd Go.Proofs.YtccenpmaooailaaGreat.Re Go.Proofs.YtccenpmaooailaaGreat.Sj Go.Proofs.YtccenpmaooailaaGreat.Ya Go.Proofs.YtccenpmaooailaaGreat.Yd Go.Proofs.YtccenpmaooailaaGreat.Yf Go.Proofs.YtccenpmaooailaaGreat.Yg Go.Proofs.YtccenpmaooailaaGreat.Ih Go.Proofs.YtccenpmaooailaaGreat.Yh Go.Proofs.YtccenpmaooailaaGreat.Yi Go.Proofs.YtccenpmaooailaaGreat.Sg Go.Proofs.YtccenpmaooailaaGreat.Sf Go.Proofs.YtccenpmaooailaaGreat.Yj Go.Proofs.YtccenpmaooailaaGreat.Ig Go.Proofs.YtccenpmaooailaaGreat.Yk Go.Proofs.YtccenpmaooailaaGreat.Ik Go.Proofs.YtccenpmaooailaaGreat.Yl Go.Proofs.YtccenpmaooailaaGreat.Ij Go.Proofs.YtccenpmaooailaaGreat.Ym Go.Proofs.YtccenpmaooailaaGreat.Il Go.Proofs.YtccenpmaooailaaGreat.Yn Go.Proofs.YtccenpmaooailaaGreat.Yo Go.Proofs.YtccenpmaooailaaGreat.In Go.Proofs.YtccenpmaooailaaGreat.Yq Go.Proofs.YtccenpmaooailaaGreat.Pw Go.Proofs.YtccenpmaooailaaGreat.Px Go.Proofs.YtccenpmaooailaaGreat.La Go.Proofs.YtccenpmaooailaaGreat.Db Go.Proofs.YtccenpmaooailaaGreat.Ta Go.Proofs.YtccenpmaooailaaGreat.Tb Go.Proofs.YtccenpmaooailaaGreat.Td Go.Proofs.YtccenpmaooailaaGreat.Te Go.Proofs.YtccenpmaooailaaGreat.Sh Go.Proofs.YtccenpmaooailaaGreat.Id Go.Proofs.YtccenpmaooailaaGreat.Ik Go.Proofs.YtccenpmaooailaaGreat.Il Go.Proofs.YtccenpmaooailaaGreat.Ij Go.Proofs.YtccenpmaooailaaGreat.Ga Go.Proofs.YtccenpmaooailaaGreat.Ih Go.Proofs.YtccenpmaooailaaGreat.Ig Go.Proofs.YtccenpmaooailaaGreat.Gb Go.Proofs.YtccenpmaooailaaGreat.Gc Go.Proofs.YtccenpmaooailaaGreat.Ha Go.Proofs.YtccenpmaooailaaGreat.Hb Go.Proofs.YtccenpmaooailaaGreat.Yq Go.Proofs.YtccenpmaooailaaGreat.Hc Go.Proofs.YtccenpmaooailaaGreat.Pw Go.Proofs.YtccenpmaooailaaGreat.Px Go.Proofs.YtccenpmaooailaaGreat.In

theorem areOk_ofN {stp : Int → Stp} (hs : ∀ {mode : Int}, 0 ≤ mode ∧ mode ≤ 4 → StepOk5 (stp mode)) {mode : Int} {a b c l : List Occ} (h : ofN stp mode a b c = (l, true)) : AreOk l ∧ l.length ≤ 40 ∧ AreOk a ∧ AreOk b ∧ AreOk c ∧ l = (all3 (stp mode) a b c (tms (a ++ (b ++ c)))).c := by
  unfold ofN at h
  by_cases hq : fits5 mode [] [] a b c = true
  · rw [if_pos hq] at h
    obtain ⟨hm, _, _, ⟨ha, na⟩, ⟨hb, nb⟩, ⟨hc, nc⟩⟩ := fits5_iff.1 hq
    have hk := all3_ok (hs hm) ha hb hc na nb nc (asc_tms (a ++ (b ++ c))) _ (Nat.le_refl _)
    rw [List.take_length] at hk
    unfold told at h
    split at h
    · simp at h
    · rename_i hl
      obtain rfl : (all3 (stp mode) a b c (tms (a ++ (b ++ c)))).c = l := by simpa using h
      exact ⟨hk.kc, by omega, ha, hb, hc, rfl⟩
  · rw [if_neg hq] at h
    simp at h
theorem areOk_ofI {a b l : List Occ} {mode : Int} (h : ofI seq3 mode a b = (l, true)) : AreOk l ∧ l.length ≤ 40 ∧ AreOk a ∧ AreOk b ∧ l = sq mode a b := by
  unfold ofI at h
  by_cases hq : fits mode [] [] a b = true
  · rw [if_pos hq] at h
    obtain ⟨hm, _, _, ⟨ha, na⟩, ⟨hb, nb⟩⟩ := fits_iff.1 hq
    have hk := both_ok (seq3_step hm) ha hb na nb (asc_tms (a ++ b)) _ (Nat.le_refl _)
    rw [List.take_length] at hk
    unfold told at h
    split at h
    · simp at h
    · rename_i hl
      have e : (both (seq3 mode) a b (tms (a ++ b))).c = l := by simpa using h
      rw [← e]
      exact ⟨hk.kc, by omega, ha, hb, seq_all ha hb⟩
  · rw [if_neg hq] at h
    simp at h
theorem orI_true' {a b m : List Occ} (h : orI a b = (m, true)) : m = putAll a b := by
  unfold orI at h
  split at h
  · unfold told at h
    split at h
    · simp at h
    · exact (by simpa using h : putAll a b = m).symm
  · simp at h
theorem opn_less {m d : List Occ} {o x : Occ} (h : opn (putAll m d) o x = true) : opn m o x = true := by
  unfold opn at h ⊢
  rw [Bool.and_eq_true] at h ⊢
  refine ⟨h.1, ?_⟩
  have h2 := h.2
  rw [Bool.not_eq_true'] at h2 ⊢
  unfold between at h2 ⊢
  rw [List.any_eq_false] at h2 ⊢
  exact fun z hz => h2 z ((mem_putAll z _ _).2 (.inl hz))
theorem not_less {a b m d s mm l : List Occ} (h1 : ofN not3 0 a m b = (s, true)) (h2 : orI m d = (mm, true)) (h3 : ofN not3 0 a mm b = (l, true)) : ∀ z ∈ l, z ∈ s := fun z hz => by
  obtain ⟨_, _, ha, hm, hb, e1⟩ := areOk_ofN not3_step h1
  obtain ⟨_, _, _, hmm, _, e3⟩ := areOk_ofN not3_step h3
  rw [e1, not_all ha hm hb, mem_nq0]
  rw [e3, not_all ha hmm hb, mem_nq0, orI_true' h2] at hz
  obtain ⟨x, hx, o, ho, h, e⟩ := hz
  exact ⟨x, hx, o, ho, opn_less h, e⟩
theorem not_seq_sub {a b m s q : List Occ} (h1 : ofN not3 0 a m b = (s, true)) (h2 : ofI seq3 0 a b = (q, true)) : ∀ z ∈ s, z ∈ q := fun z hz => by
  obtain ⟨_, _, ha, hm, hb, e1⟩ := areOk_ofN not3_step h1
  obtain ⟨_, _, _, _, e2⟩ := areOk_ofI h2
  rw [e2, mem_sq0]
  rw [e1, not_all ha hm hb, mem_nq0] at hz
  obtain ⟨x, hx, o, ho, h, e⟩ := hz
  exact ⟨x, hx, o, ho, opn_lt h, e⟩
theorem each_less {a b m d s mm l : List Occ} (h1 : ofN each3 0 a b m = (s, true)) (h2 : orI m d = (mm, true)) (h3 : ofN each3 0 a b mm = (l, true)) : ∀ z ∈ l, z ∈ s := fun z hz => by
  obtain ⟨_, _, ha, hb, hm, e1⟩ := areOk_ofN each3_step h1
  obtain ⟨_, _, _, _, hmm, e3⟩ := areOk_ofN each3_step h3
  rw [e1, each_all ha hb hm, mem_ew0 (.inl rfl)]
  rw [e3, each_all ha hb hmm, mem_ew0 (.inl rfl), orI_true' h2] at hz
  obtain ⟨x, hx, o, ho, h, e⟩ := hz
  exact ⟨x, hx, o, ho, opn_less h, e⟩
end Go.Proofs.YtccenpmaooailaaGreat.Hf
