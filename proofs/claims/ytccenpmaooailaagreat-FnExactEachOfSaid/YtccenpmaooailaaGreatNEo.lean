
/- What is told of three lists, and its weight: plain. -/
import Derived.Test.YtccenpmaooailaaGreatNB7
import Derived.Test.YtccenpmaooailaaGreatNB6
import Derived.Test.YtccenpmaooailaaGreatNEf
import Derived.Test.YtccenpmaooailaaGreatNGb
import Derived.Test.YtccenpmaooailaaGreatNGc
set_option linter.unusedVariables false
set_option linter.unusedSimpArgs false
namespace Go.Proofs.YtccenpmaooailaaGreat.Eo
open Go.RowKit Go.Proofs.YtccenpmaooailaaGreatW.PrintWords Go.Proofs.YtccenpmaooailaaGreat.Wd Go.Proofs.YtccenpmaooailaaGreat.Pu Go.Proofs.YtccenpmaooailaaGreat.Pv Go.Proofs.YtccenpmaooailaaGreat.Ca Go.Proofs.YtccenpmaooailaaGreat.Cb Go.Proofs.YtccenpmaooailaaGreat.Cc Go.Proofs.YtccenpmaooailaaGreat.Cp Go.Proofs.YtccenpmaooailaaGreat.Cd Go.Proofs.YtccenpmaooailaaGreat.Ci Go.Proofs.YtccenpmaooailaaGreat.Ce Go.Proofs.YtccenpmaooailaaGreat.Cf Go.Proofs.YtccenpmaooailaaGreat.Cg Go.Proofs.YtccenpmaooailaaGreat.Sc Go.Proofs.YtccenpmaooailaaGreat.Se Go.Proofs.YtccenpmaooailaaGreat.Sh Go.Proofs.YtccenpmaooailaaGreat.Si Go.Proofs.YtccenpmaooailaaGreat.Sp Go.Proofs.YtccenpmaooailaaGreat.Ia Go.Proofs.YtccenpmaooailaaGreat.Ib Go.Proofs.YtccenpmaooailaaGreat.Ic Go.Proofs.YtccenpmaooailaaGreat.Id Go.Proofs.YtccenpmaooailaaGreat.Ie Go.Proofs.YtccenpmaooailaaGreat.If Go.Proofs.YtccenpmaooailaaGreat.Ig Go.Proofs.YtccenpmaooailaaGreat.Ih Go.Proofs.YtccenpmaooailaaGreat.Ij Go.Proofs.YtccenpmaooailaaGreat.Ik Go.Proofs.YtccenpmaooailaaGreat.Ra Go.Proofs.YtccenpmaooailaaGreat.Rb Go.Proofs.YtccenpmaooailaaGreat.Rc Go.Proofs.YtccenpmaooailaaGreat.Rd Go.Proofs.YtccenpmaooailaaGreat.Re Go.Proofs.YtccenpmaooailaaGreat.Sj Go.Proofs.YtccenpmaooailaaGreat.Ya Go.Proofs.YtccenpmaooailaaGreat.Yd Go.Proofs.YtccenpmaooailaaGreat.Yf Go.Proofs.YtccenpmaooailaaGreat.Yg Go.Proofs.YtccenpmaooailaaGreat.Ih Go.Proofs.YtccenpmaooailaaGreat.Yh Go.Proofs.YtccenpmaooailaaGreat.Yi Go.Proofs.YtccenpmaooailaaGreat.Sg Go.Proofs.YtccenpmaooailaaGreat.Sf Go.Proofs.YtccenpmaooailaaGreat.Yj Go.Proofs.YtccenpmaooailaaGreat.Ig Go.Proofs.YtccenpmaooailaaGreat.Yk Go.Proofs.YtccenpmaooailaaGreat.Ik Go.Proofs.YtccenpmaooailaaGreat.Yl Go.Proofs.YtccenpmaooailaaGreat.Ij Go.Proofs.YtccenpmaooailaaGreat.Ym Go.Proofs.YtccenpmaooailaaGreat.Il Go.Proofs.YtccenpmaooailaaGreat.Yn Go.Proofs.YtccenpmaooailaaGreat.Yo Go.Proofs.YtccenpmaooailaaGreat.In Go.Proofs.YtccenpmaooailaaGreat.Yq Go.Proofs.YtccenpmaooailaaGreat.Pw Go.Proofs.YtccenpmaooailaaGreat.Px Go.Proofs.YtccenpmaooailaaGreat.La Go.Proofs.YtccenpmaooailaaGreat.Db Go.Proofs.YtccenpmaooailaaGreat.Sh Go.Proofs.YtccenpmaooailaaGreat.Id Go.Proofs.YtccenpmaooailaaGreat.Ea Go.Proofs.YtccenpmaooailaaGreat.Eb Go.Proofs.YtccenpmaooailaaGreat.Ec Go.Proofs.YtccenpmaooailaaGreat.Ed Go.Proofs.YtccenpmaooailaaGreat.Eg Go.Proofs.YtccenpmaooailaaGreat.Ee Go.Proofs.YtccenpmaooailaaGreat.Ef Go.Proofs.YtccenpmaooailaaGreat.Ik Go.Proofs.YtccenpmaooailaaGreat.Tb Go.Proofs.YtccenpmaooailaaGreat.Td Go.Proofs.YtccenpmaooailaaGreat.Te Go.Proofs.YtccenpmaooailaaGreat.Ga Go.Proofs.YtccenpmaooailaaGreat.Gb Go.Proofs.YtccenpmaooailaaGreat.Gc Go.Proofs.YtccenpmaooailaaGreat.Yq
theorem wt_told {l : List Occ} (h : AreOk l) : wtO (told l).1 ≤ 1099513724928 := by
  unfold told
  split
  · exact Nat.zero_le _
  · rename_i hl
    exact wt_big l (by omega) (fun x hx => isOk_big (h.all x hx))
theorem wt_ofN {stp : Int → Stp} (hs : ∀ {mode : Int}, 0 ≤ mode ∧ mode ≤ 4 → StepOk5 (stp mode)) (mode : Int) (a b c : List Occ) : wtO (ofN stp mode a b c).1 ≤ 1099513724928 := by
  unfold ofN
  cases hq : fits5 mode [] [] a b c with
  | false => exact Nat.zero_le _
  | true =>
    rw [if_pos rfl]
    obtain ⟨hm, _, _, ⟨ha, na⟩, ⟨hb, nb⟩, ⟨hc, nc⟩⟩ := fits5_iff.1 hq
    have h := all3_ok (hs hm) ha hb hc na nb nc (asc_tms (a ++ (b ++ c))) _ (Nat.le_refl _)
    rw [List.take_length] at h
    exact wt_told h.kc
theorem wt_notOf (mode : Int) (a b c : List Occ) : wtO (ofN not3 mode a b c).1 ≤ 1099513724928 := wt_ofN not3_step mode a b c
theorem wt_eachOf (mode : Int) (a b c : List Occ) : wtO (ofN each3 mode a b c).1 ≤ 1099513724928 := wt_ofN each3_step mode a b c
end Go.Proofs.YtccenpmaooailaaGreat.Eo
