
/- A sequence paired as the last one, as the first one, as each, in sum: told by marks of what was used. No program. -/
import Derived.Test.YtjeojdbfpncnkaaGreatNB7
set_option linter.unusedVariables false
set_option linter.unusedSimpArgs false
namespace Go.Proofs.YtjeojdbfpncnkaaGreat.Py
open Go.Proofs.YtjeojdbfpncnkaaGreat.Pu Go.Proofs.YtjeojdbfpncnkaaGreat.Pv Go.Proofs.YtjeojdbfpncnkaaGreat.Ig Go.Proofs.YtjeojdbfpncnkaaGreat.Ih Go.Proofs.YtjeojdbfpncnkaaGreat.Ik Go.Proofs.YtjeojdbfpncnkaaGreat.Il Go.Proofs.YtjeojdbfpncnkaaGreat.Pw Go.Proofs.YtjeojdbfpncnkaaGreat.Px Go.Proofs.YtjeojdbfpncnkaaGreat.La

/-- the first place before i of which p holds; -1: none -/
def FirstAt (p : Nat → Bool) (i : Nat) (s : Int) : Prop := (s = -1 ∧ ∀ j, j < i → p j = false) ∨ ∃ j, j < i ∧ s = (j : Int) ∧ p j = true ∧ ∀ k, k < j → p k = false
theorem FirstAt.had {p : Nat → Bool} {i : Nat} {s : Int} (h : FirstAt p i s) (hs : 0 ≤ s) : FirstAt p (i + 1) s := by
  rcases h with ⟨h1, h2⟩ | ⟨j, h1, h2, h3, h4⟩
  · omega
  · exact .inr ⟨j, by omega, h2, h3, h4⟩
/-! an ordered list's first and last -/
theorem mem_getD {a : List Occ} {x : Occ} (h : x ∈ a) : ∃ i, i < a.length ∧ a.getD i zO = x := by
  obtain ⟨i, hi, e⟩ := List.getElem_of_mem h
  exact ⟨i, hi, by rw [List.getD_eq_getElem?_getD, List.getElem?_eq_getElem hi]; exact e⟩
/-! the last one -/
/-! what is not used -/
open Go.RowKit Go.Proofs.YtjeojdbfpncnkaaGreatW.PrintWords Go.Proofs.YtjeojdbfpncnkaaGreat.Wd Go.Proofs.YtjeojdbfpncnkaaGreat.Pu Go.Proofs.YtjeojdbfpncnkaaGreat.Pv Go.Proofs.YtjeojdbfpncnkaaGreat.Ca Go.Proofs.YtjeojdbfpncnkaaGreat.Cb Go.Proofs.YtjeojdbfpncnkaaGreat.Cc Go.Proofs.YtjeojdbfpncnkaaGreat.Cp Go.Proofs.YtjeojdbfpncnkaaGreat.Cd Go.Proofs.YtjeojdbfpncnkaaGreat.Ci Go.Proofs.YtjeojdbfpncnkaaGreat.Ce Go.Proofs.YtjeojdbfpncnkaaGreat.Cf Go.Proofs.YtjeojdbfpncnkaaGreat.Cg Go.Proofs.YtjeojdbfpncnkaaGreat.Sc Go.Proofs.YtjeojdbfpncnkaaGreat.Se Go.Proofs.YtjeojdbfpncnkaaGreat.Sh Go.Proofs.YtjeojdbfpncnkaaGreat.Si Go.Proofs.YtjeojdbfpncnkaaGreat.Sp Go.Proofs.YtjeojdbfpncnkaaGreat.Ia Go.Proofs.YtjeojdbfpncnkaaGreat.Ib Go.Proofs.YtjeojdbfpncnkaaGreat.Ic Go.Proofs.YtjeojdbfpncnkaaGreat.Id Go.Proofs.YtjeojdbfpncnkaaGreat.Ie Go.Proofs.YtjeojdbfpncnkaaGreat.If Go.Proofs.YtjeojdbfpncnkaaGreat.Ig Go.Proofs.YtjeojdbfpncnkaaGreat.Ih Go.Proofs.YtjeojdbfpncnkaaGreat.Ij Go.Proofs.YtjeojdbfpncnkaaGreat.Ik Go.Proofs.YtjeojdbfpncnkaaGreat.Ra Go.Proofs.YtjeojdbfpncnkaaGreat.Rb Go.Proofs.YtjeojdbfpncnkaaGreat.Rc Go.Proofs.YtjeojdbfpncnkaaGreat.Rd Go.Proofs.YtjeojdbfpncnkaaGreat.Re Go.Proofs.YtjeojdbfpncnkaaGreat.Sj Go.Proofs.YtjeojdbfpncnkaaGreat.Ya Go.Proofs.YtjeojdbfpncnkaaGreat.Yd Go.Proofs.YtjeojdbfpncnkaaGreat.Yf Go.Proofs.YtjeojdbfpncnkaaGreat.Yg Go.Proofs.YtjeojdbfpncnkaaGreat.Ih Go.Proofs.YtjeojdbfpncnkaaGreat.Yh Go.Proofs.YtjeojdbfpncnkaaGreat.Yi Go.Proofs.YtjeojdbfpncnkaaGreat.Sg Go.Proofs.YtjeojdbfpncnkaaGreat.Sf Go.Proofs.YtjeojdbfpncnkaaGreat.Yj Go.Proofs.YtjeojdbfpncnkaaGreat.Ig Go.Proofs.YtjeojdbfpncnkaaGreat.Yk Go.Proofs.YtjeojdbfpncnkaaGreat.Ik Go.Proofs.YtjeojdbfpncnkaaGreat.Yl Go.Proofs.YtjeojdbfpncnkaaGreat.Ij Go.Proofs.YtjeojdbfpncnkaaGreat.Ym Go.Proofs.YtjeojdbfpncnkaaGreat.Il Go.Proofs.YtjeojdbfpncnkaaGreat.Yn Go.Proofs.YtjeojdbfpncnkaaGreat.Yo Go.Proofs.YtjeojdbfpncnkaaGreat.In Go.Proofs.YtjeojdbfpncnkaaGreat.Yq Go.Proofs.YtjeojdbfpncnkaaGreat.Pw Go.Proofs.YtjeojdbfpncnkaaGreat.Px Go.Proofs.YtjeojdbfpncnkaaGreat.La
abbrev RBs (w : World) (n : Nat) (v : Value) (us : List Bool) : Prop := Kd.bool.R 4 w n (fun _ => True) v us
theorem RBs.below {w w' : World} {n : Nat} {v : Value} {us : List Bool} (h : RBs w n v us) (hb : Below w.heap.size w w') : RBs w' n v us := Kd.R_below h hb
/-- marks: where they lie -/
structure MarksAt (w : World) (n g cap : Nat) (us : List Bool) : Prop where
  ge : n ≤ g
  rb : RBs w n (.slice (some ⟨g, 0, none⟩) us.length cap) us
  blk : ∃ cells, w.heap[g]? = some (.cells cells 4 (0, 0))
theorem MarksAt.set {w : World} {n g cap : Nat} {us : List Bool} (h : MarksAt w n g cap us) (i : Nat) : RBs (w.setCell ⟨g, i, none⟩ (.bool true)) n (.slice (some ⟨g, 0, none⟩) us.length cap) (us.set i true) := by
  have h2 := (Kd.R_putg h.rb (i : Int) true).1
  rw [Int.toNat_natCast] at h2
  exact h2
theorem MarksAt.list {w : World} {n g cap : Nat} {us : List Bool} (h : MarksAt w n g cap us) {b : Nat} {v : Value} {l : List Occ} (hl : Rw w b v l) (i : Nat) : Rw (w.setCell ⟨g, i, none⟩ (.bool true)) b v l := by
  obtain ⟨cells, hb⟩ := h.blk
  exact Kd.R_set hl hb (by decide) i _
end Go.Proofs.YtjeojdbfpncnkaaGreat.Py
