
/- A sequence paired as the last one, as the first one, as each, in sum: told by marks of what was used. No program. -/
import Derived.Test.YtccenpmaooailaaGreatKB7
set_option linter.unusedVariables false
set_option linter.unusedSimpArgs false
namespace Go.Proofs.YtccenpmaooailaaGreat.Py
open Go.Proofs.YtccenpmaooailaaGreat.Pu Go.Proofs.YtccenpmaooailaaGreat.Pv Go.Proofs.YtccenpmaooailaaGreat.Ig Go.Proofs.YtccenpmaooailaaGreat.Ih Go.Proofs.YtccenpmaooailaaGreat.Ik Go.Proofs.YtccenpmaooailaaGreat.Il Go.Proofs.YtccenpmaooailaaGreat.Pw Go.Proofs.YtccenpmaooailaaGreat.Px Go.Proofs.YtccenpmaooailaaGreat.La

/-- the last place before i of which p holds; -1: none -/
def LastAt (p : Nat → Bool) (i : Nat) (s : Int) : Prop := (s = -1 ∧ ∀ j, j < i → p j = false) ∨ ∃ j, j < i ∧ s = (j : Int) ∧ p j = true ∧ ∀ k, j < k → k < i → p k = false
theorem LastAt.no {p : Nat → Bool} {i : Nat} {s : Int} (h : LastAt p i s) (hp : p i = false) : LastAt p (i + 1) s := by
  rcases h with ⟨h1, h2⟩ | ⟨j, h1, h2, h3, h4⟩
  · exact .inl ⟨h1, fun j hj => by
      by_cases e : j = i
      · rw [e]; exact hp
      · exact h2 j (by omega)⟩
  · exact .inr ⟨j, by omega, h2, h3, fun k hk1 hk2 => by
      by_cases e : k = i
      · rw [e]; exact hp
      · exact h4 k hk1 (by omega)⟩
/-- the first place before i of which p holds; -1: none -/
def FirstAt (p : Nat → Bool) (i : Nat) (s : Int) : Prop := (s = -1 ∧ ∀ j, j < i → p j = false) ∨ ∃ j, j < i ∧ s = (j : Int) ∧ p j = true ∧ ∀ k, k < j → p k = false
theorem FirstAt.no {p : Nat → Bool} {i : Nat} {s : Int} (h : FirstAt p i s) (hp : p i = false) : FirstAt p (i + 1) s := by
  rcases h with ⟨h1, h2⟩ | ⟨j, h1, h2, h3, h4⟩
  · exact .inl ⟨h1, fun j hj => by
      by_cases e : j = i
      · rw [e]; exact hp
      · exact h2 j (by omega)⟩
  · exact .inr ⟨j, by omega, h2, h3, h4⟩
theorem FirstAt.had {p : Nat → Bool} {i : Nat} {s : Int} (h : FirstAt p i s) (hs : 0 ≤ s) : FirstAt p (i + 1) s := by
  rcases h with ⟨h1, h2⟩ | ⟨j, h1, h2, h3, h4⟩
  · omega
  · exact .inr ⟨j, by omega, h2, h3, h4⟩
/-! an ordered list's first and last -/
theorem mem_getD {a : List Occ} {x : Occ} (h : x ∈ a) : ∃ i, i < a.length ∧ a.getD i zO = x := by
  obtain ⟨i, hi, e⟩ := List.getElem_of_mem h
  exact ⟨i, hi, by rw [List.getD_eq_getElem?_getD, List.getElem?_eq_getElem hi]; exact e⟩
/-! the last one -/
/-! what is not used -/
open Go.RowKit Go.Proofs.YtccenpmaooailaaGreatW.PrintWords Go.Proofs.YtccenpmaooailaaGreat.Wd Go.Proofs.YtccenpmaooailaaGreat.Pu Go.Proofs.YtccenpmaooailaaGreat.Pv Go.Proofs.YtccenpmaooailaaGreat.Ca Go.Proofs.YtccenpmaooailaaGreat.Cb Go.Proofs.YtccenpmaooailaaGreat.Cc Go.Proofs.YtccenpmaooailaaGreat.Cp Go.Proofs.YtccenpmaooailaaGreat.Cd Go.Proofs.YtccenpmaooailaaGreat.Ci Go.Proofs.YtccenpmaooailaaGreat.Ce Go.Proofs.YtccenpmaooailaaGreat.Cf Go.Proofs.YtccenpmaooailaaGreat.Cg Go.Proofs.YtccenpmaooailaaGreat.Sc Go.Proofs.YtccenpmaooailaaGreat.Se Go.Proofs.YtccenpmaooailaaGreat.Sh Go.Proofs.YtccenpmaooailaaGreat.Si Go.Proofs.YtccenpmaooailaaGreat.Sp Go.Proofs.YtccenpmaooailaaGreat.Ia Go.Proofs.YtccenpmaooailaaGreat.Ib Go.Proofs.YtccenpmaooailaaGreat.Ic Go.Proofs.YtccenpmaooailaaGreat.Id Go.Proofs.YtccenpmaooailaaGreat.Ie Go.Proofs.YtccenpmaooailaaGreat.If Go.Proofs.YtccenpmaooailaaGreat.Ig Go.Proofs.YtccenpmaooailaaGreat.Ih Go.Proofs.YtccenpmaooailaaGreat.Ij Go.Proofs.YtccenpmaooailaaGreat.Ik Go.Proofs.YtccenpmaooailaaGreat.Ra Go.Proofs.YtccenpmaooailaaGreat.Rb Go.Proofs.YtccenpmaooailaaGreat.Rc Go.Proofs.YtccenpmaooailaaGreat.Rd Go.Proofs.YtccenpmaooailaaGreat.Re Go.Proofs.YtccenpmaooailaaGreat.Sj Go.Proofs.YtccenpmaooailaaGreat.Ya Go.Proofs.YtccenpmaooailaaGreat.Yd Go.Proofs.YtccenpmaooailaaGreat.Yf Go.Proofs.YtccenpmaooailaaGreat.Yg Go.Proofs.YtccenpmaooailaaGreat.Ih Go.Proofs.YtccenpmaooailaaGreat.Yh Go.Proofs.YtccenpmaooailaaGreat.Yi Go.Proofs.YtccenpmaooailaaGreat.Sg Go.Proofs.YtccenpmaooailaaGreat.Sf Go.Proofs.YtccenpmaooailaaGreat.Yj Go.Proofs.YtccenpmaooailaaGreat.Ig Go.Proofs.YtccenpmaooailaaGreat.Yk Go.Proofs.YtccenpmaooailaaGreat.Ik Go.Proofs.YtccenpmaooailaaGreat.Yl Go.Proofs.YtccenpmaooailaaGreat.Ij Go.Proofs.YtccenpmaooailaaGreat.Ym Go.Proofs.YtccenpmaooailaaGreat.Il Go.Proofs.YtccenpmaooailaaGreat.Yn Go.Proofs.YtccenpmaooailaaGreat.Yo Go.Proofs.YtccenpmaooailaaGreat.In Go.Proofs.YtccenpmaooailaaGreat.Yq Go.Proofs.YtccenpmaooailaaGreat.Pw Go.Proofs.YtccenpmaooailaaGreat.Px Go.Proofs.YtccenpmaooailaaGreat.La
abbrev RBs (w : World) (n : Nat) (v : Value) (us : List Bool) : Prop := Kd.bool.R 4 w n (fun _ => True) v us
theorem RBs.below {w w' : World} {n : Nat} {v : Value} {us : List Bool} (h : RBs w n v us) (hb : Below w.heap.size w w') : RBs w' n v us := Kd.R_below h hb
/-- marks: where they lie -/
structure MarksAt (w : World) (n g cap : Nat) (us : List Bool) : Prop where
  ge : n ≤ g
  rb : RBs w n (.slice (some ⟨g, 0, none⟩) us.length cap) us
  blk : ∃ cells, w.heap[g]? = some (.cells cells 4 (0, 0))
theorem MarksAt.set {w : World} {n g cap : Nat} {us : List Bool} (h : MarksAt w n g cap us) (i : Nat) : RBs (w.setCell ⟨g, i, none⟩ (.bool true)) n (.slice (some ⟨g, 0, none⟩) us.length cap) (us.set i true) := by
  have h2 := (Kd.R_putg h.rb (i : Int) true).1
  rw [Int.toNat_natCast] at h2
  exact h2
theorem MarksAt.list {w : World} {n g cap : Nat} {us : List Bool} (h : MarksAt w n g cap us) {b : Nat} {v : Value} {l : List Occ} (hl : Rw w b v l) (i : Nat) : Rw (w.setCell ⟨g, i, none⟩ (.bool true)) b v l := by
  obtain ⟨cells, hb⟩ := h.blk
  exact Kd.R_set hl hb (by decide) i _
end Go.Proofs.YtccenpmaooailaaGreat.Py
