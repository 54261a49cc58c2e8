
/- A region of which several operations may come first; a region cut off from what stands behind it. -/
import Derived.Test.YtckblabkapeigaaZa
set_option linter.unusedVariables false
set_option linter.unusedSimpArgs false
namespace Go.Proofs.Ytckblabkapeigaa.Zb
open Go Go.Proofs.Ytckblabkapeigaa.Za

section
variable {P : Program} {l : List Oper} {Q : Exit → Act → World → Prop} {md : Region.Mode} {S : World → Prop} {T : List Nat}
theorem nextsL (is : List Nat) {n : Nat} {listed : Array Bool} {a : Act} {w : World} (hr : Region.ready md l.toArray listed = is) (hne : is ≠ [])
    (h : ∀ i, i ∈ is → ∀ o, l[i]? = some o → ∀ K' : Act → World → Prop, Shut (∀ a w, ((i ∉ T → S w) ∧ Walk P md l.toArray Q S T n (listed.setIfInBounds i true) a w) → K' a w) → if Region.wanted o (yielded l.toArray a.tmps) = true then Oper.wp P o a w K' Q else K' (a.put o.dst undef) w) : Walk P md l.toArray Q S T (n + 1) listed a w := by
  refine ⟨fun h0 => absurd (hr.symm.trans h0) hne, fun j hj => ?_⟩
  obtain ⟨_, oj, hoj, _⟩ := mem_ready.1 hj
  rw [hr] at hj
  exact wpOp_step hoj (fun K' hK => h j hj oj (by simpa using hoj) K' (fun a w g => hK a w g))
/-- what a region leaves, told as a relation, then what stands behind it -/
theorem region_cut (R : Act → Act → World → Prop) {id : Nat} {a : Act} {w : World} (h1 : (Code.region id l.toArray true).wp P (fun x a' w' => x = .normal ∧ R a a' w') a w) (h2 : ∀ a' w', R a a' w' → Q .normal a' w') : (Code.region id l.toArray true).wp P Q a w :=
  wp_mono h1 (fun e a' w' h => by obtain ⟨rfl, h⟩ := h; exact h2 a' w' h)
end
end Go.Proofs.Ytckblabkapeigaa.Zb
