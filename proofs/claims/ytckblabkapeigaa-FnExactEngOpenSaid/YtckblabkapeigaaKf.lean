
/- Are two expressions one, two rules: the program's. Printed by genTy.py. -/
import Derived.Test.YtckblabkapeigaaKe
set_option linter.unusedVariables false
set_option linter.unusedSimpArgs false
namespace Go.Proofs.Ytckblabkapeigaa.Kf
open Go.RowKit Go.Proofs.YtckblabkapeigaaW.PrintWords Go.Proofs.Ytckblabkapeigaa.Ja Go.Proofs.Ytckblabkapeigaa.Jb Go.Proofs.Ytckblabkapeigaa.Jc Go.Proofs.Ytckblabkapeigaa.Jd Go.Proofs.Ytckblabkapeigaa.Ka Go.Proofs.Ytckblabkapeigaa.Ke
mutual
def sameE : Ex → Ex → Bool
  | .mk a b c l, y => (a == y.f0) && (b == y.f1) && (c == y.f2) && sameL l y.f3
def sameL : List Ex → List Ex → Bool
  | [], [] => true
  | x :: xs, y :: ys => sameE x y && sameL xs ys
  | _, _ => false
end
theorem sameL_eq : ∀ a b, sameL a b = eqQ sameE a b
  | [], [] => by simp [sameL, eqQ]
  | [], _ :: _ => by simp [sameL, eqQ]
  | _ :: _, [] => by simp [sameL, eqQ]
  | x :: xs, y :: ys => by rw [sameL, eqQ, sameL_eq xs ys]
theorem sameE_eq (x y : Ex) : sameE x y = ((x.f0 == y.f0) && (x.f1 == y.f1) && (x.f2 == y.f2) && eqQ sameE x.f3 y.f3) := by
  cases x with
  | mk a b c l => rw [sameE, sameL_eq]; rfl
def sameR (x y : TRule) : Bool := (x.f0.toList == y.f0.toList) && (x.f1 == y.f1) && (x.f2 == y.f2) && sameE x.f3 y.f3 && (x.f4 == y.f4) && (x.f5 == y.f5) && (x.f6 == y.f6) && (x.f7 == y.f7) && (x.f8 == y.f8)
theorem sameR_eq (x y : TRule) : sameR x y = ((x.f0.toList == y.f0.toList) && (x.f1 == y.f1) && (x.f2 == y.f2) && sameE x.f3 y.f3 && (x.f4 == y.f4) && (x.f5 == y.f5) && (x.f6 == y.f6) && (x.f7 == y.f7) && (x.f8 == y.f8)) := rfl
end Go.Proofs.Ytckblabkapeigaa.Kf
