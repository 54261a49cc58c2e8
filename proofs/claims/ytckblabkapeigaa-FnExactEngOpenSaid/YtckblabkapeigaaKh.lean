
/- Are two lists of occurrences one, two pairs, two spans: the program's. Printed by genTy.py. -/
import Derived.Test.YtckblabkapeigaaKf
import Derived.Test.YtckblabkapeigaaKg
set_option linter.unusedVariables false
set_option linter.unusedSimpArgs false
namespace Go.Proofs.Ytckblabkapeigaa.Kh
open Go.RowKit Go.Proofs.YtckblabkapeigaaW.PrintWords Go.Proofs.Ytckblabkapeigaa.Ja Go.Proofs.Ytckblabkapeigaa.Jb Go.Proofs.Ytckblabkapeigaa.Jc Go.Proofs.Ytckblabkapeigaa.Jd Go.Proofs.Ytckblabkapeigaa.Ka Go.Proofs.Ytckblabkapeigaa.Ke Go.Proofs.Ytckblabkapeigaa.Kf Go.Proofs.Ytckblabkapeigaa.Kg
def sameO (x y : TOcc) : Bool := cmpO x y == 0
def samePair (x y : TPair) : Bool := eqQ sameO x.f0 y.f0 && eqQ sameO x.f1 y.f1
theorem samePair_eq (x y : TPair) : samePair x y = (eqQ sameO x.f0 y.f0 && eqQ sameO x.f1 y.f1) := rfl
def sameSpan (x y : TSpan) : Bool := eqQ sameO x.f0 y.f0 && eqQ sameO x.f1 y.f1
theorem sameSpan_eq (x y : TSpan) : sameSpan x y = (eqQ sameO x.f0 y.f0 && eqQ sameO x.f1 y.f1) := rfl
end Go.Proofs.Ytckblabkapeigaa.Kh
