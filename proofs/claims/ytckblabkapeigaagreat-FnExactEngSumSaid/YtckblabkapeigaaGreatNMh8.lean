
/- Marks that still stand: rows of the program's struct types: the laws' own functions. Printed by genMh8.py. -/
import Derived.Test.YtckblabkapeigaaGreatNMk8
import Derived.Test.YtckblabkapeigaaGreatNKc
import Derived.Test.YtckblabkapeigaaGreatNZa
set_option linter.unusedVariables false
set_option linter.unusedSimpArgs false
namespace Go.Proofs.YtckblabkapeigaaGreat.Mh8
open Go.RowKit Go.Proofs.YtckblabkapeigaaGreatW.PrintWords Go.Proofs.YtckblabkapeigaaGreat.Ja Go.Proofs.YtckblabkapeigaaGreat.Jb Go.Proofs.YtckblabkapeigaaGreat.Jc Go.Proofs.YtckblabkapeigaaGreat.Jd Go.Proofs.YtckblabkapeigaaGreat.Jf Go.Proofs.YtckblabkapeigaaGreat.Ka Go.Proofs.YtckblabkapeigaaGreat.Kb Go.Proofs.YtckblabkapeigaaGreat.Kd2 Go.Proofs.YtckblabkapeigaaGreat.Nd Go.Proofs.YtckblabkapeigaaGreat.Ei8 Go.Proofs.YtckblabkapeigaaGreat.Ej8 Go.Proofs.YtckblabkapeigaaGreat.Mk8 Go.Proofs.YtckblabkapeigaaGreat.Kc

end Go.Proofs.YtckblabkapeigaaGreat.Mh8
