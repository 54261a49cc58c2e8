
/- Occurrences as values in memory: their kind, and what is read of a row of them. Lines that the kit's print writes for a struct. -/
import Derived.Test.YtckblabkapeigaaGreatWWords
import Derived.Test.YtckblabkapeigaaGreatWShare
import Derived.Test.YtckblabkapeigaaGreatWApart
import Derived.Test.YtckblabkapeigaaGreatWFoot
set_option linter.unusedVariables false
set_option linter.unusedSimpArgs false
namespace Go.Proofs.YtckblabkapeigaaGreat.P
open Go.RowKit Go.Proofs.YtckblabkapeigaaGreatW.PrintWords

/-! #### struct type 54 -/
structure S54 where
 f0 : Int
 f1 : Int
 f2 : (List Int)
def k54 : Kd S54 := Kd.iso (Kd.pair (Kd.int .i64) (Kd.pair (Kd.int .i64) (Kd.slice 3 (Kd.int .i64)))) (fun x : S54 => (x.f0, x.f1, x.f2))
end Go.Proofs.YtckblabkapeigaaGreat.P
