
/- The text of an expression, as bytes: plain; it tells the expression. -/
import Derived.Test.YtckblabkapeigaaGreatNJg
import Derived.Shelf.Strconv.Itoa3
set_option linter.unusedVariables false
set_option linter.unusedSimpArgs false
namespace Go.Proofs.YtckblabkapeigaaGreat.Na
open Go.Proofs.YtckblabkapeigaaGreat.Jb Go.Proofs.YtckblabkapeigaaGreat.Jg

end Go.Proofs.YtckblabkapeigaaGreat.Na
