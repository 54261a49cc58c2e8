
/- SpanNot and SpanEach: the reference's. -/
import Derived.Test.YtccenpmaooailaaMB7
import Derived.Test.YtccenpmaooailaaMB6
import Derived.Test.YtccenpmaooailaaMTe
import Derived.Test.YtccenpmaooailaaMTj
import Derived.Test.YtccenpmaooailaaMTk
set_option linter.unusedVariables false
set_option linter.unusedSimpArgs false
namespace Go.Proofs.Ytccenpmaooailaa.Tl
open Go.RowKit Go.Proofs.YtccenpmaooailaaW.PrintWords Go.Proofs.Ytccenpmaooailaa.Wd Go.Proofs.Ytccenpmaooailaa.Pu Go.Proofs.Ytccenpmaooailaa.Pv Go.Proofs.Ytccenpmaooailaa.Ca Go.Proofs.Ytccenpmaooailaa.Cb Go.Proofs.Ytccenpmaooailaa.Cc Go.Proofs.Ytccenpmaooailaa.Cp Go.Proofs.Ytccenpmaooailaa.Cd Go.Proofs.Ytccenpmaooailaa.Ci Go.Proofs.Ytccenpmaooailaa.Ce Go.Proofs.Ytccenpmaooailaa.Cf Go.Proofs.Ytccenpmaooailaa.Cg Go.Proofs.Ytccenpmaooailaa.Sc Go.Proofs.Ytccenpmaooailaa.Se Go.Proofs.Ytccenpmaooailaa.Sh Go.Proofs.Ytccenpmaooailaa.Si Go.Proofs.Ytccenpmaooailaa.Sp Go.Proofs.Ytccenpmaooailaa.Ia Go.Proofs.Ytccenpmaooailaa.Ib Go.Proofs.Ytccenpmaooailaa.Ic Go.Proofs.Ytccenpmaooailaa.Id Go.Proofs.Ytccenpmaooailaa.Ie Go.Proofs.Ytccenpmaooailaa.If Go.Proofs.Ytccenpmaooailaa.Ig Go.Proofs.Ytccenpmaooailaa.Ih Go.Proofs.Ytccenpmaooailaa.Ij Go.Proofs.Ytccenpmaooailaa.Ik Go.Proofs.Ytccenpmaooailaa.Ra Go.Proofs.Ytccenpmaooailaa.Rb Go.Proofs.Ytccenpmaooailaa.Rc Go.Proofs.Ytccenpmaooailaa.Rd Go.Proofs.Ytccenpmaooailaa.Re Go.Proofs.Ytccenpmaooailaa.Sj Go.Proofs.Ytccenpmaooailaa.Ya Go.Proofs.Ytccenpmaooailaa.Yd Go.Proofs.Ytccenpmaooailaa.Yf Go.Proofs.Ytccenpmaooailaa.Yg Go.Proofs.Ytccenpmaooailaa.Ih Go.Proofs.Ytccenpmaooailaa.Yh Go.Proofs.Ytccenpmaooailaa.Yi Go.Proofs.Ytccenpmaooailaa.Sg Go.Proofs.Ytccenpmaooailaa.Sf Go.Proofs.Ytccenpmaooailaa.Yj Go.Proofs.Ytccenpmaooailaa.Ig Go.Proofs.Ytccenpmaooailaa.Yk Go.Proofs.Ytccenpmaooailaa.Ik Go.Proofs.Ytccenpmaooailaa.Yl Go.Proofs.Ytccenpmaooailaa.Ij Go.Proofs.Ytccenpmaooailaa.Ym Go.Proofs.Ytccenpmaooailaa.Il Go.Proofs.Ytccenpmaooailaa.Yn Go.Proofs.Ytccenpmaooailaa.Yo Go.Proofs.Ytccenpmaooailaa.In Go.Proofs.Ytccenpmaooailaa.Yq Go.Proofs.Ytccenpmaooailaa.Pw Go.Proofs.Ytccenpmaooailaa.Px Go.Proofs.Ytccenpmaooailaa.La Go.Proofs.Ytccenpmaooailaa.Db Go.Proofs.Ytccenpmaooailaa.Ta Go.Proofs.Ytccenpmaooailaa.Tb Go.Proofs.Ytccenpmaooailaa.Tc Go.Proofs.Ytccenpmaooailaa.Td Go.Proofs.Ytccenpmaooailaa.Te Go.Proofs.Ytccenpmaooailaa.Th Go.Proofs.Ytccenpmaooailaa.Ti Go.Proofs.Ytccenpmaooailaa.Tj Go.Proofs.Ytccenpmaooailaa.Tk Go.Proofs.Ytccenpmaooailaa.Sh Go.Proofs.Ytccenpmaooailaa.Id Go.Proofs.Ytccenpmaooailaa.Yf Go.Proofs.Ytccenpmaooailaa.Ya Go.Proofs.Ytccenpmaooailaa.Yd Go.Proofs.Ytccenpmaooailaa.Re Go.Proofs.Ytccenpmaooailaa.Rc Go.Proofs.Ytccenpmaooailaa.Yj Go.Proofs.Ytccenpmaooailaa.Yi Go.Proofs.Ytccenpmaooailaa.Yk

structure AfterS (w w6 : World) (p : P3) (AL AR Ao : Option Addr) (cL cR co : Nat) : Prop where
  la : IsL w6 p.a AL cL
  lb : IsL w6 p.b AR cR
  lc : IsL w6 p.c Ao co
  bel : Below w.heap.size w w6
  bR : w6.heap[w.heap.size + 1]? = some (.cells #[.slice none 0 0, .slice none 0 0] 46 (0, 0))
theorem AfterS.below {w w6 w7 : World} {p : P3} {AL AR Ao : Option Addr} {cL cR co : Nat} (h : AfterS w w6 p AL AR Ao cL cR co) (hb : Below w6.heap.size w6 w7) : AfterS w w7 p AL AR Ao cL cR co :=
  ⟨h.la.below hb, h.lb.below hb, h.lc.below hb, below_then h.bel h.bel.size hb, blk_below h.bR hb⟩
end Go.Proofs.Ytccenpmaooailaa.Tl
