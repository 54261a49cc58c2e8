
/- PairSeq, PairAnd, SpanNot, SpanEach of the program: three rows of one's own, apart. -/
import Derived.Test.YtccenpmaooailaaMB7
import Derived.Test.YtccenpmaooailaaMB6
import Derived.Test.YtccenpmaooailaaMTe
set_option linter.unusedVariables false
set_option linter.unusedSimpArgs false
namespace Go.Proofs.Ytccenpmaooailaa.Eg
open Go.RowKit Go.Proofs.YtccenpmaooailaaW.PrintWords Go.Proofs.Ytccenpmaooailaa.Wd Go.Proofs.Ytccenpmaooailaa.Pu Go.Proofs.Ytccenpmaooailaa.Pv Go.Proofs.Ytccenpmaooailaa.Ca Go.Proofs.Ytccenpmaooailaa.Cb Go.Proofs.Ytccenpmaooailaa.Cc Go.Proofs.Ytccenpmaooailaa.Cp Go.Proofs.Ytccenpmaooailaa.Cd Go.Proofs.Ytccenpmaooailaa.Ci Go.Proofs.Ytccenpmaooailaa.Ce Go.Proofs.Ytccenpmaooailaa.Cf Go.Proofs.Ytccenpmaooailaa.Cg Go.Proofs.Ytccenpmaooailaa.Sc Go.Proofs.Ytccenpmaooailaa.Se Go.Proofs.Ytccenpmaooailaa.Sh Go.Proofs.Ytccenpmaooailaa.Si Go.Proofs.Ytccenpmaooailaa.Sp Go.Proofs.Ytccenpmaooailaa.Ia Go.Proofs.Ytccenpmaooailaa.Ib Go.Proofs.Ytccenpmaooailaa.Ic Go.Proofs.Ytccenpmaooailaa.Id Go.Proofs.Ytccenpmaooailaa.Ie Go.Proofs.Ytccenpmaooailaa.If Go.Proofs.Ytccenpmaooailaa.Ig Go.Proofs.Ytccenpmaooailaa.Ih Go.Proofs.Ytccenpmaooailaa.Ij Go.Proofs.Ytccenpmaooailaa.Ik Go.Proofs.Ytccenpmaooailaa.Ra Go.Proofs.Ytccenpmaooailaa.Rb Go.Proofs.Ytccenpmaooailaa.Rc Go.Proofs.Ytccenpmaooailaa.Rd Go.Proofs.Ytccenpmaooailaa.Re Go.Proofs.Ytccenpmaooailaa.Sj Go.Proofs.Ytccenpmaooailaa.Ya Go.Proofs.Ytccenpmaooailaa.Yd Go.Proofs.Ytccenpmaooailaa.Yf Go.Proofs.Ytccenpmaooailaa.Yg Go.Proofs.Ytccenpmaooailaa.Ih Go.Proofs.Ytccenpmaooailaa.Yh Go.Proofs.Ytccenpmaooailaa.Yi Go.Proofs.Ytccenpmaooailaa.Sg Go.Proofs.Ytccenpmaooailaa.Sf Go.Proofs.Ytccenpmaooailaa.Yj Go.Proofs.Ytccenpmaooailaa.Ig Go.Proofs.Ytccenpmaooailaa.Yk Go.Proofs.Ytccenpmaooailaa.Ik Go.Proofs.Ytccenpmaooailaa.Yl Go.Proofs.Ytccenpmaooailaa.Ij Go.Proofs.Ytccenpmaooailaa.Ym Go.Proofs.Ytccenpmaooailaa.Il Go.Proofs.Ytccenpmaooailaa.Yn Go.Proofs.Ytccenpmaooailaa.Yo Go.Proofs.Ytccenpmaooailaa.In Go.Proofs.Ytccenpmaooailaa.Yq Go.Proofs.Ytccenpmaooailaa.Pw Go.Proofs.Ytccenpmaooailaa.Px Go.Proofs.Ytccenpmaooailaa.La Go.Proofs.Ytccenpmaooailaa.Db Go.Proofs.Ytccenpmaooailaa.Ta Go.Proofs.Ytccenpmaooailaa.Tb Go.Proofs.Ytccenpmaooailaa.Tc Go.Proofs.Ytccenpmaooailaa.Td Go.Proofs.Ytccenpmaooailaa.Te Go.Proofs.Ytccenpmaooailaa.Sh

/-- no block in both -/
def ApP (P Q : Nat → Prop) : Prop := ∀ k, P k → ¬ Q k
def Two (w : World) (B : Nat) (u : Value) (l : List Occ) (v : Value) (m : List Occ) : Prop := ∃ P Q, SS w B P u l ∧ SS w B Q v m ∧ ApP P Q
theorem Two.symm {w : World} {B : Nat} {u v : Value} {l m : List Occ} (h : Two w B u l v m) : Two w B v m u l := by
  obtain ⟨P, Q, h0, h1, h⟩ := h
  exact ⟨Q, P, h1, h0, fun k hk hp => h k hp hk⟩
def Three (w : World) (B : Nat) (v0 v1 v2 : Value) (p : P3) : Prop := ∃ P0 P1 P2, SS w B P0 v0 p.a ∧ SS w B P1 v1 p.b ∧ SS w B P2 v2 p.c ∧ ApP P0 P1 ∧ ApP P0 P2 ∧ ApP P1 P2
theorem Three.nil (w : World) (B : Nat) : Three w B (.slice none 0 0) (.slice none 0 0) (.slice none 0 0) ⟨[], [], []⟩ :=
  ⟨fun _ => False, fun _ => False, fun _ => False, Kd.S_nil _ _ _ _ _, Kd.S_nil _ _ _ _ _, Kd.S_nil _ _ _ _ _, fun _ h => h.elim, fun _ h => h.elim, fun _ h => h.elim⟩
theorem Three.set2 {w : World} {B B' G : Nat} {v0 v1 v2 : Value} {p : P3} {t : TypeId} {cs : Array Value} (h : Three w B v0 v1 v2 p) (b : w.heap[G]? = some (.cells cs t (0, 0))) (ht : ∀ q, q ∈ 66 :: kO.E → q ≠ t) (hB : B' ≤ B) (u0 u1 : Value) : Three (Id.set2 w G u0 u1) B' v0 v1 v2 p := by
  obtain ⟨P0, P1, P2, h0, h1, h2, a, b', c⟩ := h
  exact ⟨P0, P1, P2, Kd.S_lower (SS.set2 h0 b ht u0 u1) hB, Kd.S_lower (SS.set2 h1 b ht u0 u1) hB, Kd.S_lower (SS.set2 h2 b ht u0 u1) hB, a, b', c⟩
end Go.Proofs.Ytccenpmaooailaa.Eg
