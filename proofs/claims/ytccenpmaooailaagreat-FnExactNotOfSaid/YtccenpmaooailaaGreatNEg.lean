
/- PairSeq, PairAnd, SpanNot, SpanEach of the program: three rows of one's own, apart. -/
import Derived.Test.YtccenpmaooailaaGreatNB7
import Derived.Test.YtccenpmaooailaaGreatNB6
import Derived.Test.YtccenpmaooailaaGreatNTe
set_option linter.unusedVariables false
set_option linter.unusedSimpArgs false
namespace Go.Proofs.YtccenpmaooailaaGreat.Eg
open Go.RowKit Go.Proofs.YtccenpmaooailaaGreatW.PrintWords Go.Proofs.YtccenpmaooailaaGreat.Wd Go.Proofs.YtccenpmaooailaaGreat.Pu Go.Proofs.YtccenpmaooailaaGreat.Pv Go.Proofs.YtccenpmaooailaaGreat.Ca Go.Proofs.YtccenpmaooailaaGreat.Cb Go.Proofs.YtccenpmaooailaaGreat.Cc Go.Proofs.YtccenpmaooailaaGreat.Cp Go.Proofs.YtccenpmaooailaaGreat.Cd Go.Proofs.YtccenpmaooailaaGreat.Ci Go.Proofs.YtccenpmaooailaaGreat.Ce Go.Proofs.YtccenpmaooailaaGreat.Cf Go.Proofs.YtccenpmaooailaaGreat.Cg Go.Proofs.YtccenpmaooailaaGreat.Sc Go.Proofs.YtccenpmaooailaaGreat.Se Go.Proofs.YtccenpmaooailaaGreat.Sh Go.Proofs.YtccenpmaooailaaGreat.Si Go.Proofs.YtccenpmaooailaaGreat.Sp Go.Proofs.YtccenpmaooailaaGreat.Ia Go.Proofs.YtccenpmaooailaaGreat.Ib Go.Proofs.YtccenpmaooailaaGreat.Ic Go.Proofs.YtccenpmaooailaaGreat.Id Go.Proofs.YtccenpmaooailaaGreat.Ie Go.Proofs.YtccenpmaooailaaGreat.If Go.Proofs.YtccenpmaooailaaGreat.Ig Go.Proofs.YtccenpmaooailaaGreat.Ih Go.Proofs.YtccenpmaooailaaGreat.Ij Go.Proofs.YtccenpmaooailaaGreat.Ik Go.Proofs.YtccenpmaooailaaGreat.Ra Go.Proofs.YtccenpmaooailaaGreat.Rb Go.Proofs.YtccenpmaooailaaGreat.Rc Go.Proofs.YtccenpmaooailaaGreat.Rd Go.Proofs.YtccenpmaooailaaGreat.Re Go.Proofs.YtccenpmaooailaaGreat.Sj Go.Proofs.YtccenpmaooailaaGreat.Ya Go.Proofs.YtccenpmaooailaaGreat.Yd Go.Proofs.YtccenpmaooailaaGreat.Yf Go.Proofs.YtccenpmaooailaaGreat.Yg Go.Proofs.YtccenpmaooailaaGreat.Ih Go.Proofs.YtccenpmaooailaaGreat.Yh Go.Proofs.YtccenpmaooailaaGreat.Yi Go.Proofs.YtccenpmaooailaaGreat.Sg Go.Proofs.YtccenpmaooailaaGreat.Sf Go.Proofs.YtccenpmaooailaaGreat.Yj Go.Proofs.YtccenpmaooailaaGreat.Ig Go.Proofs.YtccenpmaooailaaGreat.Yk Go.Proofs.YtccenpmaooailaaGreat.Ik Go.Proofs.YtccenpmaooailaaGreat.Yl Go.Proofs.YtccenpmaooailaaGreat.Ij Go.Proofs.YtccenpmaooailaaGreat.Ym Go.Proofs.YtccenpmaooailaaGreat.Il Go.Proofs.YtccenpmaooailaaGreat.Yn Go.Proofs.YtccenpmaooailaaGreat.Yo Go.Proofs.YtccenpmaooailaaGreat.In Go.Proofs.YtccenpmaooailaaGreat.Yq Go.Proofs.YtccenpmaooailaaGreat.Pw Go.Proofs.YtccenpmaooailaaGreat.Px Go.Proofs.YtccenpmaooailaaGreat.La Go.Proofs.YtccenpmaooailaaGreat.Db Go.Proofs.YtccenpmaooailaaGreat.Ta Go.Proofs.YtccenpmaooailaaGreat.Tb Go.Proofs.YtccenpmaooailaaGreat.Tc Go.Proofs.YtccenpmaooailaaGreat.Td Go.Proofs.YtccenpmaooailaaGreat.Te Go.Proofs.YtccenpmaooailaaGreat.Sh

/-- no block in both -/
def ApP (P Q : Nat → Prop) : Prop := ∀ k, P k → ¬ Q k
def Two (w : World) (B : Nat) (u : Value) (l : List Occ) (v : Value) (m : List Occ) : Prop := ∃ P Q, SS w B P u l ∧ SS w B Q v m ∧ ApP P Q
theorem Two.symm {w : World} {B : Nat} {u v : Value} {l m : List Occ} (h : Two w B u l v m) : Two w B v m u l := by
  obtain ⟨P, Q, h0, h1, h⟩ := h
  exact ⟨Q, P, h1, h0, fun k hk hp => h k hp hk⟩
def Three (w : World) (B : Nat) (v0 v1 v2 : Value) (p : P3) : Prop := ∃ P0 P1 P2, SS w B P0 v0 p.a ∧ SS w B P1 v1 p.b ∧ SS w B P2 v2 p.c ∧ ApP P0 P1 ∧ ApP P0 P2 ∧ ApP P1 P2
theorem Three.nil (w : World) (B : Nat) : Three w B (.slice none 0 0) (.slice none 0 0) (.slice none 0 0) ⟨[], [], []⟩ :=
  ⟨fun _ => False, fun _ => False, fun _ => False, Kd.S_nil _ _ _ _ _, Kd.S_nil _ _ _ _ _, Kd.S_nil _ _ _ _ _, fun _ h => h.elim, fun _ h => h.elim, fun _ h => h.elim⟩
theorem Three.set2 {w : World} {B B' G : Nat} {v0 v1 v2 : Value} {p : P3} {t : TypeId} {cs : Array Value} (h : Three w B v0 v1 v2 p) (b : w.heap[G]? = some (.cells cs t (0, 0))) (ht : ∀ q, q ∈ 43 :: kO.E → q ≠ t) (hB : B' ≤ B) (u0 u1 : Value) : Three (Id.set2 w G u0 u1) B' v0 v1 v2 p := by
  obtain ⟨P0, P1, P2, h0, h1, h2, a, b', c⟩ := h
  exact ⟨P0, P1, P2, Kd.S_lower (SS.set2 h0 b ht u0 u1) hB, Kd.S_lower (SS.set2 h1 b ht u0 u1) hB, Kd.S_lower (SS.set2 h2 b ht u0 u1) hB, a, b', c⟩
end Go.Proofs.YtccenpmaooailaaGreat.Eg
