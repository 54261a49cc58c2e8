
/- Sizes, copies, comparisons, marks of pairs and spans: the laws' own functions. -/
import Derived.Test.YtccenpmaooailaaMB7
import Derived.Test.YtccenpmaooailaaMB6
import Derived.Test.YtccenpmaooailaaMEb
import Derived.Test.YtccenpmaooailaaMEc
import Derived.Test.YtccenpmaooailaaMEd
import Derived.Test.YtccenpmaooailaaMEg
set_option linter.unusedVariables false
set_option linter.unusedSimpArgs false
namespace Go.Proofs.Ytccenpmaooailaa.Ee
open Go.RowKit Go.Proofs.YtccenpmaooailaaW.PrintWords Go.Proofs.Ytccenpmaooailaa.Wd Go.Proofs.Ytccenpmaooailaa.Pu Go.Proofs.Ytccenpmaooailaa.Pv Go.Proofs.Ytccenpmaooailaa.Ca Go.Proofs.Ytccenpmaooailaa.Cb Go.Proofs.Ytccenpmaooailaa.Cc Go.Proofs.Ytccenpmaooailaa.Cp Go.Proofs.Ytccenpmaooailaa.Cd Go.Proofs.Ytccenpmaooailaa.Ci Go.Proofs.Ytccenpmaooailaa.Ce Go.Proofs.Ytccenpmaooailaa.Cf Go.Proofs.Ytccenpmaooailaa.Cg Go.Proofs.Ytccenpmaooailaa.Sc Go.Proofs.Ytccenpmaooailaa.Se Go.Proofs.Ytccenpmaooailaa.Sh Go.Proofs.Ytccenpmaooailaa.Si Go.Proofs.Ytccenpmaooailaa.Sp Go.Proofs.Ytccenpmaooailaa.Ia Go.Proofs.Ytccenpmaooailaa.Ib Go.Proofs.Ytccenpmaooailaa.Ic Go.Proofs.Ytccenpmaooailaa.Id Go.Proofs.Ytccenpmaooailaa.Ie Go.Proofs.Ytccenpmaooailaa.If Go.Proofs.Ytccenpmaooailaa.Ig Go.Proofs.Ytccenpmaooailaa.Ih Go.Proofs.Ytccenpmaooailaa.Ij Go.Proofs.Ytccenpmaooailaa.Ik Go.Proofs.Ytccenpmaooailaa.Ra Go.Proofs.Ytccenpmaooailaa.Rb Go.Proofs.Ytccenpmaooailaa.Rc Go.Proofs.Ytccenpmaooailaa.Rd Go.Proofs.Ytccenpmaooailaa.Re Go.Proofs.Ytccenpmaooailaa.Sj Go.Proofs.Ytccenpmaooailaa.Ya Go.Proofs.Ytccenpmaooailaa.Yd Go.Proofs.Ytccenpmaooailaa.Yf Go.Proofs.Ytccenpmaooailaa.Yg Go.Proofs.Ytccenpmaooailaa.Ih Go.Proofs.Ytccenpmaooailaa.Yh Go.Proofs.Ytccenpmaooailaa.Yi Go.Proofs.Ytccenpmaooailaa.Sg Go.Proofs.Ytccenpmaooailaa.Sf Go.Proofs.Ytccenpmaooailaa.Yj Go.Proofs.Ytccenpmaooailaa.Ig Go.Proofs.Ytccenpmaooailaa.Yk Go.Proofs.Ytccenpmaooailaa.Ik Go.Proofs.Ytccenpmaooailaa.Yl Go.Proofs.Ytccenpmaooailaa.Ij Go.Proofs.Ytccenpmaooailaa.Ym Go.Proofs.Ytccenpmaooailaa.Il Go.Proofs.Ytccenpmaooailaa.Yn Go.Proofs.Ytccenpmaooailaa.Yo Go.Proofs.Ytccenpmaooailaa.In Go.Proofs.Ytccenpmaooailaa.Yq Go.Proofs.Ytccenpmaooailaa.Pw Go.Proofs.Ytccenpmaooailaa.Px Go.Proofs.Ytccenpmaooailaa.La Go.Proofs.Ytccenpmaooailaa.Db Go.Proofs.Ytccenpmaooailaa.Sh Go.Proofs.Ytccenpmaooailaa.Id Go.Proofs.Ytccenpmaooailaa.Ea Go.Proofs.Ytccenpmaooailaa.Eb Go.Proofs.Ytccenpmaooailaa.Ec Go.Proofs.Ytccenpmaooailaa.Ed Go.Proofs.Ytccenpmaooailaa.Eg

theorem SS.fr {S P : Nat → Prop} {w w' : World} {base : Nat} {v : Value} {l : List Occ} (h : SS w base P v l) (hf : Fr S w w') (hn : ∀ k, P k → ¬ S k) : SS w' base P v l := Kd.S_step h (fun k hk hlt => hf.block k hlt (hn k hk))
theorem SS.lt {P : Nat → Prop} {w : World} {base : Nat} {v : Value} {l : List Occ} (h : SS w base P v l) : SS w base (fun k => P k ∧ base ≤ k ∧ k < w.heap.size) v l := Kd.S_mono (Kd.S_bound h) (fun k hk => ⟨hk.1, hk.2.1, hk.2.2.1⟩)
theorem SS.isL {P : Nat → Prop} {w : World} {base : Nat} {A : Option Addr} {n c : Nat} {l : List Occ} (h : SS w base P (.slice A n c) l) : IsL w l A c := by
  obtain ⟨hn, hc, hC⟩ := Kd.S_reads' h
  subst hn
  exact ⟨hc, hC⟩
theorem Two.set {w : World} {B G : Nat} {u v : Value} {l m : List Occ} {t : TypeId} {cs : Array Value} (h : Two w B u l v m) (b : w.heap[G]? = some (.cells cs t (0, 0))) (ht : ∀ q, q ∈ 66 :: kO.E → q ≠ t) (j : Nat) (u0 : Value) : Two (w.setCell ⟨G, j, none⟩ u0) B u l v m := by
  obtain ⟨P, Q, h0, h1, hap⟩ := h
  exact ⟨P, Q, Kd.S_set h0 b ht j u0, Kd.S_set h1 b ht j u0, hap⟩

end Go.Proofs.Ytccenpmaooailaa.Ee
