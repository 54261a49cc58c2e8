
/- Sizes, copies, comparisons, marks of pairs and spans: the laws' own functions. -/
import Derived.Test.YtccenpmaooailaaGreatNB7
import Derived.Test.YtccenpmaooailaaGreatNB6
import Derived.Test.YtccenpmaooailaaGreatNEb
import Derived.Test.YtccenpmaooailaaGreatNEc
import Derived.Test.YtccenpmaooailaaGreatNEd
import Derived.Test.YtccenpmaooailaaGreatNEg
set_option linter.unusedVariables false
set_option linter.unusedSimpArgs false
namespace Go.Proofs.YtccenpmaooailaaGreat.Ee
open Go.RowKit Go.Proofs.YtccenpmaooailaaGreatW.PrintWords Go.Proofs.YtccenpmaooailaaGreat.Wd Go.Proofs.YtccenpmaooailaaGreat.Pu Go.Proofs.YtccenpmaooailaaGreat.Pv Go.Proofs.YtccenpmaooailaaGreat.Ca Go.Proofs.YtccenpmaooailaaGreat.Cb Go.Proofs.YtccenpmaooailaaGreat.Cc Go.Proofs.YtccenpmaooailaaGreat.Cp Go.Proofs.YtccenpmaooailaaGreat.Cd Go.Proofs.YtccenpmaooailaaGreat.Ci Go.Proofs.YtccenpmaooailaaGreat.Ce Go.Proofs.YtccenpmaooailaaGreat.Cf Go.Proofs.YtccenpmaooailaaGreat.Cg Go.Proofs.YtccenpmaooailaaGreat.Sc Go.Proofs.YtccenpmaooailaaGreat.Se Go.Proofs.YtccenpmaooailaaGreat.Sh Go.Proofs.YtccenpmaooailaaGreat.Si Go.Proofs.YtccenpmaooailaaGreat.Sp Go.Proofs.YtccenpmaooailaaGreat.Ia Go.Proofs.YtccenpmaooailaaGreat.Ib Go.Proofs.YtccenpmaooailaaGreat.Ic Go.Proofs.YtccenpmaooailaaGreat.Id Go.Proofs.YtccenpmaooailaaGreat.Ie Go.Proofs.YtccenpmaooailaaGreat.If Go.Proofs.YtccenpmaooailaaGreat.Ig Go.Proofs.YtccenpmaooailaaGreat.Ih Go.Proofs.YtccenpmaooailaaGreat.Ij Go.Proofs.YtccenpmaooailaaGreat.Ik Go.Proofs.YtccenpmaooailaaGreat.Ra Go.Proofs.YtccenpmaooailaaGreat.Rb Go.Proofs.YtccenpmaooailaaGreat.Rc Go.Proofs.YtccenpmaooailaaGreat.Rd Go.Proofs.YtccenpmaooailaaGreat.Re Go.Proofs.YtccenpmaooailaaGreat.Sj Go.Proofs.YtccenpmaooailaaGreat.Ya Go.Proofs.YtccenpmaooailaaGreat.Yd Go.Proofs.YtccenpmaooailaaGreat.Yf Go.Proofs.YtccenpmaooailaaGreat.Yg Go.Proofs.YtccenpmaooailaaGreat.Ih Go.Proofs.YtccenpmaooailaaGreat.Yh Go.Proofs.YtccenpmaooailaaGreat.Yi Go.Proofs.YtccenpmaooailaaGreat.Sg Go.Proofs.YtccenpmaooailaaGreat.Sf Go.Proofs.YtccenpmaooailaaGreat.Yj Go.Proofs.YtccenpmaooailaaGreat.Ig Go.Proofs.YtccenpmaooailaaGreat.Yk Go.Proofs.YtccenpmaooailaaGreat.Ik Go.Proofs.YtccenpmaooailaaGreat.Yl Go.Proofs.YtccenpmaooailaaGreat.Ij Go.Proofs.YtccenpmaooailaaGreat.Ym Go.Proofs.YtccenpmaooailaaGreat.Il Go.Proofs.YtccenpmaooailaaGreat.Yn Go.Proofs.YtccenpmaooailaaGreat.Yo Go.Proofs.YtccenpmaooailaaGreat.In Go.Proofs.YtccenpmaooailaaGreat.Yq Go.Proofs.YtccenpmaooailaaGreat.Pw Go.Proofs.YtccenpmaooailaaGreat.Px Go.Proofs.YtccenpmaooailaaGreat.La Go.Proofs.YtccenpmaooailaaGreat.Db Go.Proofs.YtccenpmaooailaaGreat.Sh Go.Proofs.YtccenpmaooailaaGreat.Id Go.Proofs.YtccenpmaooailaaGreat.Ea Go.Proofs.YtccenpmaooailaaGreat.Eb Go.Proofs.YtccenpmaooailaaGreat.Ec Go.Proofs.YtccenpmaooailaaGreat.Ed Go.Proofs.YtccenpmaooailaaGreat.Eg

theorem SS.fr {S P : Nat → Prop} {w w' : World} {base : Nat} {v : Value} {l : List Occ} (h : SS w base P v l) (hf : Fr S w w') (hn : ∀ k, P k → ¬ S k) : SS w' base P v l := Kd.S_step h (fun k hk hlt => hf.block k hlt (hn k hk))
theorem SS.lt {P : Nat → Prop} {w : World} {base : Nat} {v : Value} {l : List Occ} (h : SS w base P v l) : SS w base (fun k => P k ∧ base ≤ k ∧ k < w.heap.size) v l := Kd.S_mono (Kd.S_bound h) (fun k hk => ⟨hk.1, hk.2.1, hk.2.2.1⟩)
theorem SS.isL {P : Nat → Prop} {w : World} {base : Nat} {A : Option Addr} {n c : Nat} {l : List Occ} (h : SS w base P (.slice A n c) l) : IsL w l A c := by
  obtain ⟨hn, hc, hC⟩ := Kd.S_reads' h
  subst hn
  exact ⟨hc, hC⟩
theorem Two.set {w : World} {B G : Nat} {u v : Value} {l m : List Occ} {t : TypeId} {cs : Array Value} (h : Two w B u l v m) (b : w.heap[G]? = some (.cells cs t (0, 0))) (ht : ∀ q, q ∈ 43 :: kO.E → q ≠ t) (j : Nat) (u0 : Value) : Two (w.setCell ⟨G, j, none⟩ u0) B u l v m := by
  obtain ⟨P, Q, h0, h1, hap⟩ := h
  exact ⟨P, Q, Kd.S_set h0 b ht j u0, Kd.S_set h1 b ht j u0, hap⟩

end Go.Proofs.YtccenpmaooailaaGreat.Ee
