
import Derived.Test.YtccenpmaooailaaGreatNB2
import Derived.Test.YtccenpmaooailaaGreatNB4
import Derived.Test.YtccenpmaooailaaGreatNB3
import Derived.OwnWalk
/- What is drawn for pairs: the reference's. -/
set_option linter.unusedVariables false
set_option linter.unusedSimpArgs false
namespace Go.Proofs.YtccenpmaooailaaGreat.Da
open Go.RowKit Go.Proofs.YtccenpmaooailaaGreatW.PrintWords Go.Proofs.YtccenpmaooailaaGreat.Wd Go.Proofs.YtccenpmaooailaaGreat.Pu Go.Proofs.YtccenpmaooailaaGreat.Ca Go.Proofs.YtccenpmaooailaaGreat.Cg Go.Proofs.YtccenpmaooailaaGreat.Cf Go.Proofs.YtccenpmaooailaaGreat.Ce Go.Proofs.YtccenpmaooailaaGreat.Cp Go.Proofs.YtccenpmaooailaaGreat.Sa Go.Proofs.YtccenpmaooailaaGreat.Sb Go.Proofs.YtccenpmaooailaaGreat.Sc Go.Proofs.YtccenpmaooailaaGreat.Sh Go.Proofs.YtccenpmaooailaaGreat.Si Go.Proofs.YtccenpmaooailaaGreat.Sj Go.Proofs.YtccenpmaooailaaGreat.Sk Go.Proofs.YtccenpmaooailaaGreat.Sl Go.Proofs.YtccenpmaooailaaGreat.Sm Go.Proofs.YtccenpmaooailaaGreat.Rb Go.Proofs.YtccenpmaooailaaGreat.Id

/-- a drawn list: its row, what lies in it came in or was made -/
abbrev Dw (w0 w : World) (base : Nat) (v : Value) (l : List Occ) : Prop := (kX w0).R 43 w base (fun _ => True) v l
theorem Dw.isL {w0 w : World} {base : Nat} {A : Option Addr} {n c : Nat} {l : List Occ} (hb : Below w0.heap.size w0 w) (h : Dw w0 w base (.slice A n c) l) : IsL w l A c := by
  have hq := Kd.R_reads' h
  exact ⟨by have := hq.2.1; have := hq.1; omega, X_O hb hq.2.2⟩
theorem Dw.set {w0 w : World} {base P : Nat} {u : Value} {l : List Occ} {cells : Array Value} {t : TypeId} (h : Dw w0 w base u l) (b : w.heap[P]? = some (.cells cells t (0, 0))) (ht : ∀ q, q ∈ 43 :: kO.E → q ≠ t) (j : Nat) (x : Value) : Dw w0 (w.setCell ⟨P, j, none⟩ x) base u l := Kd.R_set h b ht j x
structure PairMem (w0 w w' : World) (g : Nat) (bs : List Int) (v0 v1 : Value) (l r : List Occ) : Prop where
  r0 : Dw w0 w' w.heap.size v0 l
  r1 : Dw w0 w' w.heap.size v1 r
  rd : ∃ p, p ≤ 3000 ∧ Rd w0 w' g bs p
  gr : w.grownBy w' (some g)
  len0 : l.length ≤ 7
  len1 : r.length ≤ 7
  ids0 : ∀ x ∈ l, x.f2.length ≤ 24
  ids1 : ∀ x ∈ r, x.f2.length ≤ 24
theorem PairMem.set {w0 w w1 : World} {g P : Nat} {bs : List Int} {v0 v1 : Value} {l r : List Occ} {cells : Array Value} (h : PairMem w0 w w1 g bs v0 v1 l r) (hb : w1.heap[P]? = some (.cells cells 78 (0, 0))) (hP : w.heap.size ≤ P) (hgw : g < w.heap.size) (j : Nat) (u : Value) : PairMem w0 w (w1.setCell ⟨P, j, none⟩ u) g bs v0 v1 l r := by
  obtain ⟨p, hp, hr⟩ := h.rd
  exact ⟨Dw.set h.r0 hb (by decide) j u, Dw.set h.r1 hb (by decide) j u, ⟨p, hp, rd_far hr (by have := hr.base; omega) (by omega) _ _⟩, grown_set (n := j) h.gr hP, h.len0, h.len1, h.ids0, h.ids1⟩
end Go.Proofs.YtccenpmaooailaaGreat.Da

/- What is drawn for pairs and sequences: the reference's. -/
set_option linter.unusedVariables false
set_option linter.unusedSimpArgs false
namespace Go.Proofs.YtccenpmaooailaaGreat.Db
open Go.RowKit Go.Proofs.YtccenpmaooailaaGreatW.PrintWords Go.Proofs.YtccenpmaooailaaGreat.Wd Go.Proofs.YtccenpmaooailaaGreat.Pu Go.Proofs.YtccenpmaooailaaGreat.Ca Go.Proofs.YtccenpmaooailaaGreat.Cg Go.Proofs.YtccenpmaooailaaGreat.Cf Go.Proofs.YtccenpmaooailaaGreat.Ce Go.Proofs.YtccenpmaooailaaGreat.Cp Go.Proofs.YtccenpmaooailaaGreat.Sa Go.Proofs.YtccenpmaooailaaGreat.Sb Go.Proofs.YtccenpmaooailaaGreat.Sc Go.Proofs.YtccenpmaooailaaGreat.Sh Go.Proofs.YtccenpmaooailaaGreat.Si Go.Proofs.YtccenpmaooailaaGreat.Sj Go.Proofs.YtccenpmaooailaaGreat.Sk Go.Proofs.YtccenpmaooailaaGreat.Sl Go.Proofs.YtccenpmaooailaaGreat.Sm Go.Proofs.YtccenpmaooailaaGreat.Rb Go.Proofs.YtccenpmaooailaaGreat.Id Go.Proofs.YtccenpmaooailaaGreat.Da

end Go.Proofs.YtccenpmaooailaaGreat.Db
