
import Derived.Test.YtccenpmaooailaaNB2
import Derived.Test.YtccenpmaooailaaNB4
import Derived.Test.YtccenpmaooailaaNB3
import Derived.OwnWalk
/- What is drawn for pairs: the reference's. -/
set_option linter.unusedVariables false
set_option linter.unusedSimpArgs false
namespace Go.Proofs.Ytccenpmaooailaa.Da
open Go.RowKit Go.Proofs.YtccenpmaooailaaW.PrintWords Go.Proofs.Ytccenpmaooailaa.Wd Go.Proofs.Ytccenpmaooailaa.Pu Go.Proofs.Ytccenpmaooailaa.Ca Go.Proofs.Ytccenpmaooailaa.Cg Go.Proofs.Ytccenpmaooailaa.Cf Go.Proofs.Ytccenpmaooailaa.Ce Go.Proofs.Ytccenpmaooailaa.Cp Go.Proofs.Ytccenpmaooailaa.Sa Go.Proofs.Ytccenpmaooailaa.Sb Go.Proofs.Ytccenpmaooailaa.Sc Go.Proofs.Ytccenpmaooailaa.Sh Go.Proofs.Ytccenpmaooailaa.Si Go.Proofs.Ytccenpmaooailaa.Sj Go.Proofs.Ytccenpmaooailaa.Sk Go.Proofs.Ytccenpmaooailaa.Sl Go.Proofs.Ytccenpmaooailaa.Sm Go.Proofs.Ytccenpmaooailaa.Rb Go.Proofs.Ytccenpmaooailaa.Id

/-- a drawn list: its row, what lies in it came in or was made -/
abbrev Dw (w0 w : World) (base : Nat) (v : Value) (l : List Occ) : Prop := (kX w0).R 66 w base (fun _ => True) v l
theorem Dw.isL {w0 w : World} {base : Nat} {A : Option Addr} {n c : Nat} {l : List Occ} (hb : Below w0.heap.size w0 w) (h : Dw w0 w base (.slice A n c) l) : IsL w l A c := by
  have hq := Kd.R_reads' h
  exact ⟨by have := hq.2.1; have := hq.1; omega, X_O hb hq.2.2⟩
theorem Dw.set {w0 w : World} {base P : Nat} {u : Value} {l : List Occ} {cells : Array Value} {t : TypeId} (h : Dw w0 w base u l) (b : w.heap[P]? = some (.cells cells t (0, 0))) (ht : ∀ q, q ∈ 66 :: kO.E → q ≠ t) (j : Nat) (x : Value) : Dw w0 (w.setCell ⟨P, j, none⟩ x) base u l := Kd.R_set h b ht j x
theorem grown_two {w1 w2 w3 : World} {g : Nat} (h : w1.grownBy w2 (some g)) (k : w2.grownBy w3 (some g)) : w1.grownBy w3 (some g) := grown_new h k (fun j hj => .inr hj.symm)
structure PairMem (w0 w w' : World) (g : Nat) (bs : List Int) (v0 v1 : Value) (l r : List Occ) : Prop where
  r0 : Dw w0 w' w.heap.size v0 l
  r1 : Dw w0 w' w.heap.size v1 r
  rd : ∃ p, p ≤ 3000 ∧ Rd w0 w' g bs p
  gr : w.grownBy w' (some g)
  len0 : l.length ≤ 7
  len1 : r.length ≤ 7
  ids0 : ∀ x ∈ l, x.f2.length ≤ 24
  ids1 : ∀ x ∈ r, x.f2.length ≤ 24
theorem PairMem.grow {w0 w w1 w2 : World} {g : Nat} {bs : List Int} {v0 v1 : Value} {l r : List Occ} (h : PairMem w0 w w1 g bs v0 v1 l r) (hg : w1.grownBy w2 (some g)) (hgw : g < w.heap.size) (hr : ∃ p, p ≤ 3000 ∧ Rd w0 w2 g bs p) : PairMem w0 w w2 g bs v0 v1 l r :=
  ⟨own_step h.r0 hg hgw, own_step h.r1 hg hgw, hr, grown_two h.gr hg, h.len0, h.len1, h.ids0, h.ids1⟩
theorem PairMem.set {w0 w w1 : World} {g P : Nat} {bs : List Int} {v0 v1 : Value} {l r : List Occ} {cells : Array Value} (h : PairMem w0 w w1 g bs v0 v1 l r) (hb : w1.heap[P]? = some (.cells cells 29 (0, 0))) (hP : w.heap.size ≤ P) (hgw : g < w.heap.size) (j : Nat) (u : Value) : PairMem w0 w (w1.setCell ⟨P, j, none⟩ u) g bs v0 v1 l r := by
  obtain ⟨p, hp, hr⟩ := h.rd
  exact ⟨Dw.set h.r0 hb (by decide) j u, Dw.set h.r1 hb (by decide) j u, ⟨p, hp, rd_far hr (by have := hr.base; omega) (by omega) _ _⟩, grown_set (n := j) h.gr hP, h.len0, h.len1, h.ids0, h.ids1⟩
end Go.Proofs.Ytccenpmaooailaa.Da

/- What is drawn for pairs and sequences: the reference's. -/
set_option linter.unusedVariables false
set_option linter.unusedSimpArgs false
namespace Go.Proofs.Ytccenpmaooailaa.Db
open Go.RowKit Go.Proofs.YtccenpmaooailaaW.PrintWords Go.Proofs.Ytccenpmaooailaa.Wd Go.Proofs.Ytccenpmaooailaa.Pu Go.Proofs.Ytccenpmaooailaa.Ca Go.Proofs.Ytccenpmaooailaa.Cg Go.Proofs.Ytccenpmaooailaa.Cf Go.Proofs.Ytccenpmaooailaa.Ce Go.Proofs.Ytccenpmaooailaa.Cp Go.Proofs.Ytccenpmaooailaa.Sa Go.Proofs.Ytccenpmaooailaa.Sb Go.Proofs.Ytccenpmaooailaa.Sc Go.Proofs.Ytccenpmaooailaa.Sh Go.Proofs.Ytccenpmaooailaa.Si Go.Proofs.Ytccenpmaooailaa.Sj Go.Proofs.Ytccenpmaooailaa.Sk Go.Proofs.Ytccenpmaooailaa.Sl Go.Proofs.Ytccenpmaooailaa.Sm Go.Proofs.Ytccenpmaooailaa.Rb Go.Proofs.Ytccenpmaooailaa.Id Go.Proofs.Ytccenpmaooailaa.Da

structure PR (w0 w w' : World) (g : Nat) (v0 v1 : Value) (l r : List Occ) : Prop where
  r0 : Dw w0 w' w.heap.size v0 l
  r1 : Dw w0 w' w.heap.size v1 r
  gr : w.grownBy w' (some g)
theorem PR.grow {w0 w w1 w2 : World} {g : Nat} {v0 v1 : Value} {l r : List Occ} (h : PR w0 w w1 g v0 v1 l r) (hg : w1.grownBy w2 (some g)) (hgw : g < w.heap.size) : PR w0 w w2 g v0 v1 l r :=
  ⟨own_step h.r0 hg hgw, own_step h.r1 hg hgw, grown_two h.gr hg⟩
end Go.Proofs.Ytccenpmaooailaa.Db
