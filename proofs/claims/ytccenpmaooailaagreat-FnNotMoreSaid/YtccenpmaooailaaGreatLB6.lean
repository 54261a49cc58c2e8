
import Derived.Test.YtccenpmaooailaaGreatLB2
import Derived.Test.YtccenpmaooailaaGreatLB4
import Derived.Test.YtccenpmaooailaaGreatLB3
import Derived.OwnWalk
/- What is drawn for pairs: the reference's. -/
set_option linter.unusedVariables false
set_option linter.unusedSimpArgs false
namespace Go.Proofs.YtccenpmaooailaaGreat.Da
open Go.RowKit Go.Proofs.YtccenpmaooailaaGreatW.PrintWords Go.Proofs.YtccenpmaooailaaGreat.Wd Go.Proofs.YtccenpmaooailaaGreat.Pu Go.Proofs.YtccenpmaooailaaGreat.Ca Go.Proofs.YtccenpmaooailaaGreat.Cg Go.Proofs.YtccenpmaooailaaGreat.Cf Go.Proofs.YtccenpmaooailaaGreat.Ce Go.Proofs.YtccenpmaooailaaGreat.Cp Go.Proofs.YtccenpmaooailaaGreat.Sa Go.Proofs.YtccenpmaooailaaGreat.Sb Go.Proofs.YtccenpmaooailaaGreat.Sc Go.Proofs.YtccenpmaooailaaGreat.Sh Go.Proofs.YtccenpmaooailaaGreat.Si Go.Proofs.YtccenpmaooailaaGreat.Sj Go.Proofs.YtccenpmaooailaaGreat.Sk Go.Proofs.YtccenpmaooailaaGreat.Sl Go.Proofs.YtccenpmaooailaaGreat.Sm Go.Proofs.YtccenpmaooailaaGreat.Rb Go.Proofs.YtccenpmaooailaaGreat.Id

/-- a drawn list: its row, what lies in it came in or was made -/
abbrev Dw (w0 w : World) (base : Nat) (v : Value) (l : List Occ) : Prop := (kX w0).R 43 w base (fun _ => True) v l
theorem Dw.isL {w0 w : World} {base : Nat} {A : Option Addr} {n c : Nat} {l : List Occ} (hb : Below w0.heap.size w0 w) (h : Dw w0 w base (.slice A n c) l) : IsL w l A c := by
  have hq := Kd.R_reads' h
  exact ⟨by have := hq.2.1; have := hq.1; omega, X_O hb hq.2.2⟩
theorem Dw.set {w0 w : World} {base P : Nat} {u : Value} {l : List Occ} {cells : Array Value} {t : TypeId} (h : Dw w0 w base u l) (b : w.heap[P]? = some (.cells cells t (0, 0))) (ht : ∀ q, q ∈ 43 :: kO.E → q ≠ t) (j : Nat) (x : Value) : Dw w0 (w.setCell ⟨P, j, none⟩ x) base u l := Kd.R_set h b ht j x
theorem lits_C {w : World} {B : Nat} {e : TypeId} {xs : List Int} (hB : w.heap[B]? = some (.cells (xs.map (Value.int .i64)).toArray e (0, 0))) (hl : xs.length ≤ 1000 := by decide) : (Kd.int .i64).C w (some ⟨B, 0, none⟩) xs.length xs := (Kd.R_reads' (R_lits (base := 0) hB (Nat.zero_le _) hl)).2.2
def DrawOut (w0 w w' : World) (g : Nat) (bs : List Int) (p : Nat) (e : Ending) : Prop := ∃ x : Int, e = .returned (.int .i64 x) ∧ Rd w0 w' g bs (p + 1) ∧ w.grownBy w' (some g)
set_option maxHeartbeats 1000000 in
set_option maxRecDepth 100000 in
theorem draw_any (w0 : World) (g : Nat) (bs : List Int) (p : Nat) (w : World) (h : Rd w0 w g bs p) (hp : p < 100000) :
    Calls Tryz.prog 39 #[.pointer (some ⟨g, 0, none⟩)] w fun e w' => DrawOut w0 w w' g bs p e := by
  have hgw := rd_lt h
  go_enter Tryz.func39, Tryz.ntmps39
  go_wp2_with (go_at_call 77; refine (num_any w0 g bs p (some ⟨w.heap.size, 0, none⟩) 17 [0, 1, 2, 3, 4, 0, 1, 2, 3, 4, 0, 1, 2, 3, 4, -1, 5] _ (h.grown (below_alloc (Below.refl _ _) _)) hp (by decide) (by decide) (fun w' hg => lits_C (blk_grown (blk_new w _) hg (by simp; omega)))).mono ?_; rintro e w1 ⟨x, rfl, _, hr, hg⟩; have HR := Aside0.mk hr; have HG := Aside0.mk (World.grownBy.trans (grown_alloc _ (some g)) hg); clear hr hg)
  go_ret
  exact ⟨x, rfl, HR.out, HG.out⟩
structure PairMem (w0 w w' : World) (g : Nat) (bs : List Int) (v0 v1 : Value) (l r : List Occ) : Prop where
  r0 : Dw w0 w' w.heap.size v0 l
  r1 : Dw w0 w' w.heap.size v1 r
  rd : ∃ p, p ≤ 3000 ∧ Rd w0 w' g bs p
  gr : w.grownBy w' (some g)
  len0 : l.length ≤ 7
  len1 : r.length ≤ 7
  ids0 : ∀ x ∈ l, x.f2.length ≤ 24
  ids1 : ∀ x ∈ r, x.f2.length ≤ 24
theorem PairMem.set {w0 w w1 : World} {g P : Nat} {bs : List Int} {v0 v1 : Value} {l r : List Occ} {cells : Array Value} (h : PairMem w0 w w1 g bs v0 v1 l r) (hb : w1.heap[P]? = some (.cells cells 78 (0, 0))) (hP : w.heap.size ≤ P) (hgw : g < w.heap.size) (j : Nat) (u : Value) : PairMem w0 w (w1.setCell ⟨P, j, none⟩ u) g bs v0 v1 l r := by
  obtain ⟨p, hp, hr⟩ := h.rd
  exact ⟨Dw.set h.r0 hb (by decide) j u, Dw.set h.r1 hb (by decide) j u, ⟨p, hp, rd_far hr (by have := hr.base; omega) (by omega) _ _⟩, grown_set (n := j) h.gr hP, h.len0, h.len1, h.ids0, h.ids1⟩
end Go.Proofs.YtccenpmaooailaaGreat.Da

/- What is drawn for pairs and sequences: the reference's. -/
set_option linter.unusedVariables false
set_option linter.unusedSimpArgs false
namespace Go.Proofs.YtccenpmaooailaaGreat.Db
open Go.RowKit Go.Proofs.YtccenpmaooailaaGreatW.PrintWords Go.Proofs.YtccenpmaooailaaGreat.Wd Go.Proofs.YtccenpmaooailaaGreat.Pu Go.Proofs.YtccenpmaooailaaGreat.Ca Go.Proofs.YtccenpmaooailaaGreat.Cg Go.Proofs.YtccenpmaooailaaGreat.Cf Go.Proofs.YtccenpmaooailaaGreat.Ce Go.Proofs.YtccenpmaooailaaGreat.Cp Go.Proofs.YtccenpmaooailaaGreat.Sa Go.Proofs.YtccenpmaooailaaGreat.Sb Go.Proofs.YtccenpmaooailaaGreat.Sc Go.Proofs.YtccenpmaooailaaGreat.Sh Go.Proofs.YtccenpmaooailaaGreat.Si Go.Proofs.YtccenpmaooailaaGreat.Sj Go.Proofs.YtccenpmaooailaaGreat.Sk Go.Proofs.YtccenpmaooailaaGreat.Sl Go.Proofs.YtccenpmaooailaaGreat.Sm Go.Proofs.YtccenpmaooailaaGreat.Rb Go.Proofs.YtccenpmaooailaaGreat.Id Go.Proofs.YtccenpmaooailaaGreat.Da

end Go.Proofs.YtccenpmaooailaaGreat.Db
