
/- A span copied: the reference's. -/
import Derived.Test.YtccenpmaooailaaGreatKB7
import Derived.Test.YtccenpmaooailaaGreatKB6
import Derived.Test.YtccenpmaooailaaGreatKTi
set_option linter.unusedVariables false
set_option linter.unusedSimpArgs false
namespace Go.Proofs.YtccenpmaooailaaGreat.Tk
open Go.RowKit Go.Proofs.YtccenpmaooailaaGreatW.PrintWords Go.Proofs.YtccenpmaooailaaGreat.Wd Go.Proofs.YtccenpmaooailaaGreat.Pu Go.Proofs.YtccenpmaooailaaGreat.Pv Go.Proofs.YtccenpmaooailaaGreat.Ca Go.Proofs.YtccenpmaooailaaGreat.Cb Go.Proofs.YtccenpmaooailaaGreat.Cc Go.Proofs.YtccenpmaooailaaGreat.Cp Go.Proofs.YtccenpmaooailaaGreat.Cd Go.Proofs.YtccenpmaooailaaGreat.Ci Go.Proofs.YtccenpmaooailaaGreat.Ce Go.Proofs.YtccenpmaooailaaGreat.Cf Go.Proofs.YtccenpmaooailaaGreat.Cg Go.Proofs.YtccenpmaooailaaGreat.Sc Go.Proofs.YtccenpmaooailaaGreat.Se Go.Proofs.YtccenpmaooailaaGreat.Sh Go.Proofs.YtccenpmaooailaaGreat.Si Go.Proofs.YtccenpmaooailaaGreat.Sp Go.Proofs.YtccenpmaooailaaGreat.Ia Go.Proofs.YtccenpmaooailaaGreat.Ib Go.Proofs.YtccenpmaooailaaGreat.Ic Go.Proofs.YtccenpmaooailaaGreat.Id Go.Proofs.YtccenpmaooailaaGreat.Ie Go.Proofs.YtccenpmaooailaaGreat.If Go.Proofs.YtccenpmaooailaaGreat.Ig Go.Proofs.YtccenpmaooailaaGreat.Ih Go.Proofs.YtccenpmaooailaaGreat.Ij Go.Proofs.YtccenpmaooailaaGreat.Ik Go.Proofs.YtccenpmaooailaaGreat.Ra Go.Proofs.YtccenpmaooailaaGreat.Rb Go.Proofs.YtccenpmaooailaaGreat.Rc Go.Proofs.YtccenpmaooailaaGreat.Rd Go.Proofs.YtccenpmaooailaaGreat.Re Go.Proofs.YtccenpmaooailaaGreat.Sj Go.Proofs.YtccenpmaooailaaGreat.Ya Go.Proofs.YtccenpmaooailaaGreat.Yd Go.Proofs.YtccenpmaooailaaGreat.Yf Go.Proofs.YtccenpmaooailaaGreat.Yg Go.Proofs.YtccenpmaooailaaGreat.Ih Go.Proofs.YtccenpmaooailaaGreat.Yh Go.Proofs.YtccenpmaooailaaGreat.Yi Go.Proofs.YtccenpmaooailaaGreat.Sg Go.Proofs.YtccenpmaooailaaGreat.Sf Go.Proofs.YtccenpmaooailaaGreat.Yj Go.Proofs.YtccenpmaooailaaGreat.Ig Go.Proofs.YtccenpmaooailaaGreat.Yk Go.Proofs.YtccenpmaooailaaGreat.Ik Go.Proofs.YtccenpmaooailaaGreat.Yl Go.Proofs.YtccenpmaooailaaGreat.Ij Go.Proofs.YtccenpmaooailaaGreat.Ym Go.Proofs.YtccenpmaooailaaGreat.Il Go.Proofs.YtccenpmaooailaaGreat.Yn Go.Proofs.YtccenpmaooailaaGreat.Yo Go.Proofs.YtccenpmaooailaaGreat.In Go.Proofs.YtccenpmaooailaaGreat.Yq Go.Proofs.YtccenpmaooailaaGreat.Pw Go.Proofs.YtccenpmaooailaaGreat.Px Go.Proofs.YtccenpmaooailaaGreat.La Go.Proofs.YtccenpmaooailaaGreat.Db Go.Proofs.YtccenpmaooailaaGreat.Ta Go.Proofs.YtccenpmaooailaaGreat.Sh Go.Proofs.YtccenpmaooailaaGreat.Id Go.Proofs.YtccenpmaooailaaGreat.Yj Go.Proofs.YtccenpmaooailaaGreat.Yi
theorem RR.set2s {w : World} {base G : Nat} {v : Value} {xs : List Occ} {cs : Array Value} (h : Rw w base v xs) (b : w.heap[G]? = some (.cells cs 25 (0, 0))) (u0 u1 : Value) : Rw (Id.set2 w G u0 u1) base v xs :=
  Kd.R_set (Kd.R_set h b (by decide) 0 u0) (blk_set b 0 u0) (by decide) 1 u1
def CopySOut (w w' : World) (l r : List Occ) (e : Ending) : Prop := ∃ v0 v1, e = .returned (.agg #[v0, v1]) ∧ Rw w' w.heap.size v0 l ∧ Rw w' w.heap.size v1 r ∧ Nq v0 v1 ∧ Below w.heap.size w w'
set_option maxHeartbeats 1000000 in
set_option maxRecDepth 100000 in
theorem spanCopy_any (A B : Option Addr) (ca cb : Nat) (l r : List Occ) (w : World) (nl : l.length ≤ 1048576) (nr : r.length ≤ 1048576) (il : ∀ x ∈ l, x.f2.length ≤ 1048576) (ir : ∀ x ∈ r, x.f2.length ≤ 1048576) (hL : IsL w l A ca) (hR : IsL w r B cb) :
    Calls Tryz.prog 49 #[.agg #[.slice A l.length ca, .slice B r.length cb]] w fun e w' => CopySOut w w' l r e := by
  have hb0 : Below w.heap.size w ((w.alloc (.cells #[.slice A l.length ca, .slice B r.length cb] 25)).alloc (.cells #[.slice none 0 0, .slice none 0 0] 25)) := below_alloc (below_alloc (Below.refl _ _) _) _
  have bP := blk_alloc (blk_new w (.cells #[.slice A l.length ca, .slice B r.length cb] 25)) (.cells #[.slice none 0 0, .slice none 0 0] 25)
  have bR : ((w.alloc (.cells #[.slice A l.length ca, .slice B r.length cb] 25)).alloc (.cells #[.slice none 0 0, .slice none 0 0] 25)).heap[w.heap.size + 1]? = some (.cells #[.slice none 0 0, .slice none 0 0] 25 (0, 0)) := by
    have := blk_new (w.alloc (.cells #[.slice A l.length ca, .slice B r.length cb] 25)) (.cells #[.slice none 0 0, .slice none 0 0] 25)
    simpa using this
  go_enter Tryz.func49, Tryz.ntmps49
  go_upto_region 1 with fail
  go_wp2_with fail
  generalize (w.alloc (.cells #[.slice A l.length ca, .slice B r.length cb] 25)).alloc (.cells #[.slice none 0 0, .slice none 0 0] 25) = W at hb0 bP bR ⊢
  have HL := Aside0.mk (hL.below hb0)
  have HR := Aside0.mk (hR.below hb0)
  have HB := Aside0.mk hb0
  have F : ∀ w', Below W.heap.size W w' → w'.cell? ⟨w.heap.size, 0, none⟩ = some (.slice A l.length ca) ∧ w'.cell? ⟨w.heap.size, 1, none⟩ = some (.slice B r.length cb) :=
    fun w' h => ⟨pw_cell_below h ((blk_cell bP 0).trans rfl), pw_cell_below h ((blk_cell bP 1).trans rfl)⟩
  go_region_held3 (fun w' => w'.cell? ⟨w.heap.size, 0, none⟩ = some (.slice A l.length ca) ∧ w'.cell? ⟨w.heap.size, 1, none⟩ = some (.slice B r.length cb))
    (first | (with_reducible exact F _ (Below.refl _ _)) | (with_reducible exact F _ (below_drew (Below.refl _ _))) | (with_reducible exact F _ HB1) | (with_reducible exact F _ HB2) | (with_reducible exact ⟨s0 _ _, s1 _ _⟩))
    (first
      | (go_at_call 50; refine (list_any B cb r _ nr ir (HR.out.below HB1)).mono ?_; rintro e w2 ⟨v1, rfl, hs2, hb2⟩; obtain ⟨A1, c1, rfl⟩ := Kd.R_slice hs2; have HT := Aside0.mk (RR.two hs1 hs2 hb2 HB1.size); have HB2 : Below W.heap.size W w2 := below_then HB1 HB1.size hb2; have bR2 := blk_below bR HB2; have r0 := (blk_cell bR2 0).trans rfl; have r1 := (blk_cell bR2 1).trans rfl; have f0 := blk_frozen bR2 0; have f1 := blk_frozen bR2 1; have bP2 := blk_below bP HB2; have s0 : ∀ u0 u1, ((w2.setCell ⟨w.heap.size + 1, 0, none⟩ u0).setCell ⟨w.heap.size + 1, 1, none⟩ u1).cell? ⟨w.heap.size, 0, none⟩ = some (.slice A l.length ca) := fun u0 u1 => (blk_cell (blk_far (blk_far bP2 (p := ⟨w.heap.size + 1, 0, none⟩) (by simp) u0) (p := ⟨w.heap.size + 1, 1, none⟩) (by simp) u1) 0).trans rfl; have s1 : ∀ u0 u1, ((w2.setCell ⟨w.heap.size + 1, 0, none⟩ u0).setCell ⟨w.heap.size + 1, 1, none⟩ u1).cell? ⟨w.heap.size, 1, none⟩ = some (.slice B r.length cb) := fun u0 u1 => (blk_cell (blk_far (blk_far bP2 (p := ⟨w.heap.size + 1, 0, none⟩) (by simp) u0) (p := ⟨w.heap.size + 1, 1, none⟩) (by simp) u1) 1).trans rfl)
      | (go_at_call 50; refine (list_any A ca l _ nl il (HL.out.below HB1)).mono ?_; rintro e w2 ⟨v0, rfl, hs2, hb2⟩; obtain ⟨A0, c0, rfl⟩ := Kd.R_slice hs2; have HT := Aside0.mk (RR.two hs1 hs2 hb2 HB1.size).symm3; have HB2 : Below W.heap.size W w2 := below_then HB1 HB1.size hb2; have bR2 := blk_below bR HB2; have r0 := (blk_cell bR2 0).trans rfl; have r1 := (blk_cell bR2 1).trans rfl; have f0 := blk_frozen bR2 0; have f1 := blk_frozen bR2 1; have bP2 := blk_below bP HB2; have s0 : ∀ u0 u1, ((w2.setCell ⟨w.heap.size + 1, 0, none⟩ u0).setCell ⟨w.heap.size + 1, 1, none⟩ u1).cell? ⟨w.heap.size, 0, none⟩ = some (.slice A l.length ca) := fun u0 u1 => (blk_cell (blk_far (blk_far bP2 (p := ⟨w.heap.size + 1, 0, none⟩) (by simp) u0) (p := ⟨w.heap.size + 1, 1, none⟩) (by simp) u1) 0).trans rfl; have s1 : ∀ u0 u1, ((w2.setCell ⟨w.heap.size + 1, 0, none⟩ u0).setCell ⟨w.heap.size + 1, 1, none⟩ u1).cell? ⟨w.heap.size, 1, none⟩ = some (.slice B r.length cb) := fun u0 u1 => (blk_cell (blk_far (blk_far bP2 (p := ⟨w.heap.size + 1, 0, none⟩) (by simp) u0) (p := ⟨w.heap.size + 1, 1, none⟩) (by simp) u1) 1).trans rfl)
      | (go_at_call 50; refine (list_any A ca l _ nl il (HL.out.below (below_drew (Below.refl _ _)))).mono ?_; rintro e w1 ⟨v0, rfl, hs1, hb1⟩; obtain ⟨A0, c0, rfl⟩ := Kd.R_slice hs1; have HB1 : Below W.heap.size W w1 := keepD hb1)
      | (go_at_call 50; refine (list_any B cb r _ nr ir (HR.out.below (below_drew (Below.refl _ _)))).mono ?_; rintro e w1 ⟨v1, rfl, hs1, hb1⟩; obtain ⟨A1, c1, rfl⟩ := Kd.R_slice hs1; have HB1 : Below W.heap.size W w1 := keepD hb1))
  all_goals
    go_wp2
    refine bodyPost_ret (results_cell_row rfl _ _ (w.heap.size + 1) 25 #[.slice A0 l.length c0, .slice A1 r.length c1] (0, 0) _ rfl (Id.set2_blk _ _ bR2) Tryz.underlying25 rfl (by kernel_rfl)) rfl ?_
    exact ⟨_, _, rfl, Kd.R_lower (RR.set2s HT.out.1 bR2 _ _) HB.out.size, Kd.R_lower (RR.set2s HT.out.2.1 bR2 _ _) HB.out.size, HT.out.2.2, Id.set2_below (below_then HB.out HB.out.size HB2) (by omega) _ _⟩
end Go.Proofs.YtccenpmaooailaaGreat.Tk
