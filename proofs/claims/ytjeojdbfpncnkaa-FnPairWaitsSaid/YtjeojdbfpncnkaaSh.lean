/- The reference's copies of occurrences. -/
import Derived.Test.YtjeojdbfpncnkaaSg
set_option linter.unusedVariables false
set_option linter.unusedSimpArgs false
namespace Go.Proofs.Ytjeojdbfpncnkaa.Sh
open Go.RowKit Go.Proofs.YtjeojdbfpncnkaaW.PrintWords Go.Proofs.Ytjeojdbfpncnkaa.Wd Go.Proofs.Ytjeojdbfpncnkaa.Pu Go.Proofs.Ytjeojdbfpncnkaa.Ca Go.Proofs.Ytjeojdbfpncnkaa.Cb Go.Proofs.Ytjeojdbfpncnkaa.Cg Go.Proofs.Ytjeojdbfpncnkaa.Cf Go.Proofs.Ytjeojdbfpncnkaa.Sd Go.Proofs.Ytjeojdbfpncnkaa.Se Go.Proofs.Ytjeojdbfpncnkaa.Sf

/-- an empty row, as it is laid -/
theorem R_empty {α : Type} (d : Kd α) {e : Nat} {w : World} {base : Nat} {g : Nat} (hg : w.heap[g]? = some (.cells #[] e (0, 0))) (hb : base ≤ g) : d.R e w base (fun _ => True) (.slice (some ⟨g, 0, none⟩) 0 0) [] :=
  ⟨fun _ _ => trivial, [], ⟨by simp, .inr ⟨g, 0, #[], rfl, hb, hg, Nat.le_refl _, by decide, by simp, by simp⟩⟩, Reps.none _ _⟩

theorem boxes2 (w : World) (cs0 cs1 : Array Value) (t0 t1 : TypeId) :
    Below w.heap.size w ((w.alloc (.cells cs0 t0)).alloc (.cells cs1 t1)) ∧ ((w.alloc (.cells cs0 t0)).alloc (.cells cs1 t1)).heap[w.heap.size]? = some (.cells cs0 t0 (0, 0)) ∧
    ((w.alloc (.cells cs0 t0)).alloc (.cells cs1 t1)).heap[w.heap.size + 1]? = some (.cells cs1 t1 (0, 0)) := by
  refine ⟨by repeat (first | exact Below.refl _ _ | apply below_alloc), blk_alloc (blk_new _ _) _, ?_⟩
  have := blk_new (w.alloc (.cells cs0 t0)) (.cells cs1 t1)
  simpa using this

set_option maxHeartbeats 2000000 in
set_option maxRecDepth 100000 in
theorem sCopy_any (A : Option Addr) (c : Nat) (o : Occ) (w : World) (ho : IsO w o A c) (hl : o.f2.length ≤ 1048576) :
    Calls Try.prog 54 #[.agg #[.int .i64 o.f0, .int .i64 o.f1, .slice A o.f2.length c]] w fun e w' =>
      ∃ v, e = .returned (.agg #[.int .i64 o.f0, .int .i64 o.f1, v]) ∧ (Kd.int .i64).R 3 w' w.heap.size (fun _ => True) v o.f2 ∧ Below w.heap.size w w' := by
  obtain ⟨hb1, b1, b2⟩ := boxes2 w #[.int .i64 o.f0, .int .i64 o.f1, .slice A o.f2.length c] #[.int .i64 0, .int .i64 0, .slice none 0 0] 25 25
  have hr := Kd.C_below ho.2 hb1
  have hsz : ((w.alloc (.cells #[.int .i64 o.f0, .int .i64 o.f1, .slice A o.f2.length c] 25)).alloc (.cells #[.int .i64 0, .int .i64 0, .slice none 0 0] 25)).heap.size = w.heap.size + 1 + 1 := by simp
  go_enter Try.func54, Try.ntmps54
  go_wp2
  generalize (w.alloc (.cells #[.int .i64 o.f0, .int .i64 o.f1, .slice A o.f2.length c] 25)).alloc (.cells #[.int .i64 0, .int .i64 0, .slice none 0 0] 25) = W at hb1 b1 b2 hr hsz ⊢
  have F : ∀ w', Below W.heap.size W w' → w'.cell? ⟨w.heap.size, 0, none⟩ = some (.int .i64 o.f0) ∧ w'.cell? ⟨w.heap.size, 1, none⟩ = some (.int .i64 o.f1) ∧ w'.cell? ⟨w.heap.size, 2, none⟩ = some (.slice A o.f2.length c) :=
    fun w' h => ⟨pw_cell_below h ((blk_cell b1 0).trans rfl), pw_cell_below h ((blk_cell b1 1).trans rfl), pw_cell_below h ((blk_cell b1 2).trans rfl)⟩
  have hne : w.heap.size ≠ w.heap.size + 1 := by omega
  clear hsz
  go_region_held3 (fun w' => w'.cell? ⟨w.heap.size, 0, none⟩ = some (.int .i64 o.f0) ∧ w'.cell? ⟨w.heap.size, 1, none⟩ = some (.int .i64 o.f1) ∧ w'.cell? ⟨w.heap.size, 2, none⟩ = some (.slice A o.f2.length c))
    (first | (with_reducible exact F _ (Below.refl _ _)) | (with_reducible exact F _ (below_drew (Below.refl _ _))) | (with_reducible exact F _ (below_alloc (below_drew (Below.refl _ _)) _)) | (with_reducible exact F _ (below_alloc (Below.refl _ _) _)) | (with_reducible exact F _ (below_drew (below_alloc (Below.refl _ _) _))) | (with_reducible exact F _ HB2.out) | (with_reducible exact ⟨(Cc.far3 hne).trans e0, (Cc.far3 hne).trans e1, (Cc.far3 hne).trans e2⟩))
    (first | (refine Kd.R_append_rows_step (Kd.int .i64) (w0 := W) W.heap.size (by rfl) _ _ 23 3 (.int .i64 0) 8 rfl Try.underlying23 Cc.infoI rfl (by decide) (by decide) (.slice (some ⟨W.heap.size, 0, none⟩) 0 0) [] _ _ _ _ (fun _ => True) (fun _ => False) rfl rfl (R_empty (Kd.int .i64) (by first | exact blk_new _ _ | exact blk_drew (blk_new _ _)) (Nat.le_refl _)) (Kd.C_below hr (by first | exact below_alloc (below_drew (Below.refl _ _)) _ | exact below_alloc (Below.refl _ _) _ | exact below_drew (below_alloc (Below.refl _ _) _))) (fun _ _ h => h) (fun _ h => h.elim) (fun _ _ => trivial) (by first | exact below_alloc (below_drew (Below.refl _ _)) _ | exact below_alloc (Below.refl _ _) _ | exact below_drew (below_alloc (Below.refl _ _) _)) (by simp) (by simp; omega) ?_; intro v2 w2 ho2 hb2 _ _; obtain ⟨A2, c2, rfl⟩ := Kd.R_slice ho2; have HB2 := Aside0.mk hb2; have HO2 := Aside0.mk ho2; obtain ⟨e0, e1, e2⟩ := F w2 hb2; have d2 := blk_below b2 hb2; have q0 := (blk_cell d2 0).trans rfl; have q1 := (blk_cell d2 1).trans rfl; have q2 := (blk_cell d2 2).trans rfl; have g0 := blk_frozen d2 0; have g1 := blk_frozen d2 1; have g2 := blk_frozen d2 2; clear ho2 hb2))
  all_goals
    go_wp2
    have r2 := HO2.out
    simp only [List.nil_append] at r2
    refine bodyPost_ret (results_cell_row rfl _ _ (w.heap.size + 1) 25 #[.int .i64 o.f0, .int .i64 o.f1, .slice A2 o.f2.length c2] (0, 0) _ rfl (set3_blk _ _ _ d2) Try.underlying25 rfl (by kernel_rfl)) rfl ?_
    exact ⟨_, rfl, set3_R (Kd.R_lower r2 hb1.size) d2 (by decide) _ _ _, set3_below (below_then hb1 hb1.size HB2.out) (by omega) _ _ _⟩
end Go.Proofs.Ytjeojdbfpncnkaa.Sh
