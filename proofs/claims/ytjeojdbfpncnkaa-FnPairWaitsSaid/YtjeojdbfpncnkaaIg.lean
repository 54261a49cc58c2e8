/- PairSeq, PairAnd: the program's. -/
import Derived.Test.YtjeojdbfpncnkaaIf
set_option linter.unusedVariables false
set_option linter.unusedSimpArgs false
namespace Go.Proofs.Ytjeojdbfpncnkaa.Ig
open Go.RowKit Go.Proofs.YtjeojdbfpncnkaaW.PrintWords Go.Proofs.Ytjeojdbfpncnkaa.Wd Go.Proofs.Ytjeojdbfpncnkaa.Pu Go.Proofs.Ytjeojdbfpncnkaa.Pv Go.Proofs.Ytjeojdbfpncnkaa.Ca Go.Proofs.Ytjeojdbfpncnkaa.Cb Go.Proofs.Ytjeojdbfpncnkaa.Cc Go.Proofs.Ytjeojdbfpncnkaa.Cp Go.Proofs.Ytjeojdbfpncnkaa.Cd Go.Proofs.Ytjeojdbfpncnkaa.Ci Go.Proofs.Ytjeojdbfpncnkaa.Ce Go.Proofs.Ytjeojdbfpncnkaa.Cf Go.Proofs.Ytjeojdbfpncnkaa.Cg Go.Proofs.Ytjeojdbfpncnkaa.Ia Go.Proofs.Ytjeojdbfpncnkaa.Ib Go.Proofs.Ytjeojdbfpncnkaa.Ic Go.Proofs.Ytjeojdbfpncnkaa.Id Go.Proofs.Ytjeojdbfpncnkaa.Ie Go.Proofs.Ytjeojdbfpncnkaa.If

theorem isMode_any (m : Int) (w : World) : Calls Try.prog 83 #[.int .i64 m] w fun e w' => e = .returned (.bool (inb m 0 4)) ∧ w' = w := by
  go_enter Try.func83, Try.ntmps83
  go_wp2_with (go_at_call 37; refine (in_any m 0 4 _).mono ?_; rintro e w' ⟨rfl, rfl⟩)
  go_ret
  exact ⟨rfl, rfl⟩
theorem pairOk_any (A B : Option Addr) (ca cb : Nat) (l r : List Occ) (w : World) (hL : IsL w l A ca) (hR : IsL w r B cb) :
    Calls Try.prog 84 #[.agg #[.slice A l.length ca, .slice B r.length cb]] w fun e w' => e = .returned (.bool (okOs l && okOs r)) ∧ Below w.heap.size w w' := by
  have hb0 := below_alloc (Below.refl w.heap.size w) (.cells #[.slice A l.length ca, .slice B r.length cb] 35)
  have bP := blk_new w (.cells #[.slice A l.length ca, .slice B r.length cb] 35)
  have h1 := occsOk_any A ca l _ (hL.below hb0).rd
  have h2 := fun (w2 : World) (h : Below w.heap.size w w2) => occsOk_any B cb r w2 (hR.below h).rd
  cases h : okOs l with
  | false =>
    rw [h] at h1
    clear h
    go_enter Try.func84, Try.ntmps84
    go_wp2_with (go_at_call 12; refine h1.mono ?_; rintro e w2 ⟨rfl, hb⟩; have HB := Aside0.mk (below_then hb0 hb0.size hb))
    go_ret
    exact ⟨rfl, HB.out⟩
  | true =>
    rw [h] at h1
    clear h
    go_enter Try.func84, Try.ntmps84
    go_wp2_with (first
      | (go_at_call 12; refine (h2 _ HB.out).mono ?_; rintro e w3 ⟨rfl, hb3⟩; have HB3 := Aside0.mk (below_then HB.out HB.out.size hb3))
      | (go_at_call 12; refine h1.mono ?_; rintro e w2 ⟨rfl, hb⟩; have HB := Aside0.mk (below_then hb0 hb0.size hb); have b2 := blk_below bP hb; have q1 := (blk_cell b2 1).trans rfl))
    go_ret
    exact ⟨ret_bool (by simp), HB3.out⟩
def fits (mode : Int) (l r a b : List Occ) : Bool := ((inb mode 0 4 && (okOs l && okOs r)) && okOs a) && okOs b
set_option maxRecDepth 100000 in
theorem pairFits_any (mode : Int) (A B C D : Option Addr) (ca cb cc cd : Nat) (l r a b : List Occ) (w : World) (hL : IsL w l A ca) (hR : IsL w r B cb) (hE : IsL w a C cc) (hI : IsL w b D cd) :
    Calls Try.prog 44 #[.int .i64 mode, .agg #[.slice A l.length ca, .slice B r.length cb], .slice C a.length cc, .slice D b.length cd] w fun e w' => e = .returned (.bool (fits mode l r a b)) ∧ Below w.heap.size w w' := by
  have hb0 := below_alloc (Below.refl w.heap.size w) (.cells #[.slice A l.length ca, .slice B r.length cb] 35)
  have h0 := fun w2 => isMode_any mode w2
  have h1 := pairOk_any A B ca cb l r _ (hL.below hb0) (hR.below hb0)
  have h2 := fun (w2 : World) (h : Below w.heap.size w w2) => occsOk_any C cc a w2 (hE.below h).rd
  have h3 := fun (w2 : World) (h : Below w.heap.size w w2) => occsOk_any D cd b w2 (hI.below h).rd
  unfold fits
  cases q0 : inb mode 0 4 with
  | false =>
    simp only [q0] at h0
    clear q0
    go_enter Try.func44, Try.ntmps44
    go_wp2_with (go_at_call 83; refine (h0 _).mono ?_; rintro e w2 ⟨rfl, rfl⟩)
    go_ret
    exact ⟨rfl, hb0⟩
  | true =>
    simp only [q0] at h0
    clear q0
    cases q1 : (okOs l && okOs r) with
    | false =>
      rw [q1] at h1
      clear q1
      go_enter Try.func44, Try.ntmps44
      go_wp2_with (first
        | (go_at_call 84; refine h1.mono ?_; rintro e w2 ⟨rfl, hb⟩; have HB := Aside0.mk (below_then hb0 hb0.size hb))
        | (go_at_call 83; refine (h0 _).mono ?_; rintro e w2 ⟨rfl, rfl⟩))
      go_ret
      exact ⟨rfl, HB.out⟩
    | true =>
      rw [q1] at h1
      clear q1
      cases q2 : okOs a with
      | false =>
        simp only [q2] at h2
        clear q2
        go_enter Try.func44, Try.ntmps44
        go_wp2_with (first
          | (go_at_call 12; refine (h2 _ HB.out).mono ?_; rintro e w3 ⟨rfl, hb3⟩; have HB3 := Aside0.mk (below_then HB.out HB.out.size hb3))
          | (go_at_call 84; refine h1.mono ?_; rintro e w2 ⟨rfl, hb⟩; have HB := Aside0.mk (below_then hb0 hb0.size hb))
          | (go_at_call 83; refine (h0 _).mono ?_; rintro e w2 ⟨rfl, rfl⟩))
        go_ret
        exact ⟨rfl, HB3.out⟩
      | true =>
        simp only [q2] at h2
        clear q2
        go_enter Try.func44, Try.ntmps44
        go_wp2_with (first
          | (go_at_call 12; refine (h3 _ HB3.out).mono ?_; rintro e w4 ⟨rfl, hb4⟩; have HB4 := Aside0.mk (below_then HB3.out HB3.out.size hb4))
          | (go_at_call 12; refine (h2 _ HB.out).mono ?_; rintro e w3 ⟨rfl, hb3⟩; have HB3 := Aside0.mk (below_then HB.out HB.out.size hb3))
          | (go_at_call 84; refine h1.mono ?_; rintro e w2 ⟨rfl, hb⟩; have HB := Aside0.mk (below_then hb0 hb0.size hb))
          | (go_at_call 83; refine (h0 _).mono ?_; rintro e w2 ⟨rfl, rfl⟩))
        go_ret
        exact ⟨ret_bool (by simp), HB4.out⟩
abbrev SS (w : World) (base : Nat) (ok : Nat → Prop) (v : Value) (l : List Occ) : Prop := Kd.S kO 25 w base ok v l
def ne1 (u : Value) : Nat → Prop := fun k => some k ≠ u.ownBlock
theorem SS.two {w w1 w2 : World} {u v : Value} {l m : List Occ} (h : SS w1 w.heap.size (fun _ => True) u l) (g : SS w2 w1.heap.size (fun _ => True) v m) (hb : Below w1.heap.size w1 w2) (hs : w.heap.size ≤ w1.heap.size) :
    SS w2 w.heap.size (ne1 v) u l ∧ SS w2 w.heap.size (ne1 u) v m :=
  ⟨Kd.S_mono (Kd.S_elder' h (Kd.S_base g) hb) (fun _ hk => hk.2), Kd.S_lower (Kd.S_mono (Kd.S_new' g (Kd.S_lt h)) (fun _ hk => hk.2)) hs⟩
theorem SS.set2 {w : World} {base G : Nat} {ok : Nat → Prop} {v : Value} {xs : List Occ} {t : TypeId} {cs : Array Value} (h : SS w base ok v xs) (b : w.heap[G]? = some (.cells cs t (0, 0))) (ht : ∀ q, q ∈ 25 :: kO.E → q ≠ t) (u0 u1 : Value) : SS (Id.set2 w G u0 u1) base ok v xs :=
  Kd.S_set (Kd.S_set h b ht 0 u0) (blk_set b 0 u0) ht 1 u1
def CloneOut (w w' : World) (l r : List Occ) (e : Ending) : Prop := ∃ v0 v1, e = .returned (.agg #[v0, v1]) ∧ SS w' w.heap.size (ne1 v1) v0 l ∧ SS w' w.heap.size (ne1 v0) v1 r ∧ Below w.heap.size w w'
set_option maxHeartbeats 1000000 in
set_option maxRecDepth 100000 in
theorem pairClone_any (A B : Option Addr) (ca cb : Nat) (l r : List Occ) (w : World) (nl : l.length ≤ 1048576) (nr : r.length ≤ 1048576) (il : ∀ x ∈ l, x.f2.length ≤ 1048576) (ir : ∀ x ∈ r, x.f2.length ≤ 1048576) (hL : IsL w l A ca) (hR : IsL w r B cb) :
    Calls Try.prog 46 #[.agg #[.slice A l.length ca, .slice B r.length cb]] w fun e w' => CloneOut w w' l r e := by
  have hb0 : Below w.heap.size w ((w.alloc (.cells #[.slice A l.length ca, .slice B r.length cb] 35)).alloc (.cells #[.slice none 0 0, .slice none 0 0] 35)) := below_alloc (below_alloc (Below.refl _ _) _) _
  have bP := blk_alloc (blk_new w (.cells #[.slice A l.length ca, .slice B r.length cb] 35)) (.cells #[.slice none 0 0, .slice none 0 0] 35)
  have bR : ((w.alloc (.cells #[.slice A l.length ca, .slice B r.length cb] 35)).alloc (.cells #[.slice none 0 0, .slice none 0 0] 35)).heap[w.heap.size + 1]? = some (.cells #[.slice none 0 0, .slice none 0 0] 35 (0, 0)) := by
    have := blk_new (w.alloc (.cells #[.slice A l.length ca, .slice B r.length cb] 35)) (.cells #[.slice none 0 0, .slice none 0 0] 35)
    simpa using this
  go_enter Try.func46, Try.ntmps46
  go_upto_region 1 with fail
  go_wp2_with fail
  generalize (w.alloc (.cells #[.slice A l.length ca, .slice B r.length cb] 35)).alloc (.cells #[.slice none 0 0, .slice none 0 0] 35) = W at hb0 bP bR ⊢
  have HL := Aside0.mk (hL.below hb0)
  have HR := Aside0.mk (hR.below hb0)
  have HB := Aside0.mk hb0
  have F : ∀ w', Below W.heap.size W w' → w'.cell? ⟨w.heap.size, 0, none⟩ = some (.slice A l.length ca) ∧ w'.cell? ⟨w.heap.size, 1, none⟩ = some (.slice B r.length cb) :=
    fun w' h => ⟨pw_cell_below h ((blk_cell bP 0).trans rfl), pw_cell_below h ((blk_cell bP 1).trans rfl)⟩
  go_region_held3 (fun w' => w'.cell? ⟨w.heap.size, 0, none⟩ = some (.slice A l.length ca) ∧ w'.cell? ⟨w.heap.size, 1, none⟩ = some (.slice B r.length cb))
    (first | (with_reducible exact F _ (Below.refl _ _)) | (with_reducible exact F _ (below_drew (Below.refl _ _))) | (with_reducible exact F _ HB1) | (with_reducible exact F _ HB2) | (with_reducible exact ⟨s0 _ _, s1 _ _⟩))
    (first
      | (go_at_call 41; refine (cloneOccs_any B cb r _ nr ir (HR.out.below HB1)).mono ?_; rintro e w2 ⟨v1, rfl, hs2, hb2⟩; obtain ⟨A1, c1, rfl⟩ := Kd.S_slice hs2; have HT := Aside0.mk (SS.two hs1 hs2 hb2 HB1.size); have HB2 : Below W.heap.size W w2 := below_then HB1 HB1.size hb2; have bR2 := blk_below bR HB2; have r0 := (blk_cell bR2 0).trans rfl; have r1 := (blk_cell bR2 1).trans rfl; have f0 := blk_frozen bR2 0; have f1 := blk_frozen bR2 1; have bP2 := blk_below bP HB2; have s0 : ∀ u0 u1, ((w2.setCell ⟨w.heap.size + 1, 0, none⟩ u0).setCell ⟨w.heap.size + 1, 1, none⟩ u1).cell? ⟨w.heap.size, 0, none⟩ = some (.slice A l.length ca) := fun u0 u1 => (blk_cell (blk_far (blk_far bP2 (p := ⟨w.heap.size + 1, 0, none⟩) (by simp) u0) (p := ⟨w.heap.size + 1, 1, none⟩) (by simp) u1) 0).trans rfl; have s1 : ∀ u0 u1, ((w2.setCell ⟨w.heap.size + 1, 0, none⟩ u0).setCell ⟨w.heap.size + 1, 1, none⟩ u1).cell? ⟨w.heap.size, 1, none⟩ = some (.slice B r.length cb) := fun u0 u1 => (blk_cell (blk_far (blk_far bP2 (p := ⟨w.heap.size + 1, 0, none⟩) (by simp) u0) (p := ⟨w.heap.size + 1, 1, none⟩) (by simp) u1) 1).trans rfl)
      | (go_at_call 41; refine (cloneOccs_any A ca l _ nl il (HL.out.below HB1)).mono ?_; rintro e w2 ⟨v0, rfl, hs2, hb2⟩; obtain ⟨A0, c0, rfl⟩ := Kd.S_slice hs2; have HT := Aside0.mk (SS.two hs1 hs2 hb2 HB1.size).symm; have HB2 : Below W.heap.size W w2 := below_then HB1 HB1.size hb2; have bR2 := blk_below bR HB2; have r0 := (blk_cell bR2 0).trans rfl; have r1 := (blk_cell bR2 1).trans rfl; have f0 := blk_frozen bR2 0; have f1 := blk_frozen bR2 1; have bP2 := blk_below bP HB2; have s0 : ∀ u0 u1, ((w2.setCell ⟨w.heap.size + 1, 0, none⟩ u0).setCell ⟨w.heap.size + 1, 1, none⟩ u1).cell? ⟨w.heap.size, 0, none⟩ = some (.slice A l.length ca) := fun u0 u1 => (blk_cell (blk_far (blk_far bP2 (p := ⟨w.heap.size + 1, 0, none⟩) (by simp) u0) (p := ⟨w.heap.size + 1, 1, none⟩) (by simp) u1) 0).trans rfl; have s1 : ∀ u0 u1, ((w2.setCell ⟨w.heap.size + 1, 0, none⟩ u0).setCell ⟨w.heap.size + 1, 1, none⟩ u1).cell? ⟨w.heap.size, 1, none⟩ = some (.slice B r.length cb) := fun u0 u1 => (blk_cell (blk_far (blk_far bP2 (p := ⟨w.heap.size + 1, 0, none⟩) (by simp) u0) (p := ⟨w.heap.size + 1, 1, none⟩) (by simp) u1) 1).trans rfl)
      | (go_at_call 41; refine (cloneOccs_any A ca l _ nl il (HL.out.below (below_drew (Below.refl _ _)))).mono ?_; rintro e w1 ⟨v0, rfl, hs1, hb1⟩; obtain ⟨A0, c0, rfl⟩ := Kd.S_slice hs1; have HB1 : Below W.heap.size W w1 := keepD hb1)
      | (go_at_call 41; refine (cloneOccs_any B cb r _ nr ir (HR.out.below (below_drew (Below.refl _ _)))).mono ?_; rintro e w1 ⟨v1, rfl, hs1, hb1⟩; obtain ⟨A1, c1, rfl⟩ := Kd.S_slice hs1; have HB1 : Below W.heap.size W w1 := keepD hb1))
  all_goals
    go_wp2
    refine bodyPost_ret (results_cell_row rfl _ _ (w.heap.size + 1) 35 #[.slice A0 l.length c0, .slice A1 r.length c1] (0, 0) _ rfl (set2_blk _ _ bR2) Try.underlying35 rfl (by kernel_rfl)) rfl ?_
    exact ⟨_, _, rfl, Kd.S_lower (SS.set2 HT.out.1 bR2 (by decide) _ _) HB.out.size, Kd.S_lower (SS.set2 HT.out.2 bR2 (by decide) _ _) HB.out.size, set2_below (below_then HB.out HB.out.size HB2) (by omega) _ _⟩
end Go.Proofs.Ytjeojdbfpncnkaa.Ig
