
/- PairSeq, PairAnd, SpanNot, SpanEach of the program: three rows of one's own, apart. -/
import Derived.Test.YtccenpmaooailaaNB7
import Derived.Test.YtccenpmaooailaaNB6
import Derived.Test.YtccenpmaooailaaNTe
set_option linter.unusedVariables false
set_option linter.unusedSimpArgs false
namespace Go.Proofs.Ytccenpmaooailaa.Eg
open Go.RowKit Go.Proofs.YtccenpmaooailaaW.PrintWords Go.Proofs.Ytccenpmaooailaa.Wd Go.Proofs.Ytccenpmaooailaa.Pu Go.Proofs.Ytccenpmaooailaa.Pv Go.Proofs.Ytccenpmaooailaa.Ca Go.Proofs.Ytccenpmaooailaa.Cb Go.Proofs.Ytccenpmaooailaa.Cc Go.Proofs.Ytccenpmaooailaa.Cp Go.Proofs.Ytccenpmaooailaa.Cd Go.Proofs.Ytccenpmaooailaa.Ci Go.Proofs.Ytccenpmaooailaa.Ce Go.Proofs.Ytccenpmaooailaa.Cf Go.Proofs.Ytccenpmaooailaa.Cg Go.Proofs.Ytccenpmaooailaa.Sc Go.Proofs.Ytccenpmaooailaa.Se Go.Proofs.Ytccenpmaooailaa.Sh Go.Proofs.Ytccenpmaooailaa.Si Go.Proofs.Ytccenpmaooailaa.Sp Go.Proofs.Ytccenpmaooailaa.Ia Go.Proofs.Ytccenpmaooailaa.Ib Go.Proofs.Ytccenpmaooailaa.Ic Go.Proofs.Ytccenpmaooailaa.Id Go.Proofs.Ytccenpmaooailaa.Ie Go.Proofs.Ytccenpmaooailaa.If Go.Proofs.Ytccenpmaooailaa.Ig Go.Proofs.Ytccenpmaooailaa.Ih Go.Proofs.Ytccenpmaooailaa.Ij Go.Proofs.Ytccenpmaooailaa.Ik Go.Proofs.Ytccenpmaooailaa.Ra Go.Proofs.Ytccenpmaooailaa.Rb Go.Proofs.Ytccenpmaooailaa.Rc Go.Proofs.Ytccenpmaooailaa.Rd Go.Proofs.Ytccenpmaooailaa.Re Go.Proofs.Ytccenpmaooailaa.Sj Go.Proofs.Ytccenpmaooailaa.Ya Go.Proofs.Ytccenpmaooailaa.Yd Go.Proofs.Ytccenpmaooailaa.Yf Go.Proofs.Ytccenpmaooailaa.Yg Go.Proofs.Ytccenpmaooailaa.Ih Go.Proofs.Ytccenpmaooailaa.Yh Go.Proofs.Ytccenpmaooailaa.Yi Go.Proofs.Ytccenpmaooailaa.Sg Go.Proofs.Ytccenpmaooailaa.Sf Go.Proofs.Ytccenpmaooailaa.Yj Go.Proofs.Ytccenpmaooailaa.Ig Go.Proofs.Ytccenpmaooailaa.Yk Go.Proofs.Ytccenpmaooailaa.Ik Go.Proofs.Ytccenpmaooailaa.Yl Go.Proofs.Ytccenpmaooailaa.Ij Go.Proofs.Ytccenpmaooailaa.Ym Go.Proofs.Ytccenpmaooailaa.Il Go.Proofs.Ytccenpmaooailaa.Yn Go.Proofs.Ytccenpmaooailaa.Yo Go.Proofs.Ytccenpmaooailaa.In Go.Proofs.Ytccenpmaooailaa.Yq Go.Proofs.Ytccenpmaooailaa.Pw Go.Proofs.Ytccenpmaooailaa.Px Go.Proofs.Ytccenpmaooailaa.La Go.Proofs.Ytccenpmaooailaa.Db Go.Proofs.Ytccenpmaooailaa.Ta Go.Proofs.Ytccenpmaooailaa.Tb Go.Proofs.Ytccenpmaooailaa.Tc Go.Proofs.Ytccenpmaooailaa.Td Go.Proofs.Ytccenpmaooailaa.Te Go.Proofs.Ytccenpmaooailaa.Sh

/-- no block in both -/
def ApP (P Q : Nat → Prop) : Prop := ∀ k, P k → ¬ Q k
def Two (w : World) (B : Nat) (u : Value) (l : List Occ) (v : Value) (m : List Occ) : Prop := ∃ P Q, SS w B P u l ∧ SS w B Q v m ∧ ApP P Q
theorem Two.symm {w : World} {B : Nat} {u v : Value} {l m : List Occ} (h : Two w B u l v m) : Two w B v m u l := by
  obtain ⟨P, Q, h0, h1, h⟩ := h
  exact ⟨Q, P, h1, h0, fun k hk hp => h k hp hk⟩
theorem SS.two2 {w w1 w2 : World} {u v : Value} {l m : List Occ} (h : SS w1 w.heap.size (fun _ => True) u l) (g : SS w2 w1.heap.size (fun _ => True) v m) (hb : Below w1.heap.size w1 w2) (hs : w.heap.size ≤ w1.heap.size) : Two w2 w.heap.size u l v m :=
  ⟨fun k => k < w1.heap.size, fun k => w1.heap.size ≤ k, Kd.S_below (Kd.S_mono (Kd.S_bound h) (fun k hk => hk.2.2.1)) hb, Kd.S_lower (Kd.S_mono (Kd.S_bound g) (fun k hk => hk.2.1)) hs, fun k h1 h2 => by omega⟩
def CloneOut2 (w w' : World) (l r : List Occ) (e : Ending) : Prop := ∃ v0 v1 P Q, e = .returned (.agg #[v0, v1]) ∧ SS w' w.heap.size P v0 l ∧ SS w' w.heap.size Q v1 r ∧ ApP P Q ∧ Below w.heap.size w w'
def Three (w : World) (B : Nat) (v0 v1 v2 : Value) (p : P3) : Prop := ∃ P0 P1 P2, SS w B P0 v0 p.a ∧ SS w B P1 v1 p.b ∧ SS w B P2 v2 p.c ∧ ApP P0 P1 ∧ ApP P0 P2 ∧ ApP P1 P2
theorem SS.three2 {w1 w2 : World} {v0 v1 v2 : Value} {p : P3} {B : Nat} (h : Two w1 B v0 p.a v1 p.b) (h2 : SS w2 w1.heap.size (fun _ => True) v2 p.c) (hb : Below w1.heap.size w1 w2) (hB : B ≤ w1.heap.size) : Three w2 B v0 v1 v2 p := by
  obtain ⟨P, Q, h0, h1, hap⟩ := h
  exact ⟨fun k => P k ∧ k < w1.heap.size, fun k => Q k ∧ k < w1.heap.size, fun k => w1.heap.size ≤ k, Kd.S_below (Kd.S_mono (Kd.S_bound h0) (fun k hk => ⟨hk.1, hk.2.2.1⟩)) hb, Kd.S_below (Kd.S_mono (Kd.S_bound h1) (fun k hk => ⟨hk.1, hk.2.2.1⟩)) hb, Kd.S_lower (Kd.S_mono (Kd.S_bound h2) (fun k hk => hk.2.1)) hB, fun k a b => hap k a.1 b.1, fun k a b => by omega, fun k a b => by omega⟩
def Out3S (w w' : World) (p : P3) (e : Ending) : Prop := ∃ v0 v1 v2, e = .returned (.tuple #[.agg #[v0, v1], v2]) ∧ Three w' w.heap.size v0 v1 v2 p ∧ Below w.heap.size w w'
theorem Three.nil (w : World) (B : Nat) : Three w B (.slice none 0 0) (.slice none 0 0) (.slice none 0 0) ⟨[], [], []⟩ :=
  ⟨fun _ => False, fun _ => False, fun _ => False, Kd.S_nil _ _ _ _ _, Kd.S_nil _ _ _ _ _, Kd.S_nil _ _ _ _ _, fun _ h => h.elim, fun _ h => h.elim, fun _ h => h.elim⟩
theorem Three.set2 {w : World} {B B' G : Nat} {v0 v1 v2 : Value} {p : P3} {t : TypeId} {cs : Array Value} (h : Three w B v0 v1 v2 p) (b : w.heap[G]? = some (.cells cs t (0, 0))) (ht : ∀ q, q ∈ 66 :: kO.E → q ≠ t) (hB : B' ≤ B) (u0 u1 : Value) : Three (Id.set2 w G u0 u1) B' v0 v1 v2 p := by
  obtain ⟨P0, P1, P2, h0, h1, h2, a, b', c⟩ := h
  exact ⟨P0, P1, P2, Kd.S_lower (SS.set2 h0 b ht u0 u1) hB, Kd.S_lower (SS.set2 h1 b ht u0 u1) hB, Kd.S_lower (SS.set2 h2 b ht u0 u1) hB, a, b', c⟩
set_option maxHeartbeats 1000000 in
set_option maxRecDepth 100000 in
theorem pairClone_any2 (A B : Option Addr) (ca cb : Nat) (l r : List Occ) (w : World) (nl : l.length ≤ 1048576) (nr : r.length ≤ 1048576) (il : ∀ x ∈ l, x.f2.length ≤ 1048576) (ir : ∀ x ∈ r, x.f2.length ≤ 1048576) (hL : IsL w l A ca) (hR : IsL w r B cb) :
    Calls Try.prog 49 #[.agg #[.slice A l.length ca, .slice B r.length cb]] w fun e w' => CloneOut2 w w' l r e := by
  have hb0 : Below w.heap.size w ((w.alloc (.cells #[.slice A l.length ca, .slice B r.length cb] 29)).alloc (.cells #[.slice none 0 0, .slice none 0 0] 29)) := below_alloc (below_alloc (Below.refl _ _) _) _
  have bP := blk_alloc (blk_new w (.cells #[.slice A l.length ca, .slice B r.length cb] 29)) (.cells #[.slice none 0 0, .slice none 0 0] 29)
  have bR : ((w.alloc (.cells #[.slice A l.length ca, .slice B r.length cb] 29)).alloc (.cells #[.slice none 0 0, .slice none 0 0] 29)).heap[w.heap.size + 1]? = some (.cells #[.slice none 0 0, .slice none 0 0] 29 (0, 0)) := by
    have := blk_new (w.alloc (.cells #[.slice A l.length ca, .slice B r.length cb] 29)) (.cells #[.slice none 0 0, .slice none 0 0] 29)
    simpa using this
  go_enter Try.func49, Try.ntmps49
  go_upto_region 1 with fail
  go_wp2_with fail
  generalize (w.alloc (.cells #[.slice A l.length ca, .slice B r.length cb] 29)).alloc (.cells #[.slice none 0 0, .slice none 0 0] 29) = W at hb0 bP bR ⊢
  have HL := Aside0.mk (hL.below hb0)
  have HR := Aside0.mk (hR.below hb0)
  have HB := Aside0.mk hb0
  have F : ∀ w', Below W.heap.size W w' → w'.cell? ⟨w.heap.size, 0, none⟩ = some (.slice A l.length ca) ∧ w'.cell? ⟨w.heap.size, 1, none⟩ = some (.slice B r.length cb) :=
    fun w' h => ⟨pw_cell_below h ((blk_cell bP 0).trans rfl), pw_cell_below h ((blk_cell bP 1).trans rfl)⟩
  go_region_held3 (fun w' => w'.cell? ⟨w.heap.size, 0, none⟩ = some (.slice A l.length ca) ∧ w'.cell? ⟨w.heap.size, 1, none⟩ = some (.slice B r.length cb))
    (first | (with_reducible exact F _ (Below.refl _ _)) | (with_reducible exact F _ (below_drew (Below.refl _ _))) | (with_reducible exact F _ HB1) | (with_reducible exact F _ HB2) | (with_reducible exact ⟨s0 _ _, s1 _ _⟩))
    (first
      | (go_at_call 50; refine (cloneOccs_any B cb r _ nr ir (HR.out.below HB1)).mono ?_; rintro e w2 ⟨v1, rfl, hs2, hb2⟩; obtain ⟨A1, c1, rfl⟩ := Kd.S_slice hs2; have HT := Aside0.mk (SS.two2 hs1 hs2 hb2 HB1.size); have HB2 : Below W.heap.size W w2 := below_then HB1 HB1.size hb2; have bR2 := blk_below bR HB2; have r0 := (blk_cell bR2 0).trans rfl; have r1 := (blk_cell bR2 1).trans rfl; have f0 := blk_frozen bR2 0; have f1 := blk_frozen bR2 1; have bP2 := blk_below bP HB2; have s0 : ∀ u0 u1, ((w2.setCell ⟨w.heap.size + 1, 0, none⟩ u0).setCell ⟨w.heap.size + 1, 1, none⟩ u1).cell? ⟨w.heap.size, 0, none⟩ = some (.slice A l.length ca) := fun u0 u1 => (blk_cell (blk_far (blk_far bP2 (p := ⟨w.heap.size + 1, 0, none⟩) (by simp) u0) (p := ⟨w.heap.size + 1, 1, none⟩) (by simp) u1) 0).trans rfl; have s1 : ∀ u0 u1, ((w2.setCell ⟨w.heap.size + 1, 0, none⟩ u0).setCell ⟨w.heap.size + 1, 1, none⟩ u1).cell? ⟨w.heap.size, 1, none⟩ = some (.slice B r.length cb) := fun u0 u1 => (blk_cell (blk_far (blk_far bP2 (p := ⟨w.heap.size + 1, 0, none⟩) (by simp) u0) (p := ⟨w.heap.size + 1, 1, none⟩) (by simp) u1) 1).trans rfl)
      | (go_at_call 50; refine (cloneOccs_any A ca l _ nl il (HL.out.below HB1)).mono ?_; rintro e w2 ⟨v0, rfl, hs2, hb2⟩; obtain ⟨A0, c0, rfl⟩ := Kd.S_slice hs2; have HT := Aside0.mk (SS.two2 hs1 hs2 hb2 HB1.size).symm; have HB2 : Below W.heap.size W w2 := below_then HB1 HB1.size hb2; have bR2 := blk_below bR HB2; have r0 := (blk_cell bR2 0).trans rfl; have r1 := (blk_cell bR2 1).trans rfl; have f0 := blk_frozen bR2 0; have f1 := blk_frozen bR2 1; have bP2 := blk_below bP HB2; have s0 : ∀ u0 u1, ((w2.setCell ⟨w.heap.size + 1, 0, none⟩ u0).setCell ⟨w.heap.size + 1, 1, none⟩ u1).cell? ⟨w.heap.size, 0, none⟩ = some (.slice A l.length ca) := fun u0 u1 => (blk_cell (blk_far (blk_far bP2 (p := ⟨w.heap.size + 1, 0, none⟩) (by simp) u0) (p := ⟨w.heap.size + 1, 1, none⟩) (by simp) u1) 0).trans rfl; have s1 : ∀ u0 u1, ((w2.setCell ⟨w.heap.size + 1, 0, none⟩ u0).setCell ⟨w.heap.size + 1, 1, none⟩ u1).cell? ⟨w.heap.size, 1, none⟩ = some (.slice B r.length cb) := fun u0 u1 => (blk_cell (blk_far (blk_far bP2 (p := ⟨w.heap.size + 1, 0, none⟩) (by simp) u0) (p := ⟨w.heap.size + 1, 1, none⟩) (by simp) u1) 1).trans rfl)
      | (go_at_call 50; refine (cloneOccs_any A ca l _ nl il (HL.out.below (below_drew (Below.refl _ _)))).mono ?_; rintro e w1 ⟨v0, rfl, hs1, hb1⟩; obtain ⟨A0, c0, rfl⟩ := Kd.S_slice hs1; have HB1 : Below W.heap.size W w1 := keepD hb1)
      | (go_at_call 50; refine (cloneOccs_any B cb r _ nr ir (HR.out.below (below_drew (Below.refl _ _)))).mono ?_; rintro e w1 ⟨v1, rfl, hs1, hb1⟩; obtain ⟨A1, c1, rfl⟩ := Kd.S_slice hs1; have HB1 : Below W.heap.size W w1 := keepD hb1))
  all_goals
    go_wp2
    refine bodyPost_ret (results_cell_row rfl _ _ (w.heap.size + 1) 29 #[.slice A0 l.length c0, .slice A1 r.length c1] (0, 0) _ rfl (Id.set2_blk _ _ bR2) Try.underlying29 rfl (by kernel_rfl)) rfl ?_
    obtain ⟨P, Q, h0, h1, hap⟩ := HT.out
    exact ⟨_, _, P, Q, rfl, Kd.S_lower (SS.set2 h0 bR2 (by decide) _ _) HB.out.size, Kd.S_lower (SS.set2 h1 bR2 (by decide) _ _) HB.out.size, hap, Id.set2_below (below_then HB.out HB.out.size HB2) (by omega) _ _⟩
set_option maxHeartbeats 2000000 in
set_option maxRecDepth 100000 in
theorem pairAnd_any2 (mode : Int) (A B C D : Option Addr) (ca cb cc cd : Nat) (l r a b : List Occ) (w : World) (hL : IsL w l A ca) (hR : IsL w r B cb) (hE : IsL w a C cc) (hI : IsL w b D cd) :
    Calls Try.prog 23 #[.int .i64 mode, .agg #[.slice A l.length ca, .slice B r.length cb], .slice C a.length cc, .slice D b.length cd] w fun e w' => Out3S w w' (if fits mode l r a b then and3 mode l r a b else ⟨[], [], []⟩) e := by
  have hb0 : Below w.heap.size w ((w.alloc (.cells #[.slice A l.length ca, .slice B r.length cb] 29)).alloc (.cells #[.slice none 0 0, .slice none 0 0] 29)) := below_alloc (below_alloc (Below.refl _ _) _) _
  have bP := blk_alloc (blk_new w (.cells #[.slice A l.length ca, .slice B r.length cb] 29)) (.cells #[.slice none 0 0, .slice none 0 0] 29)
  have bR : ((w.alloc (.cells #[.slice A l.length ca, .slice B r.length cb] 29)).alloc (.cells #[.slice none 0 0, .slice none 0 0] 29)).heap[w.heap.size + 1]? = some (.cells #[.slice none 0 0, .slice none 0 0] 29 (0, 0)) := by
    have := blk_new (w.alloc (.cells #[.slice A l.length ca, .slice B r.length cb] 29)) (.cells #[.slice none 0 0, .slice none 0 0] 29)
    simpa using this
  have hf := pairFits_any mode A B C D ca cb cc cd l r a b _ (hL.below hb0) (hR.below hb0) (hE.below hb0) (hI.below hb0)
  have HB0 := Aside0.mk hb0
  cases hq : fits mode l r a b with
  | false =>
    rw [hq] at hf
    clear hq
    go_enter Try.func23, Try.ntmps23
    go_wp2_with (go_at_call 47; refine hf.mono ?_; rintro e w2 ⟨rfl, hb2⟩; have bR2 := blk_below bR hb2; have r0 := (blk_cell bR2 0).trans rfl; have r1 := (blk_cell bR2 1).trans rfl; have f0 := blk_frozen bR2 0; have f1 := blk_frozen bR2 1; have HB2 := Aside0.mk (below_then HB0.out HB0.out.size hb2); clear hb2)
    refine bodyPost_ret (results_ct rfl _ _ (w.heap.size + 1) 29 #[.slice none 0 0, .slice none 0 0] (0, 0) _ rfl (Id.set2_blk _ _ bR2) Try.underlying29 rfl (by kernel_rfl)) rfl ?_
    exact ⟨_, _, _, rfl, Three.nil _ _, Id.set2_below HB2.out (by omega) _ _⟩
  | true =>
    rw [hq] at hf
    obtain ⟨hm, ⟨hl, nl⟩, ⟨hr, nr⟩, ⟨ha, na⟩, ⟨hb, nb⟩⟩ := fits_iff.1 hq
    clear hq
    have HK := Aside0.mk (and3_ok hm hl hr ha hb (by omega) (by omega))
    have hcall := fun (w2 : World) (h : Below w.heap.size w w2) => and_any mode hm A B C D ca cb cc cd l r a b w2 hl hr ha.all hb.all (by omega) (by omega) (hL.below h) (hR.below h) (hE.below h) (hI.below h)
    have HCALL := Aside0.mk hcall
    clear hcall hl hr ha hb
    go_enter Try.func23, Try.ntmps23
    go_wp2_with (first
      | (go_at_call 50; refine (cloneOccs_any Ao co (and3 mode l r a b).c _ HK.out.lc (fun x hx => isOk_big (HK.out.c.all x hx)) (HLo.out.below HB4.out)).mono ?_; rintro e w5 ⟨v2, rfl, hs5, hb5⟩; obtain ⟨A2, c2, rfl⟩ := Kd.S_slice hs5; have bR5 := blk_below bR4 hb5; have r0 := (blk_cell bR5 0).trans rfl; have r1 := (blk_cell bR5 1).trans rfl; have f0 := blk_frozen bR5 0; have f1 := blk_frozen bR5 1; have HT := Aside0.mk (SS.three2 HT4.out hs5 hb5 HB4.out.size); have HB5 := Aside0.mk (below_then HB4.out HB4.out.size hb5); clear hs5 hb5)
      | (go_at_call 49; refine (pairClone_any2 Al Ar cl cr (and3 mode l r a b).a (and3 mode l r a b).b _ HK.out.la HK.out.lb (fun x hx => isOk_big (HK.out.a.all x hx)) (fun x hx => isOk_big (HK.out.b.all x hx)) (HLl.out.below (below_alloc (Below.refl _ _) _)) (HLr.out.below (below_alloc (Below.refl _ _) _))).mono ?_; rintro e w4 ⟨v0, v1, P, Q, rfl, hs0, hs1, hap, hb4⟩; obtain ⟨A0, c0, rfl⟩ := Kd.S_slice hs0; obtain ⟨A1, c1, rfl⟩ := Kd.S_slice hs1; have bR4 := blk_below (blk_alloc bR3 _) hb4; have hB4 : Below w3.heap.size w3 w4 := below_then (below_alloc (Below.refl _ _) _) (by simp) hb4; have HB4 := Aside0.mk hB4; have HT4 := Aside0.mk (show Two w4 w3.heap.size _ _ _ _ from ⟨P, Q, Kd.S_lower (base' := w3.heap.size) hs0 (by simp), Kd.S_lower (base' := w3.heap.size) hs1 (by simp), hap⟩); clear hs0 hs1 hb4 hB4)
      | (go_at_call 55; refine (HCALL.out _ HB2.out).mono ?_; rintro e w3 ⟨Al, cl, Ar, cr, Ao, co, rfl, hl3, hr3, ho3, hb3⟩; have bR3 := blk_below bR2 hb3; have hB3 := blk_lt bR3; have HLl := Aside0.mk (show IsL w3 (and3 mode l r a b).a Al cl from hl3); have HLr := Aside0.mk (show IsL w3 (and3 mode l r a b).b Ar cr from hr3); have HLo := Aside0.mk (show IsL w3 (and3 mode l r a b).c Ao co from ho3); have HB3 := Aside0.mk (below_then HB2.out HB2.out.size hb3); clear hl3 hr3 ho3 hb3)
      | (go_at_call 47; refine hf.mono ?_; rintro e w2 ⟨rfl, hb2⟩; have bP2 := blk_below bP hb2; have p0 := (blk_cell bP2 0).trans rfl; have p1 := (blk_cell bP2 1).trans rfl; have bR2 := blk_below bR hb2; have HB2 := Aside0.mk (below_then HB0.out HB0.out.size hb2); clear hb2))
    refine bodyPost_ret (results_ct rfl _ _ (w.heap.size + 1) 29 #[.slice A0 (and3 mode l r a b).a.length c0, .slice A1 (and3 mode l r a b).b.length c1] (0, 0) _ rfl (Id.set2_blk _ _ bR5) Try.underlying29 rfl (by kernel_rfl)) rfl ?_
    have hle : w.heap.size ≤ w3.heap.size := HB3.out.size
    exact ⟨_, _, _, rfl, HT.out.set2 bR5 (by decide) hle _ _, Id.set2_below (below_then HB3.out hle HB5.out) (by omega) _ _⟩
set_option maxHeartbeats 2000000 in
set_option maxRecDepth 100000 in
theorem pairSeq_any2 (mode : Int) (A B C D : Option Addr) (ca cb cc cd : Nat) (l r a b : List Occ) (w : World) (hL : IsL w l A ca) (hR : IsL w r B cb) (hE : IsL w a C cc) (hI : IsL w b D cd) :
    Calls Try.prog 15 #[.int .i64 mode, .agg #[.slice A l.length ca, .slice B r.length cb], .slice C a.length cc, .slice D b.length cd] w fun e w' => Out3S w w' (if fits mode l r a b then seq3 mode l r a b else ⟨[], [], []⟩) e := by
  have hb0 : Below w.heap.size w ((w.alloc (.cells #[.slice A l.length ca, .slice B r.length cb] 29)).alloc (.cells #[.slice none 0 0, .slice none 0 0] 29)) := below_alloc (below_alloc (Below.refl _ _) _) _
  have bP := blk_alloc (blk_new w (.cells #[.slice A l.length ca, .slice B r.length cb] 29)) (.cells #[.slice none 0 0, .slice none 0 0] 29)
  have bR : ((w.alloc (.cells #[.slice A l.length ca, .slice B r.length cb] 29)).alloc (.cells #[.slice none 0 0, .slice none 0 0] 29)).heap[w.heap.size + 1]? = some (.cells #[.slice none 0 0, .slice none 0 0] 29 (0, 0)) := by
    have := blk_new (w.alloc (.cells #[.slice A l.length ca, .slice B r.length cb] 29)) (.cells #[.slice none 0 0, .slice none 0 0] 29)
    simpa using this
  have hf := pairFits_any mode A B C D ca cb cc cd l r a b _ (hL.below hb0) (hR.below hb0) (hE.below hb0) (hI.below hb0)
  have HB0 := Aside0.mk hb0
  cases hq : fits mode l r a b with
  | false =>
    rw [hq] at hf
    clear hq
    go_enter Try.func15, Try.ntmps15
    go_wp2_with (go_at_call 47; refine hf.mono ?_; rintro e w2 ⟨rfl, hb2⟩; have bR2 := blk_below bR hb2; have r0 := (blk_cell bR2 0).trans rfl; have r1 := (blk_cell bR2 1).trans rfl; have f0 := blk_frozen bR2 0; have f1 := blk_frozen bR2 1; have HB2 := Aside0.mk (below_then HB0.out HB0.out.size hb2); clear hb2)
    refine bodyPost_ret (results_ct rfl _ _ (w.heap.size + 1) 29 #[.slice none 0 0, .slice none 0 0] (0, 0) _ rfl (Id.set2_blk _ _ bR2) Try.underlying29 rfl (by kernel_rfl)) rfl ?_
    exact ⟨_, _, _, rfl, Three.nil _ _, Id.set2_below HB2.out (by omega) _ _⟩
  | true =>
    rw [hq] at hf
    obtain ⟨hm, ⟨hl, nl⟩, ⟨hr, nr⟩, ⟨ha, na⟩, ⟨hb, nb⟩⟩ := fits_iff.1 hq
    clear hq
    have HK := Aside0.mk (seq3_ok hm hl hr ha hb (by omega) (by omega))
    have hcall := fun (w2 : World) (h : Below w.heap.size w w2) => seq_any mode hm A B C D ca cb cc cd l r a b w2 hl ha.all hb.all (by omega) (by omega) (hL.below h) (hR.below h) (hE.below h) (hI.below h)
    have HCALL := Aside0.mk hcall
    clear hcall hl hr ha hb
    go_enter Try.func15, Try.ntmps15
    go_wp2_with (first
      | (go_at_call 50; refine (cloneOccs_any Ao co (seq3 mode l r a b).c _ HK.out.lc (fun x hx => isOk_big (HK.out.c.all x hx)) (HLo.out.below HB4.out)).mono ?_; rintro e w5 ⟨v2, rfl, hs5, hb5⟩; obtain ⟨A2, c2, rfl⟩ := Kd.S_slice hs5; have bR5 := blk_below bR4 hb5; have r0 := (blk_cell bR5 0).trans rfl; have r1 := (blk_cell bR5 1).trans rfl; have f0 := blk_frozen bR5 0; have f1 := blk_frozen bR5 1; have HT := Aside0.mk (SS.three2 HT4.out hs5 hb5 HB4.out.size); have HB5 := Aside0.mk (below_then HB4.out HB4.out.size hb5); clear hs5 hb5)
      | (go_at_call 49; refine (pairClone_any2 Al Ar cl cr (seq3 mode l r a b).a (seq3 mode l r a b).b _ HK.out.la HK.out.lb (fun x hx => isOk_big (HK.out.a.all x hx)) (fun x hx => isOk_big (HK.out.b.all x hx)) (HLl.out.below (below_alloc (Below.refl _ _) _)) (HLr.out.below (below_alloc (Below.refl _ _) _))).mono ?_; rintro e w4 ⟨v0, v1, P, Q, rfl, hs0, hs1, hap, hb4⟩; obtain ⟨A0, c0, rfl⟩ := Kd.S_slice hs0; obtain ⟨A1, c1, rfl⟩ := Kd.S_slice hs1; have bR4 := blk_below (blk_alloc bR3 _) hb4; have hB4 : Below w3.heap.size w3 w4 := below_then (below_alloc (Below.refl _ _) _) (by simp) hb4; have HB4 := Aside0.mk hB4; have HT4 := Aside0.mk (show Two w4 w3.heap.size _ _ _ _ from ⟨P, Q, Kd.S_lower (base' := w3.heap.size) hs0 (by simp), Kd.S_lower (base' := w3.heap.size) hs1 (by simp), hap⟩); clear hs0 hs1 hb4 hB4)
      | (go_at_call 48; refine (HCALL.out _ HB2.out).mono ?_; rintro e w3 ⟨Al, cl, Ar, cr, Ao, co, rfl, hl3, hr3, ho3, hb3⟩; have bR3 := blk_below bR2 hb3; have hB3 := blk_lt bR3; have HLl := Aside0.mk (show IsL w3 (seq3 mode l r a b).a Al cl from hl3); have HLr := Aside0.mk (show IsL w3 (seq3 mode l r a b).b Ar cr from hr3); have HLo := Aside0.mk (show IsL w3 (seq3 mode l r a b).c Ao co from ho3); have HB3 := Aside0.mk (below_then HB2.out HB2.out.size hb3); clear hl3 hr3 ho3 hb3)
      | (go_at_call 47; refine hf.mono ?_; rintro e w2 ⟨rfl, hb2⟩; have bP2 := blk_below bP hb2; have p0 := (blk_cell bP2 0).trans rfl; have p1 := (blk_cell bP2 1).trans rfl; have bR2 := blk_below bR hb2; have HB2 := Aside0.mk (below_then HB0.out HB0.out.size hb2); clear hb2))
    refine bodyPost_ret (results_ct rfl _ _ (w.heap.size + 1) 29 #[.slice A0 (seq3 mode l r a b).a.length c0, .slice A1 (seq3 mode l r a b).b.length c1] (0, 0) _ rfl (Id.set2_blk _ _ bR5) Try.underlying29 rfl (by kernel_rfl)) rfl ?_
    have hle : w.heap.size ≤ w3.heap.size := HB3.out.size
    exact ⟨_, _, _, rfl, HT.out.set2 bR5 (by decide) hle _ _, Id.set2_below (below_then HB3.out hle HB5.out) (by omega) _ _⟩
set_option maxHeartbeats 1000000 in
set_option maxRecDepth 100000 in
theorem spanClone_any2 (A B : Option Addr) (ca cb : Nat) (l r : List Occ) (w : World) (nl : l.length ≤ 1048576) (nr : r.length ≤ 1048576) (il : ∀ x ∈ l, x.f2.length ≤ 1048576) (ir : ∀ x ∈ r, x.f2.length ≤ 1048576) (hL : IsL w l A ca) (hR : IsL w r B cb) :
    Calls Try.prog 64 #[.agg #[.slice A l.length ca, .slice B r.length cb]] w fun e w' => CloneOut2 w w' l r e := by
  have hb0 : Below w.heap.size w ((w.alloc (.cells #[.slice A l.length ca, .slice B r.length cb] 46)).alloc (.cells #[.slice none 0 0, .slice none 0 0] 46)) := below_alloc (below_alloc (Below.refl _ _) _) _
  have bP := blk_alloc (blk_new w (.cells #[.slice A l.length ca, .slice B r.length cb] 46)) (.cells #[.slice none 0 0, .slice none 0 0] 46)
  have bR : ((w.alloc (.cells #[.slice A l.length ca, .slice B r.length cb] 46)).alloc (.cells #[.slice none 0 0, .slice none 0 0] 46)).heap[w.heap.size + 1]? = some (.cells #[.slice none 0 0, .slice none 0 0] 46 (0, 0)) := by
    have := blk_new (w.alloc (.cells #[.slice A l.length ca, .slice B r.length cb] 46)) (.cells #[.slice none 0 0, .slice none 0 0] 46)
    simpa using this
  go_enter Try.func64, Try.ntmps64
  go_upto_region 1 with fail
  go_wp2_with fail
  generalize (w.alloc (.cells #[.slice A l.length ca, .slice B r.length cb] 46)).alloc (.cells #[.slice none 0 0, .slice none 0 0] 46) = W at hb0 bP bR ⊢
  have HL := Aside0.mk (hL.below hb0)
  have HR := Aside0.mk (hR.below hb0)
  have HB := Aside0.mk hb0
  have F : ∀ w', Below W.heap.size W w' → w'.cell? ⟨w.heap.size, 0, none⟩ = some (.slice A l.length ca) ∧ w'.cell? ⟨w.heap.size, 1, none⟩ = some (.slice B r.length cb) :=
    fun w' h => ⟨pw_cell_below h ((blk_cell bP 0).trans rfl), pw_cell_below h ((blk_cell bP 1).trans rfl)⟩
  go_region_held3 (fun w' => w'.cell? ⟨w.heap.size, 0, none⟩ = some (.slice A l.length ca) ∧ w'.cell? ⟨w.heap.size, 1, none⟩ = some (.slice B r.length cb))
    (first | (with_reducible exact F _ (Below.refl _ _)) | (with_reducible exact F _ (below_drew (Below.refl _ _))) | (with_reducible exact F _ HB1) | (with_reducible exact F _ HB2) | (with_reducible exact ⟨s0 _ _, s1 _ _⟩))
    (first
      | (go_at_call 50; refine (cloneOccs_any B cb r _ nr ir (HR.out.below HB1)).mono ?_; rintro e w2 ⟨v1, rfl, hs2, hb2⟩; obtain ⟨A1, c1, rfl⟩ := Kd.S_slice hs2; have HT := Aside0.mk (SS.two2 hs1 hs2 hb2 HB1.size); have HB2 : Below W.heap.size W w2 := below_then HB1 HB1.size hb2; have bR2 := blk_below bR HB2; have r0 := (blk_cell bR2 0).trans rfl; have r1 := (blk_cell bR2 1).trans rfl; have f0 := blk_frozen bR2 0; have f1 := blk_frozen bR2 1; have bP2 := blk_below bP HB2; have s0 : ∀ u0 u1, ((w2.setCell ⟨w.heap.size + 1, 0, none⟩ u0).setCell ⟨w.heap.size + 1, 1, none⟩ u1).cell? ⟨w.heap.size, 0, none⟩ = some (.slice A l.length ca) := fun u0 u1 => (blk_cell (blk_far (blk_far bP2 (p := ⟨w.heap.size + 1, 0, none⟩) (by simp) u0) (p := ⟨w.heap.size + 1, 1, none⟩) (by simp) u1) 0).trans rfl; have s1 : ∀ u0 u1, ((w2.setCell ⟨w.heap.size + 1, 0, none⟩ u0).setCell ⟨w.heap.size + 1, 1, none⟩ u1).cell? ⟨w.heap.size, 1, none⟩ = some (.slice B r.length cb) := fun u0 u1 => (blk_cell (blk_far (blk_far bP2 (p := ⟨w.heap.size + 1, 0, none⟩) (by simp) u0) (p := ⟨w.heap.size + 1, 1, none⟩) (by simp) u1) 1).trans rfl)
      | (go_at_call 50; refine (cloneOccs_any A ca l _ nl il (HL.out.below HB1)).mono ?_; rintro e w2 ⟨v0, rfl, hs2, hb2⟩; obtain ⟨A0, c0, rfl⟩ := Kd.S_slice hs2; have HT := Aside0.mk (SS.two2 hs1 hs2 hb2 HB1.size).symm; have HB2 : Below W.heap.size W w2 := below_then HB1 HB1.size hb2; have bR2 := blk_below bR HB2; have r0 := (blk_cell bR2 0).trans rfl; have r1 := (blk_cell bR2 1).trans rfl; have f0 := blk_frozen bR2 0; have f1 := blk_frozen bR2 1; have bP2 := blk_below bP HB2; have s0 : ∀ u0 u1, ((w2.setCell ⟨w.heap.size + 1, 0, none⟩ u0).setCell ⟨w.heap.size + 1, 1, none⟩ u1).cell? ⟨w.heap.size, 0, none⟩ = some (.slice A l.length ca) := fun u0 u1 => (blk_cell (blk_far (blk_far bP2 (p := ⟨w.heap.size + 1, 0, none⟩) (by simp) u0) (p := ⟨w.heap.size + 1, 1, none⟩) (by simp) u1) 0).trans rfl; have s1 : ∀ u0 u1, ((w2.setCell ⟨w.heap.size + 1, 0, none⟩ u0).setCell ⟨w.heap.size + 1, 1, none⟩ u1).cell? ⟨w.heap.size, 1, none⟩ = some (.slice B r.length cb) := fun u0 u1 => (blk_cell (blk_far (blk_far bP2 (p := ⟨w.heap.size + 1, 0, none⟩) (by simp) u0) (p := ⟨w.heap.size + 1, 1, none⟩) (by simp) u1) 1).trans rfl)
      | (go_at_call 50; refine (cloneOccs_any A ca l _ nl il (HL.out.below (below_drew (Below.refl _ _)))).mono ?_; rintro e w1 ⟨v0, rfl, hs1, hb1⟩; obtain ⟨A0, c0, rfl⟩ := Kd.S_slice hs1; have HB1 : Below W.heap.size W w1 := keepD hb1)
      | (go_at_call 50; refine (cloneOccs_any B cb r _ nr ir (HR.out.below (below_drew (Below.refl _ _)))).mono ?_; rintro e w1 ⟨v1, rfl, hs1, hb1⟩; obtain ⟨A1, c1, rfl⟩ := Kd.S_slice hs1; have HB1 : Below W.heap.size W w1 := keepD hb1))
  all_goals
    go_wp2
    refine bodyPost_ret (results_cell_row rfl _ _ (w.heap.size + 1) 46 #[.slice A0 l.length c0, .slice A1 r.length c1] (0, 0) _ rfl (Id.set2_blk _ _ bR2) Try.underlying46 rfl (by kernel_rfl)) rfl ?_
    obtain ⟨P, Q, h0, h1, hap⟩ := HT.out
    exact ⟨_, _, P, Q, rfl, Kd.S_lower (SS.set2 h0 bR2 (by decide) _ _) HB.out.size, Kd.S_lower (SS.set2 h1 bR2 (by decide) _ _) HB.out.size, hap, Id.set2_below (below_then HB.out HB.out.size HB2) (by omega) _ _⟩
set_option maxHeartbeats 2000000 in
set_option maxRecDepth 100000 in
theorem spanNot_any2 (mode : Int) (A B C D E : Option Addr) (ca cb cc cd ce : Nat) (l r a b c : List Occ) (w : World) (hL : IsL w l A ca) (hR : IsL w r B cb) (hE : IsL w a C cc) (hI : IsL w b D cd) (hK5 : IsL w c E ce) :
    Calls Try.prog 31 #[.int .i64 mode, .agg #[.slice A l.length ca, .slice B r.length cb], .slice C a.length cc, .slice D b.length cd, .slice E c.length ce] w fun e w' => Out3S w w' (if fits5 mode l r a b c then not3 mode l r a b c else ⟨[], [], []⟩) e := by
  have hb0 : Below w.heap.size w ((w.alloc (.cells #[.slice A l.length ca, .slice B r.length cb] 46)).alloc (.cells #[.slice none 0 0, .slice none 0 0] 46)) := below_alloc (below_alloc (Below.refl _ _) _) _
  have bP := blk_alloc (blk_new w (.cells #[.slice A l.length ca, .slice B r.length cb] 46)) (.cells #[.slice none 0 0, .slice none 0 0] 46)
  have bR : ((w.alloc (.cells #[.slice A l.length ca, .slice B r.length cb] 46)).alloc (.cells #[.slice none 0 0, .slice none 0 0] 46)).heap[w.heap.size + 1]? = some (.cells #[.slice none 0 0, .slice none 0 0] 46 (0, 0)) := by
    have := blk_new (w.alloc (.cells #[.slice A l.length ca, .slice B r.length cb] 46)) (.cells #[.slice none 0 0, .slice none 0 0] 46)
    simpa using this
  have hf := spanFits_any mode A B C D E ca cb cc cd ce l r a b c _ (hL.below hb0) (hR.below hb0) (hE.below hb0) (hI.below hb0) (hK5.below hb0)
  have HB0 := Aside0.mk hb0
  cases hq : fits5 mode l r a b c with
  | false =>
    rw [hq] at hf
    clear hq
    go_enter Try.func31, Try.ntmps31
    go_wp2_with (go_at_call 62; refine hf.mono ?_; rintro e w2 ⟨rfl, hb2⟩; have bR2 := blk_below bR hb2; have r0 := (blk_cell bR2 0).trans rfl; have r1 := (blk_cell bR2 1).trans rfl; have f0 := blk_frozen bR2 0; have f1 := blk_frozen bR2 1; have HB2 := Aside0.mk (below_then HB0.out HB0.out.size hb2); clear hb2)
    refine bodyPost_ret (results_ct rfl _ _ (w.heap.size + 1) 46 #[.slice none 0 0, .slice none 0 0] (0, 0) _ rfl (Id.set2_blk _ _ bR2) Try.underlying46 rfl (by kernel_rfl)) rfl ?_
    exact ⟨_, _, _, rfl, Three.nil _ _, Id.set2_below HB2.out (by omega) _ _⟩
  | true =>
    rw [hq] at hf
    obtain ⟨hm, ⟨hl, nl⟩, ⟨hr, nr⟩, ⟨ha, na⟩, ⟨hb, nb⟩, ⟨hcc, ncc⟩⟩ := fits5_iff.1 hq
    clear hq
    have HK := Aside0.mk (not3_ok hm hl hr ha hb hcc (by omega) (by omega) (by omega) (by omega))
    have hcall := fun (w2 : World) (h : Below w.heap.size w w2) => not_any mode hm A B C D E ca cb cc cd ce l r a b c w2 hl hr ha.all hcc.all (by omega) (by omega) (by omega) (hL.below h) (hR.below h) (hE.below h) (hI.below h) (hK5.below h)
    have HCALL := Aside0.mk hcall
    clear hcall hl hr ha hb hcc
    go_enter Try.func31, Try.ntmps31
    go_wp2_with (first
      | (go_at_call 50; refine (cloneOccs_any Ao co (not3 mode l r a b c).c _ HK.out.lc (fun x hx => isOk_big (HK.out.c.all x hx)) (HLo.out.below HB4.out)).mono ?_; rintro e w5 ⟨v2, rfl, hs5, hb5⟩; obtain ⟨A2, c2, rfl⟩ := Kd.S_slice hs5; have bR5 := blk_below bR4 hb5; have r0 := (blk_cell bR5 0).trans rfl; have r1 := (blk_cell bR5 1).trans rfl; have f0 := blk_frozen bR5 0; have f1 := blk_frozen bR5 1; have HT := Aside0.mk (SS.three2 HT4.out hs5 hb5 HB4.out.size); have HB5 := Aside0.mk (below_then HB4.out HB4.out.size hb5); clear hs5 hb5)
      | (go_at_call 64; refine (spanClone_any2 Al Ar cl cr (not3 mode l r a b c).a (not3 mode l r a b c).b _ HK.out.la HK.out.lb (fun x hx => isOk_big (HK.out.a.all x hx)) (fun x hx => isOk_big (HK.out.b.all x hx)) (HLl.out.below (below_alloc (Below.refl _ _) _)) (HLr.out.below (below_alloc (Below.refl _ _) _))).mono ?_; rintro e w4 ⟨v0, v1, P, Q, rfl, hs0, hs1, hap, hb4⟩; obtain ⟨A0, c0, rfl⟩ := Kd.S_slice hs0; obtain ⟨A1, c1, rfl⟩ := Kd.S_slice hs1; have bR4 := blk_below (blk_alloc bR3 _) hb4; have hB4 : Below w3.heap.size w3 w4 := below_then (below_alloc (Below.refl _ _) _) (by simp) hb4; have HB4 := Aside0.mk hB4; have HT4 := Aside0.mk (show Two w4 w3.heap.size _ _ _ _ from ⟨P, Q, Kd.S_lower (base' := w3.heap.size) hs0 (by simp), Kd.S_lower (base' := w3.heap.size) hs1 (by simp), hap⟩); clear hs0 hs1 hb4 hB4)
      | (go_at_call 63; refine (HCALL.out _ HB2.out).mono ?_; rintro e w3 ⟨Al, cl, Ar, cr, Ao, co, rfl, hl3, hr3, ho3, hb3⟩; have bR3 := blk_below bR2 hb3; have hB3 := blk_lt bR3; have HLl := Aside0.mk (show IsL w3 (not3 mode l r a b c).a Al cl from hl3); have HLr := Aside0.mk (show IsL w3 (not3 mode l r a b c).b Ar cr from hr3); have HLo := Aside0.mk (show IsL w3 (not3 mode l r a b c).c Ao co from ho3); have HB3 := Aside0.mk (below_then HB2.out HB2.out.size hb3); clear hl3 hr3 ho3 hb3)
      | (go_at_call 62; refine hf.mono ?_; rintro e w2 ⟨rfl, hb2⟩; have bP2 := blk_below bP hb2; have p0 := (blk_cell bP2 0).trans rfl; have p1 := (blk_cell bP2 1).trans rfl; have bR2 := blk_below bR hb2; have HB2 := Aside0.mk (below_then HB0.out HB0.out.size hb2); clear hb2))
    refine bodyPost_ret (results_ct rfl _ _ (w.heap.size + 1) 46 #[.slice A0 (not3 mode l r a b c).a.length c0, .slice A1 (not3 mode l r a b c).b.length c1] (0, 0) _ rfl (Id.set2_blk _ _ bR5) Try.underlying46 rfl (by kernel_rfl)) rfl ?_
    have hle : w.heap.size ≤ w3.heap.size := HB3.out.size
    exact ⟨_, _, _, rfl, HT.out.set2 bR5 (by decide) hle _ _, Id.set2_below (below_then HB3.out hle HB5.out) (by omega) _ _⟩
set_option maxHeartbeats 2000000 in
set_option maxRecDepth 100000 in
theorem spanEach_any2 (mode : Int) (A B C D E : Option Addr) (ca cb cc cd ce : Nat) (l r a b c : List Occ) (w : World) (hL : IsL w l A ca) (hR : IsL w r B cb) (hE : IsL w a C cc) (hI : IsL w b D cd) (hK5 : IsL w c E ce) :
    Calls Try.prog 36 #[.int .i64 mode, .agg #[.slice A l.length ca, .slice B r.length cb], .slice C a.length cc, .slice D b.length cd, .slice E c.length ce] w fun e w' => Out3S w w' (if fits5 mode l r a b c then each3 mode l r a b c else ⟨[], [], []⟩) e := by
  have hb0 : Below w.heap.size w ((w.alloc (.cells #[.slice A l.length ca, .slice B r.length cb] 46)).alloc (.cells #[.slice none 0 0, .slice none 0 0] 46)) := below_alloc (below_alloc (Below.refl _ _) _) _
  have bP := blk_alloc (blk_new w (.cells #[.slice A l.length ca, .slice B r.length cb] 46)) (.cells #[.slice none 0 0, .slice none 0 0] 46)
  have bR : ((w.alloc (.cells #[.slice A l.length ca, .slice B r.length cb] 46)).alloc (.cells #[.slice none 0 0, .slice none 0 0] 46)).heap[w.heap.size + 1]? = some (.cells #[.slice none 0 0, .slice none 0 0] 46 (0, 0)) := by
    have := blk_new (w.alloc (.cells #[.slice A l.length ca, .slice B r.length cb] 46)) (.cells #[.slice none 0 0, .slice none 0 0] 46)
    simpa using this
  have hf := spanFits_any mode A B C D E ca cb cc cd ce l r a b c _ (hL.below hb0) (hR.below hb0) (hE.below hb0) (hI.below hb0) (hK5.below hb0)
  have HB0 := Aside0.mk hb0
  cases hq : fits5 mode l r a b c with
  | false =>
    rw [hq] at hf
    clear hq
    go_enter Try.func36, Try.ntmps36
    go_wp2_with (go_at_call 62; refine hf.mono ?_; rintro e w2 ⟨rfl, hb2⟩; have bR2 := blk_below bR hb2; have r0 := (blk_cell bR2 0).trans rfl; have r1 := (blk_cell bR2 1).trans rfl; have f0 := blk_frozen bR2 0; have f1 := blk_frozen bR2 1; have HB2 := Aside0.mk (below_then HB0.out HB0.out.size hb2); clear hb2)
    refine bodyPost_ret (results_ct rfl _ _ (w.heap.size + 1) 46 #[.slice none 0 0, .slice none 0 0] (0, 0) _ rfl (Id.set2_blk _ _ bR2) Try.underlying46 rfl (by kernel_rfl)) rfl ?_
    exact ⟨_, _, _, rfl, Three.nil _ _, Id.set2_below HB2.out (by omega) _ _⟩
  | true =>
    rw [hq] at hf
    obtain ⟨hm, ⟨hl, nl⟩, ⟨hr, nr⟩, ⟨ha, na⟩, ⟨hb, nb⟩, ⟨hcc, ncc⟩⟩ := fits5_iff.1 hq
    clear hq
    have HK := Aside0.mk (each3_ok hm hl hr ha hb hcc (by omega) (by omega) (by omega) (by omega))
    have hcall := fun (w2 : World) (h : Below w.heap.size w w2) => each_any mode hm A B C D E ca cb cc cd ce l r a c b w2 hl hr ha.all hb.all (by omega) (by omega) (by omega) (hL.below h) (hR.below h) (hE.below h) (hK5.below h) (hI.below h)
    have HCALL := Aside0.mk hcall
    clear hcall hl hr ha hb hcc
    go_enter Try.func36, Try.ntmps36
    go_wp2_with (first
      | (go_at_call 50; refine (cloneOccs_any Ao co (each3 mode l r a b c).c _ HK.out.lc (fun x hx => isOk_big (HK.out.c.all x hx)) (HLo.out.below HB4.out)).mono ?_; rintro e w5 ⟨v2, rfl, hs5, hb5⟩; obtain ⟨A2, c2, rfl⟩ := Kd.S_slice hs5; have bR5 := blk_below bR4 hb5; have r0 := (blk_cell bR5 0).trans rfl; have r1 := (blk_cell bR5 1).trans rfl; have f0 := blk_frozen bR5 0; have f1 := blk_frozen bR5 1; have HT := Aside0.mk (SS.three2 HT4.out hs5 hb5 HB4.out.size); have HB5 := Aside0.mk (below_then HB4.out HB4.out.size hb5); clear hs5 hb5)
      | (go_at_call 64; refine (spanClone_any2 Al Ar cl cr (each3 mode l r a b c).a (each3 mode l r a b c).b _ HK.out.la HK.out.lb (fun x hx => isOk_big (HK.out.a.all x hx)) (fun x hx => isOk_big (HK.out.b.all x hx)) (HLl.out.below (below_alloc (Below.refl _ _) _)) (HLr.out.below (below_alloc (Below.refl _ _) _))).mono ?_; rintro e w4 ⟨v0, v1, P, Q, rfl, hs0, hs1, hap, hb4⟩; obtain ⟨A0, c0, rfl⟩ := Kd.S_slice hs0; obtain ⟨A1, c1, rfl⟩ := Kd.S_slice hs1; have bR4 := blk_below (blk_alloc bR3 _) hb4; have hB4 : Below w3.heap.size w3 w4 := below_then (below_alloc (Below.refl _ _) _) (by simp) hb4; have HB4 := Aside0.mk hB4; have HT4 := Aside0.mk (show Two w4 w3.heap.size _ _ _ _ from ⟨P, Q, Kd.S_lower (base' := w3.heap.size) hs0 (by simp), Kd.S_lower (base' := w3.heap.size) hs1 (by simp), hap⟩); clear hs0 hs1 hb4 hB4)
      | (go_at_call 66; refine (HCALL.out _ HB2.out).mono ?_; rintro e w3 ⟨Al, cl, Ar, cr, Ao, co, rfl, hl3, hr3, ho3, hb3⟩; have bR3 := blk_below bR2 hb3; have hB3 := blk_lt bR3; have HLl := Aside0.mk (show IsL w3 (each3 mode l r a b c).a Al cl from hl3); have HLr := Aside0.mk (show IsL w3 (each3 mode l r a b c).b Ar cr from hr3); have HLo := Aside0.mk (show IsL w3 (each3 mode l r a b c).c Ao co from ho3); have HB3 := Aside0.mk (below_then HB2.out HB2.out.size hb3); clear hl3 hr3 ho3 hb3)
      | (go_at_call 62; refine hf.mono ?_; rintro e w2 ⟨rfl, hb2⟩; have bP2 := blk_below bP hb2; have p0 := (blk_cell bP2 0).trans rfl; have p1 := (blk_cell bP2 1).trans rfl; have bR2 := blk_below bR hb2; have HB2 := Aside0.mk (below_then HB0.out HB0.out.size hb2); clear hb2))
    refine bodyPost_ret (results_ct rfl _ _ (w.heap.size + 1) 46 #[.slice A0 (each3 mode l r a b c).a.length c0, .slice A1 (each3 mode l r a b c).b.length c1] (0, 0) _ rfl (Id.set2_blk _ _ bR5) Try.underlying46 rfl (by kernel_rfl)) rfl ?_
    have hle : w.heap.size ≤ w3.heap.size := HB3.out.size
    exact ⟨_, _, _, rfl, HT.out.set2 bR5 (by decide) hle _ _, Id.set2_below (below_then HB3.out hle HB5.out) (by omega) _ _⟩
end Go.Proofs.Ytccenpmaooailaa.Eg
