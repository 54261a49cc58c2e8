
/- Sizes, copies, comparisons, marks of pairs and spans: the laws' own functions. -/
import Derived.Test.YtccenpmaooailaaNB7
import Derived.Test.YtccenpmaooailaaNB6
import Derived.Test.YtccenpmaooailaaNEb
import Derived.Test.YtccenpmaooailaaNEc
import Derived.Test.YtccenpmaooailaaNEd
import Derived.Test.YtccenpmaooailaaNEg
set_option linter.unusedVariables false
set_option linter.unusedSimpArgs false
namespace Go.Proofs.Ytccenpmaooailaa.Ee
open Go.RowKit Go.Proofs.YtccenpmaooailaaW.PrintWords Go.Proofs.Ytccenpmaooailaa.Wd Go.Proofs.Ytccenpmaooailaa.Pu Go.Proofs.Ytccenpmaooailaa.Pv Go.Proofs.Ytccenpmaooailaa.Ca Go.Proofs.Ytccenpmaooailaa.Cb Go.Proofs.Ytccenpmaooailaa.Cc Go.Proofs.Ytccenpmaooailaa.Cp Go.Proofs.Ytccenpmaooailaa.Cd Go.Proofs.Ytccenpmaooailaa.Ci Go.Proofs.Ytccenpmaooailaa.Ce Go.Proofs.Ytccenpmaooailaa.Cf Go.Proofs.Ytccenpmaooailaa.Cg Go.Proofs.Ytccenpmaooailaa.Sc Go.Proofs.Ytccenpmaooailaa.Se Go.Proofs.Ytccenpmaooailaa.Sh Go.Proofs.Ytccenpmaooailaa.Si Go.Proofs.Ytccenpmaooailaa.Sp Go.Proofs.Ytccenpmaooailaa.Ia Go.Proofs.Ytccenpmaooailaa.Ib Go.Proofs.Ytccenpmaooailaa.Ic Go.Proofs.Ytccenpmaooailaa.Id Go.Proofs.Ytccenpmaooailaa.Ie Go.Proofs.Ytccenpmaooailaa.If Go.Proofs.Ytccenpmaooailaa.Ig Go.Proofs.Ytccenpmaooailaa.Ih Go.Proofs.Ytccenpmaooailaa.Ij Go.Proofs.Ytccenpmaooailaa.Ik Go.Proofs.Ytccenpmaooailaa.Ra Go.Proofs.Ytccenpmaooailaa.Rb Go.Proofs.Ytccenpmaooailaa.Rc Go.Proofs.Ytccenpmaooailaa.Rd Go.Proofs.Ytccenpmaooailaa.Re Go.Proofs.Ytccenpmaooailaa.Sj Go.Proofs.Ytccenpmaooailaa.Ya Go.Proofs.Ytccenpmaooailaa.Yd Go.Proofs.Ytccenpmaooailaa.Yf Go.Proofs.Ytccenpmaooailaa.Yg Go.Proofs.Ytccenpmaooailaa.Ih Go.Proofs.Ytccenpmaooailaa.Yh Go.Proofs.Ytccenpmaooailaa.Yi Go.Proofs.Ytccenpmaooailaa.Sg Go.Proofs.Ytccenpmaooailaa.Sf Go.Proofs.Ytccenpmaooailaa.Yj Go.Proofs.Ytccenpmaooailaa.Ig Go.Proofs.Ytccenpmaooailaa.Yk Go.Proofs.Ytccenpmaooailaa.Ik Go.Proofs.Ytccenpmaooailaa.Yl Go.Proofs.Ytccenpmaooailaa.Ij Go.Proofs.Ytccenpmaooailaa.Ym Go.Proofs.Ytccenpmaooailaa.Il Go.Proofs.Ytccenpmaooailaa.Yn Go.Proofs.Ytccenpmaooailaa.Yo Go.Proofs.Ytccenpmaooailaa.In Go.Proofs.Ytccenpmaooailaa.Yq Go.Proofs.Ytccenpmaooailaa.Pw Go.Proofs.Ytccenpmaooailaa.Px Go.Proofs.Ytccenpmaooailaa.La Go.Proofs.Ytccenpmaooailaa.Db Go.Proofs.Ytccenpmaooailaa.Sh Go.Proofs.Ytccenpmaooailaa.Id Go.Proofs.Ytccenpmaooailaa.Ea Go.Proofs.Ytccenpmaooailaa.Eb Go.Proofs.Ytccenpmaooailaa.Ec Go.Proofs.Ytccenpmaooailaa.Ed Go.Proofs.Ytccenpmaooailaa.Eg

def SzOut2 (w w' : World) (left : Int) (l r : List Occ) (e : Ending) : Prop := ∃ q, e = .returned (.int .i64 q) ∧ Below w.heap.size w w' ∧ -1 ≤ q ∧ q ≤ left ∧ (0 ≤ q → (l.length ≤ left ∧ ∀ x ∈ l, x.f2.length ≤ left) ∧ (r.length ≤ left ∧ ∀ x ∈ r, x.f2.length ≤ left))
theorem Fr.blk {S : Nat → Prop} {w w' : World} {g : Nat} {o : Obj} (h : Fr S w w') (b : w.heap[g]? = some o) (hn : ¬ S g) : w'.heap[g]? = some o := (h.block g (blk_lt b) hn).trans b
theorem SS.fr {S P : Nat → Prop} {w w' : World} {base : Nat} {v : Value} {l : List Occ} (h : SS w base P v l) (hf : Fr S w w') (hn : ∀ k, P k → ¬ S k) : SS w' base P v l := Kd.S_step h (fun k hk hlt => hf.block k hlt (hn k hk))
theorem SS.lt {P : Nat → Prop} {w : World} {base : Nat} {v : Value} {l : List Occ} (h : SS w base P v l) : SS w base (fun k => P k ∧ base ≤ k ∧ k < w.heap.size) v l := Kd.S_mono (Kd.S_bound h) (fun k hk => ⟨hk.1, hk.2.1, hk.2.2.1⟩)
theorem SS.isL {P : Nat → Prop} {w : World} {base : Nat} {A : Option Addr} {n c : Nat} {l : List Occ} (h : SS w base P (.slice A n c) l) : IsL w l A c := by
  obtain ⟨hn, hc, hC⟩ := Kd.S_reads' h
  subst hn
  exact ⟨hc, hC⟩
theorem Two.set {w : World} {B G : Nat} {u v : Value} {l m : List Occ} {t : TypeId} {cs : Array Value} (h : Two w B u l v m) (b : w.heap[G]? = some (.cells cs t (0, 0))) (ht : ∀ q, q ∈ 66 :: kO.E → q ≠ t) (j : Nat) (u0 : Value) : Two (w.setCell ⟨G, j, none⟩ u0) B u l v m := by
  obtain ⟨P, Q, h0, h1, hap⟩ := h
  exact ⟨P, Q, Kd.S_set h0 b ht j u0, Kd.S_set h1 b ht j u0, hap⟩

set_option maxRecDepth 100000 in
theorem szPair_any (A B : Option Addr) (ca cb : Nat) (l r : List Occ) (left : Int) (h0 : 0 ≤ left) (h1 : left ≤ 1048576) (w : World) (hL : IsL w l A ca) (hR : IsL w r B cb) :
    Calls Try.prog 10 #[.agg #[.slice A l.length ca, .slice B r.length cb], .int .i64 left] w fun e w' => SzOut2 w w' left l r e := by
  have hb0 := below_alloc (Below.refl w.heap.size w) (.cells #[.slice A l.length ca, .slice B r.length cb] 24)
  have bP := blk_new w (.cells #[.slice A l.length ca, .slice B r.length cb] 24)
  have HL := Aside0.mk (hL.below hb0)
  have HR := Aside0.mk (hR.below hb0)
  have HB0 := Aside0.mk hb0
  clear hL hR
  go_enter Try.func10, Try.ntmps10
  go_upto_region 1 with fail
  generalize w.alloc (.cells #[.slice A l.length ca, .slice B r.length cb] 24) = W at hb0 bP HL HR HB0 ⊢
  clear hb0
  have p0 := (blk_cell bP 0).trans rfl
  go_upto_region 2 with (go_at_call 11; refine (szOccS_any A ca l left h0 h1 _ HL.out).mono ?_; rintro e w2 ⟨q, rfl, hb2, hq0, hq1, hq2⟩; have HB2 := Aside0.mk (below_then HB0.out HB0.out.size hb2); have HR2 := Aside0.mk (HR.out.below hb2); have p1 := (blk_cell (blk_below bP hb2) 1).trans rfl; have HQ := Aside0.mk hq2; clear hb2 hq2)
  by_cases hq : q < 0
  · have d : decide (q < 0) = true := decide_eq_true hq
    clear hq
    go_wp2
    go_ret
    exact ⟨-1, rfl, HB2.out, by omega, by omega, fun h => by omega⟩
  · have d : decide (q < 0) = false := decide_eq_false hq
    go_upto_region 5 with (go_at_call 11; refine (szOccS_any B cb r q (by omega) (by omega) _ HR2.out).mono ?_; rintro e w3 ⟨q2, rfl, hb3, hs0, hs1, hs2⟩; have HB3 := Aside0.mk (below_then HB2.out HB2.out.size hb3); have HQ2 := Aside0.mk hs2; clear hb3 hs2)
    by_cases hq2 : q2 < 0
    · have d2 : decide (q2 < 0) = true := decide_eq_true hq2
      clear hq2
      go_wp2
      go_ret
      exact ⟨-1, rfl, HB3.out, by omega, by omega, fun h => by omega⟩
    · have d2 : decide (q2 < 0) = false := decide_eq_false hq2
      go_wp2
      go_ret
      refine ⟨q2, rfl, HB3.out, by omega, by omega, fun h => ⟨HQ.out (by omega), ?_, fun x hx => ?_⟩⟩
      · have := (HQ2.out h).1; omega
      · have := (HQ2.out h).2 x hx; omega
set_option maxHeartbeats 1000000 in
set_option maxRecDepth 100000 in
theorem toPair_any (A B : Option Addr) (ca cb : Nat) (l r : List Occ) (w : World) (nl : l.length ≤ 1048576) (nr : r.length ≤ 1048576) (il : ∀ x ∈ l, x.f2.length ≤ 1048576) (ir : ∀ x ∈ r, x.f2.length ≤ 1048576) (hL : IsL w l A ca) (hR : IsL w r B cb) :
    Calls Try.prog 13 #[.agg #[.slice A l.length ca, .slice B r.length cb]] w fun e w' => CloneOut2 w w' l r e := by
  obtain ⟨hb0, b0, b1, b2⟩ := boxes3 w #[.slice A l.length ca, .slice B r.length cb] #[.slice none 0 0, .slice none 0 0] #[.slice none 0 0, .slice none 0 0] 24 29 29
  have HL := Aside0.mk hL
  have HR := Aside0.mk hR
  clear hL hR
  go_enter Try.func13, Try.ntmps13
  go_upto_region 2 with fail
  generalize ((w.alloc (.cells #[.slice A l.length ca, .slice B r.length cb] 24)).alloc (.cells #[.slice none 0 0, .slice none 0 0] 29)).alloc (.cells #[.slice none 0 0, .slice none 0 0] 29) = W at hb0 b0 b1 b2 ⊢
  have p0 := (blk_cell b0 0).trans rfl
  have HB0 := Aside0.mk hb0
  clear hb0
  go_upto_region 3 with (go_at_call 14; refine (toOccS_any A ca l _ nl il (HL.out.below HB0.out)).mono ?_; rintro e w3 ⟨v3, rfl, hr3, hb3⟩; obtain ⟨A3, c3, rfl⟩ := Kd.S_slice hr3; have z0 := blk_frozen (blk_below b2 hb3) 0; have q0 := (blk_cell (blk_below b2 hb3) 0).trans rfl; have f0 := blk_below b0 hb3; have f1 := blk_below b1 hb3; have f2 := blk_below b2 hb3; have HR3 := Aside0.mk hr3; have HB3 := Aside0.mk (below_then HB0.out HB0.out.size hb3); clear hr3 hb3)
  clear b0 b1 b2 p0
  have g0 := blk_far f0 (p := ⟨w.heap.size + 1 + 1, 0, none⟩) (by simp; omega) (.slice A3 l.length c3)
  have g1 := blk_far f1 (p := ⟨w.heap.size + 1 + 1, 0, none⟩) (by simp) (.slice A3 l.length c3)
  have g2 : (w3.setCell ⟨w.heap.size + 1 + 1, 0, none⟩ (.slice A3 l.length c3)).heap[w.heap.size + 1 + 1]? = some (.cells #[.slice A3 l.length c3, .slice none 0 0] 29 (0, 0)) := blk_put f2 0 _ rfl
  have HB4 := Aside0.mk (HB3.out.setCell (p := ⟨w.heap.size + 1 + 1, 0, none⟩) (by simp; omega) (.slice A3 l.length c3))
  have HR4 := Aside0.mk (SS.lt (Kd.S_set (Kd.S_lower HR3.out HB0.out.size) f2 (by decide) 0 (.slice A3 l.length c3)))
  clear f0 f1 f2 z0 q0
  generalize w3.setCell ⟨w.heap.size + 1 + 1, 0, none⟩ (.slice A3 l.length c3) = W4 at g0 g1 g2 HB4 HR4 ⊢
  have p1 := (blk_cell g0 1).trans rfl
  go_upto_region 4 with (go_at_call 14; refine (toOccS_any B cb r _ nr ir (HR.out.below HB4.out)).mono ?_; rintro e w5 ⟨v5, rfl, hr5, hb5⟩; obtain ⟨A5, c5, rfl⟩ := Kd.S_slice hr5; have z1 := blk_frozen (blk_below g2 hb5) 1; have q1 := (blk_cell (blk_below g2 hb5) 1).trans rfl; have f1 := blk_below g1 hb5; have f2 := blk_below g2 hb5; have HT := Aside0.mk (show Two w5 w.heap.size _ _ _ _ from ⟨fun k => True ∧ w.heap.size ≤ k ∧ k < W4.heap.size, fun k => W4.heap.size ≤ k, Kd.S_below HR4.out hb5, Kd.S_lower (Kd.S_mono (Kd.S_bound hr5) (fun k hk => hk.2.1)) HB4.out.size, fun k h1 h2 => by omega⟩); have HB5 := Aside0.mk (below_then HB4.out HB4.out.size hb5); clear hr5 hb5)
  clear g0 g1 g2 p1
  have g1 := blk_far f1 (p := ⟨w.heap.size + 1 + 1, 1, none⟩) (by simp) (.slice A5 r.length c5)
  have g2 : (w5.setCell ⟨w.heap.size + 1 + 1, 1, none⟩ (.slice A5 r.length c5)).heap[w.heap.size + 1 + 1]? = some (.cells #[.slice A3 l.length c3, .slice A5 r.length c5] 29 (0, 0)) := blk_put f2 1 _ rfl
  have HB6 := Aside0.mk (HB5.out.setCell (p := ⟨w.heap.size + 1 + 1, 1, none⟩) (by simp; omega) (.slice A5 r.length c5))
  have HT6 := Aside0.mk (Two.set HT.out f2 (by decide) 1 (.slice A5 r.length c5))
  clear f1 f2 z1 q1
  generalize w5.setCell ⟨w.heap.size + 1 + 1, 1, none⟩ (.slice A5 r.length c5) = W6 at g1 g2 HB6 HT6 ⊢
  have r0 := (blk_cell g2 0).trans rfl
  have r1 := (blk_cell g2 1).trans rfl
  have s0 := (blk_cell g1 0).trans rfl
  have s1 := (blk_cell g1 1).trans rfl
  have t0 := blk_frozen g1 0
  have t1 := blk_frozen g1 1
  go_wp2
  refine bodyPost_ret (results_cell_row rfl _ _ (w.heap.size + 1) 29 #[.slice A3 l.length c3, .slice A5 r.length c5] (0, 0) _ rfl (Id.set2_blk _ _ g1) Try.underlying29 rfl (by kernel_rfl)) rfl ?_
  obtain ⟨P, Q, x0, x1, hap⟩ := HT6.out
  exact ⟨_, _, P, Q, rfl, SS.set2 x0 g1 (by decide) _ _, SS.set2 x1 g1 (by decide) _ _, hap, Id.set2_below HB6.out (by omega) _ _⟩
set_option maxHeartbeats 1000000 in
set_option maxRecDepth 100000 in
theorem eqPair_any (A B C D : Option Addr) (ca cb cc cd : Nat) (l r : List Occ) (w : World) (hA : IsL w l A ca) (hB : IsL w r B cb) (hC : IsL w l C cc) (hD : IsL w r D cd) :
    Calls Try.prog 16 #[.agg #[.slice A l.length ca, .slice B r.length cb], .agg #[.slice C l.length cc, .slice D r.length cd]] w fun e w' => e = .returned (.bool true) ∧ Below w.heap.size w w' := by
  obtain ⟨hb0, bP, bQ⟩ := boxes2 w #[.slice A l.length ca, .slice B r.length cb] #[.slice C l.length cc, .slice D r.length cd] 29 29
  have HA := Aside0.mk (hA.below hb0)
  have HBs := Aside0.mk (hB.below hb0)
  have HC := Aside0.mk (hC.below hb0)
  have HD := Aside0.mk (hD.below hb0)
  have HB0 := Aside0.mk hb0
  clear hA hB hC hD
  go_enter Try.func16, Try.ntmps16
  go_upto_region 1 with fail
  generalize (w.alloc (.cells #[.slice A l.length ca, .slice B r.length cb] 29)).alloc (.cells #[.slice C l.length cc, .slice D r.length cd] 29) = W at hb0 bP bQ HA HBs HC HD HB0 ⊢
  clear hb0
  have p0 := (blk_cell bP 0).trans rfl
  have q0 := (blk_cell bQ 0).trans rfl
  go_upto_region 3 with (go_at_call 17; refine (eqOccS_any A C ca cc l _ HA.out HC.out).mono ?_; rintro e w2 ⟨rfl, hb2⟩; have p1 := (blk_cell (blk_below bP hb2) 1).trans rfl; have q1 := (blk_cell (blk_below bQ hb2) 1).trans rfl; have HB2 := Aside0.mk hb2; clear hb2)
  go_wp2_with (go_at_call 17; refine (eqOccS_any B D cb cd r _ (HBs.out.below HB2.out) (HD.out.below HB2.out)).mono ?_; rintro e w3 ⟨rfl, hb3⟩; have HB3 := Aside0.mk (below_then HB0.out HB0.out.size (below_then HB2.out HB2.out.size hb3)); clear hb3)
  go_ret
  exact ⟨rfl, HB3.out⟩
set_option maxHeartbeats 1000000 in
set_option maxRecDepth 100000 in
theorem markPair_any (base : Nat) (P Q : Nat → Prop) (v0 v1 : Value) (l r : List Occ) (k : Int) (w : World) (hk : 0 ≤ k) (hk2 : k + wtO l + wtO r ≤ 4611686018427387904) (h0 : SS w base P v0 l) (h1 : SS w base Q v1 r) (hap : ApP P Q) :
    Calls Try.prog 18 #[.agg #[v0, v1], .int .i64 k] w fun e w' => e = .returned (.int .i64 (k + wtO l + wtO r)) ∧ SS w' base P v0 (mkO k l) ∧ SS w' base Q v1 (mkO (k + wtO l) r) ∧ Fr (fun j => (P j ∨ Q j) ∧ base ≤ j) w w' := by
  obtain ⟨A0, c0, rfl⟩ := Kd.S_slice h0
  obtain ⟨A1, c1, rfl⟩ := Kd.S_slice h1
  have hb0 := below_alloc (Below.refl w.heap.size w) (.cells #[.slice A0 l.length c0, .slice A1 r.length c1] 29)
  have bP := blk_new w (.cells #[.slice A0 l.length c0, .slice A1 r.length c1] 29)
  have H0 := Aside0.mk (Kd.S_below (SS.lt h0) hb0)
  have H1 := Aside0.mk (Kd.S_below (SS.lt h1) hb0)
  have HF0 := Aside0.mk (Fr.of_below (S := fun j => (P j ∨ Q j) ∧ base ≤ j) hb0)
  have HAP := Aside0.mk hap
  clear h0 h1 hap
  go_enter Try.func18, Try.ntmps18
  go_upto_region 1 with fail
  generalize w.alloc (.cells #[.slice A0 l.length c0, .slice A1 r.length c1] 29) = W at hb0 bP H0 H1 HF0 ⊢
  clear hb0
  have p0 := (blk_cell bP 0).trans rfl
  go_upto_region 2 with (go_at_call 19; refine (markO_any base _ _ l k _ hk (by omega) H0.out).mono ?_; rintro e w2 ⟨rfl, hs2, hf2⟩; have hd2 := SS.fr H1.out hf2 (fun j h1 h2 => HAP.out j h2.1.1 h1.1); have bP2 := Fr.blk hf2 bP (fun h => by have := h.1.2.2; omega); have p1 := (blk_cell bP2 1).trans rfl; have H02 := Aside0.mk hs2; have H12 := Aside0.mk hd2; have HF2 := Aside0.mk (Fr.trans HF0.out hf2 (fun j h _ => ⟨.inl h.1.1, h.2⟩)); clear hs2 hf2 hd2 bP2)
  clear p0
  go_wp2_with (go_at_call 19; refine (markO_any base _ _ r (k + wtO l) _ (by omega) hk2 H12.out).mono ?_; rintro e w3 ⟨rfl, hs3, hf3⟩; have H13 := Aside0.mk hs3; have H03 := Aside0.mk (SS.fr H02.out hf3 (fun j h1 h2 => HAP.out j h1.1 h2.1.1)); have HF3 := Aside0.mk (Fr.trans HF2.out hf3 (fun j h _ => ⟨.inr h.1.1, h.2⟩)); clear hs3 hf3)
  go_ret
  exact ⟨rfl, Kd.S_mono H03.out (fun j h => h.1), Kd.S_mono H13.out (fun j h => h.1), HF3.out⟩
set_option maxHeartbeats 1000000 in
set_option maxRecDepth 100000 in
theorem heldPair_any (A B : Option Addr) (ca cb : Nat) (l r : List Occ) (k : Int) (w : World) (hk : 0 ≤ k) (hk2 : k + wtO l + wtO r ≤ 4611686018427387904) (hL : IsL w (mkO k l) A ca) (hR : IsL w (mkO (k + wtO l) r) B cb) :
    Calls Try.prog 20 #[.agg #[.slice A l.length ca, .slice B r.length cb], .int .i64 k] w fun e w' => e = .returned (.int .i64 (k + wtO l + wtO r)) ∧ Below w.heap.size w w' := by
  have hb0 := below_alloc (Below.refl w.heap.size w) (.cells #[.slice A l.length ca, .slice B r.length cb] 29)
  have bP := blk_new w (.cells #[.slice A l.length ca, .slice B r.length cb] 29)
  have HL := Aside0.mk (hL.below hb0)
  have HR := Aside0.mk (hR.below hb0)
  have HB0 := Aside0.mk hb0
  have x0 : decide (k + (wtO l : Int) < 0) = false := decide_eq_false (by omega)
  have x1 : decide (k + (wtO l : Int) + (wtO r : Int) < 0) = false := decide_eq_false (by omega)
  clear hL hR
  go_enter Try.func20, Try.ntmps20
  go_upto_region 1 with fail
  generalize w.alloc (.cells #[.slice A l.length ca, .slice B r.length cb] 29) = W at hb0 bP HL HR HB0 ⊢
  clear hb0
  have p0 := (blk_cell bP 0).trans rfl
  go_upto_region 4 with (go_at_call 21; refine (heldO_any A ca l k _ hk (by omega) HL.out).mono ?_; rintro e w2 ⟨rfl, hb2⟩; have p1 := (blk_cell (blk_below bP hb2) 1).trans rfl; have HB2 := Aside0.mk hb2; clear hb2)
  go_wp2_with (go_at_call 21; refine (heldO_any B cb r (k + wtO l) _ (by omega) hk2 (HR.out.below HB2.out)).mono ?_; rintro e w3 ⟨rfl, hb3⟩; have HB3 := Aside0.mk (below_then HB0.out HB0.out.size (below_then HB2.out HB2.out.size hb3)); clear hb3)
  go_ret
  exact ⟨rfl, HB3.out⟩

set_option maxRecDepth 100000 in
theorem szSpan_any (A B : Option Addr) (ca cb : Nat) (l r : List Occ) (left : Int) (h0 : 0 ≤ left) (h1 : left ≤ 1048576) (w : World) (hL : IsL w l A ca) (hR : IsL w r B cb) :
    Calls Try.prog 28 #[.agg #[.slice A l.length ca, .slice B r.length cb], .int .i64 left] w fun e w' => SzOut2 w w' left l r e := by
  have hb0 := below_alloc (Below.refl w.heap.size w) (.cells #[.slice A l.length ca, .slice B r.length cb] 43)
  have bP := blk_new w (.cells #[.slice A l.length ca, .slice B r.length cb] 43)
  have HL := Aside0.mk (hL.below hb0)
  have HR := Aside0.mk (hR.below hb0)
  have HB0 := Aside0.mk hb0
  clear hL hR
  go_enter Try.func28, Try.ntmps28
  go_upto_region 1 with fail
  generalize w.alloc (.cells #[.slice A l.length ca, .slice B r.length cb] 43) = W at hb0 bP HL HR HB0 ⊢
  clear hb0
  have p0 := (blk_cell bP 0).trans rfl
  go_upto_region 2 with (go_at_call 11; refine (szOccS_any A ca l left h0 h1 _ HL.out).mono ?_; rintro e w2 ⟨q, rfl, hb2, hq0, hq1, hq2⟩; have HB2 := Aside0.mk (below_then HB0.out HB0.out.size hb2); have HR2 := Aside0.mk (HR.out.below hb2); have p1 := (blk_cell (blk_below bP hb2) 1).trans rfl; have HQ := Aside0.mk hq2; clear hb2 hq2)
  by_cases hq : q < 0
  · have d : decide (q < 0) = true := decide_eq_true hq
    clear hq
    go_wp2
    go_ret
    exact ⟨-1, rfl, HB2.out, by omega, by omega, fun h => by omega⟩
  · have d : decide (q < 0) = false := decide_eq_false hq
    go_upto_region 5 with (go_at_call 11; refine (szOccS_any B cb r q (by omega) (by omega) _ HR2.out).mono ?_; rintro e w3 ⟨q2, rfl, hb3, hs0, hs1, hs2⟩; have HB3 := Aside0.mk (below_then HB2.out HB2.out.size hb3); have HQ2 := Aside0.mk hs2; clear hb3 hs2)
    by_cases hq2 : q2 < 0
    · have d2 : decide (q2 < 0) = true := decide_eq_true hq2
      clear hq2
      go_wp2
      go_ret
      exact ⟨-1, rfl, HB3.out, by omega, by omega, fun h => by omega⟩
    · have d2 : decide (q2 < 0) = false := decide_eq_false hq2
      go_wp2
      go_ret
      refine ⟨q2, rfl, HB3.out, by omega, by omega, fun h => ⟨HQ.out (by omega), ?_, fun x hx => ?_⟩⟩
      · have := (HQ2.out h).1; omega
      · have := (HQ2.out h).2 x hx; omega
set_option maxHeartbeats 1000000 in
set_option maxRecDepth 100000 in
theorem toSpan_any (A B : Option Addr) (ca cb : Nat) (l r : List Occ) (w : World) (nl : l.length ≤ 1048576) (nr : r.length ≤ 1048576) (il : ∀ x ∈ l, x.f2.length ≤ 1048576) (ir : ∀ x ∈ r, x.f2.length ≤ 1048576) (hL : IsL w l A ca) (hR : IsL w r B cb) :
    Calls Try.prog 30 #[.agg #[.slice A l.length ca, .slice B r.length cb]] w fun e w' => CloneOut2 w w' l r e := by
  obtain ⟨hb0, b0, b1, b2⟩ := boxes3 w #[.slice A l.length ca, .slice B r.length cb] #[.slice none 0 0, .slice none 0 0] #[.slice none 0 0, .slice none 0 0] 43 46 46
  have HL := Aside0.mk hL
  have HR := Aside0.mk hR
  clear hL hR
  go_enter Try.func30, Try.ntmps30
  go_upto_region 2 with fail
  generalize ((w.alloc (.cells #[.slice A l.length ca, .slice B r.length cb] 43)).alloc (.cells #[.slice none 0 0, .slice none 0 0] 46)).alloc (.cells #[.slice none 0 0, .slice none 0 0] 46) = W at hb0 b0 b1 b2 ⊢
  have p0 := (blk_cell b0 0).trans rfl
  have HB0 := Aside0.mk hb0
  clear hb0
  go_upto_region 3 with (go_at_call 14; refine (toOccS_any A ca l _ nl il (HL.out.below HB0.out)).mono ?_; rintro e w3 ⟨v3, rfl, hr3, hb3⟩; obtain ⟨A3, c3, rfl⟩ := Kd.S_slice hr3; have z0 := blk_frozen (blk_below b2 hb3) 0; have q0 := (blk_cell (blk_below b2 hb3) 0).trans rfl; have f0 := blk_below b0 hb3; have f1 := blk_below b1 hb3; have f2 := blk_below b2 hb3; have HR3 := Aside0.mk hr3; have HB3 := Aside0.mk (below_then HB0.out HB0.out.size hb3); clear hr3 hb3)
  clear b0 b1 b2 p0
  have g0 := blk_far f0 (p := ⟨w.heap.size + 1 + 1, 0, none⟩) (by simp; omega) (.slice A3 l.length c3)
  have g1 := blk_far f1 (p := ⟨w.heap.size + 1 + 1, 0, none⟩) (by simp) (.slice A3 l.length c3)
  have g2 : (w3.setCell ⟨w.heap.size + 1 + 1, 0, none⟩ (.slice A3 l.length c3)).heap[w.heap.size + 1 + 1]? = some (.cells #[.slice A3 l.length c3, .slice none 0 0] 46 (0, 0)) := blk_put f2 0 _ rfl
  have HB4 := Aside0.mk (HB3.out.setCell (p := ⟨w.heap.size + 1 + 1, 0, none⟩) (by simp; omega) (.slice A3 l.length c3))
  have HR4 := Aside0.mk (SS.lt (Kd.S_set (Kd.S_lower HR3.out HB0.out.size) f2 (by decide) 0 (.slice A3 l.length c3)))
  clear f0 f1 f2 z0 q0
  generalize w3.setCell ⟨w.heap.size + 1 + 1, 0, none⟩ (.slice A3 l.length c3) = W4 at g0 g1 g2 HB4 HR4 ⊢
  have p1 := (blk_cell g0 1).trans rfl
  go_upto_region 4 with (go_at_call 14; refine (toOccS_any B cb r _ nr ir (HR.out.below HB4.out)).mono ?_; rintro e w5 ⟨v5, rfl, hr5, hb5⟩; obtain ⟨A5, c5, rfl⟩ := Kd.S_slice hr5; have z1 := blk_frozen (blk_below g2 hb5) 1; have q1 := (blk_cell (blk_below g2 hb5) 1).trans rfl; have f1 := blk_below g1 hb5; have f2 := blk_below g2 hb5; have HT := Aside0.mk (show Two w5 w.heap.size _ _ _ _ from ⟨fun k => True ∧ w.heap.size ≤ k ∧ k < W4.heap.size, fun k => W4.heap.size ≤ k, Kd.S_below HR4.out hb5, Kd.S_lower (Kd.S_mono (Kd.S_bound hr5) (fun k hk => hk.2.1)) HB4.out.size, fun k h1 h2 => by omega⟩); have HB5 := Aside0.mk (below_then HB4.out HB4.out.size hb5); clear hr5 hb5)
  clear g0 g1 g2 p1
  have g1 := blk_far f1 (p := ⟨w.heap.size + 1 + 1, 1, none⟩) (by simp) (.slice A5 r.length c5)
  have g2 : (w5.setCell ⟨w.heap.size + 1 + 1, 1, none⟩ (.slice A5 r.length c5)).heap[w.heap.size + 1 + 1]? = some (.cells #[.slice A3 l.length c3, .slice A5 r.length c5] 46 (0, 0)) := blk_put f2 1 _ rfl
  have HB6 := Aside0.mk (HB5.out.setCell (p := ⟨w.heap.size + 1 + 1, 1, none⟩) (by simp; omega) (.slice A5 r.length c5))
  have HT6 := Aside0.mk (Two.set HT.out f2 (by decide) 1 (.slice A5 r.length c5))
  clear f1 f2 z1 q1
  generalize w5.setCell ⟨w.heap.size + 1 + 1, 1, none⟩ (.slice A5 r.length c5) = W6 at g1 g2 HB6 HT6 ⊢
  have r0 := (blk_cell g2 0).trans rfl
  have r1 := (blk_cell g2 1).trans rfl
  have s0 := (blk_cell g1 0).trans rfl
  have s1 := (blk_cell g1 1).trans rfl
  have t0 := blk_frozen g1 0
  have t1 := blk_frozen g1 1
  go_wp2
  refine bodyPost_ret (results_cell_row rfl _ _ (w.heap.size + 1) 46 #[.slice A3 l.length c3, .slice A5 r.length c5] (0, 0) _ rfl (Id.set2_blk _ _ g1) Try.underlying46 rfl (by kernel_rfl)) rfl ?_
  obtain ⟨P, Q, x0, x1, hap⟩ := HT6.out
  exact ⟨_, _, P, Q, rfl, SS.set2 x0 g1 (by decide) _ _, SS.set2 x1 g1 (by decide) _ _, hap, Id.set2_below HB6.out (by omega) _ _⟩
set_option maxHeartbeats 1000000 in
set_option maxRecDepth 100000 in
theorem eqSpan_any (A B C D : Option Addr) (ca cb cc cd : Nat) (l r : List Occ) (w : World) (hA : IsL w l A ca) (hB : IsL w r B cb) (hC : IsL w l C cc) (hD : IsL w r D cd) :
    Calls Try.prog 32 #[.agg #[.slice A l.length ca, .slice B r.length cb], .agg #[.slice C l.length cc, .slice D r.length cd]] w fun e w' => e = .returned (.bool true) ∧ Below w.heap.size w w' := by
  obtain ⟨hb0, bP, bQ⟩ := boxes2 w #[.slice A l.length ca, .slice B r.length cb] #[.slice C l.length cc, .slice D r.length cd] 46 46
  have HA := Aside0.mk (hA.below hb0)
  have HBs := Aside0.mk (hB.below hb0)
  have HC := Aside0.mk (hC.below hb0)
  have HD := Aside0.mk (hD.below hb0)
  have HB0 := Aside0.mk hb0
  clear hA hB hC hD
  go_enter Try.func32, Try.ntmps32
  go_upto_region 1 with fail
  generalize (w.alloc (.cells #[.slice A l.length ca, .slice B r.length cb] 46)).alloc (.cells #[.slice C l.length cc, .slice D r.length cd] 46) = W at hb0 bP bQ HA HBs HC HD HB0 ⊢
  clear hb0
  have p0 := (blk_cell bP 0).trans rfl
  have q0 := (blk_cell bQ 0).trans rfl
  go_upto_region 3 with (go_at_call 17; refine (eqOccS_any A C ca cc l _ HA.out HC.out).mono ?_; rintro e w2 ⟨rfl, hb2⟩; have p1 := (blk_cell (blk_below bP hb2) 1).trans rfl; have q1 := (blk_cell (blk_below bQ hb2) 1).trans rfl; have HB2 := Aside0.mk hb2; clear hb2)
  go_wp2_with (go_at_call 17; refine (eqOccS_any B D cb cd r _ (HBs.out.below HB2.out) (HD.out.below HB2.out)).mono ?_; rintro e w3 ⟨rfl, hb3⟩; have HB3 := Aside0.mk (below_then HB0.out HB0.out.size (below_then HB2.out HB2.out.size hb3)); clear hb3)
  go_ret
  exact ⟨rfl, HB3.out⟩
set_option maxHeartbeats 1000000 in
set_option maxRecDepth 100000 in
theorem markSpan_any (base : Nat) (P Q : Nat → Prop) (v0 v1 : Value) (l r : List Occ) (k : Int) (w : World) (hk : 0 ≤ k) (hk2 : k + wtO l + wtO r ≤ 4611686018427387904) (h0 : SS w base P v0 l) (h1 : SS w base Q v1 r) (hap : ApP P Q) :
    Calls Try.prog 33 #[.agg #[v0, v1], .int .i64 k] w fun e w' => e = .returned (.int .i64 (k + wtO l + wtO r)) ∧ SS w' base P v0 (mkO k l) ∧ SS w' base Q v1 (mkO (k + wtO l) r) ∧ Fr (fun j => (P j ∨ Q j) ∧ base ≤ j) w w' := by
  obtain ⟨A0, c0, rfl⟩ := Kd.S_slice h0
  obtain ⟨A1, c1, rfl⟩ := Kd.S_slice h1
  have hb0 := below_alloc (Below.refl w.heap.size w) (.cells #[.slice A0 l.length c0, .slice A1 r.length c1] 46)
  have bP := blk_new w (.cells #[.slice A0 l.length c0, .slice A1 r.length c1] 46)
  have H0 := Aside0.mk (Kd.S_below (SS.lt h0) hb0)
  have H1 := Aside0.mk (Kd.S_below (SS.lt h1) hb0)
  have HF0 := Aside0.mk (Fr.of_below (S := fun j => (P j ∨ Q j) ∧ base ≤ j) hb0)
  have HAP := Aside0.mk hap
  clear h0 h1 hap
  go_enter Try.func33, Try.ntmps33
  go_upto_region 1 with fail
  generalize w.alloc (.cells #[.slice A0 l.length c0, .slice A1 r.length c1] 46) = W at hb0 bP H0 H1 HF0 ⊢
  clear hb0
  have p0 := (blk_cell bP 0).trans rfl
  go_upto_region 2 with (go_at_call 19; refine (markO_any base _ _ l k _ hk (by omega) H0.out).mono ?_; rintro e w2 ⟨rfl, hs2, hf2⟩; have hd2 := SS.fr H1.out hf2 (fun j h1 h2 => HAP.out j h2.1.1 h1.1); have bP2 := Fr.blk hf2 bP (fun h => by have := h.1.2.2; omega); have p1 := (blk_cell bP2 1).trans rfl; have H02 := Aside0.mk hs2; have H12 := Aside0.mk hd2; have HF2 := Aside0.mk (Fr.trans HF0.out hf2 (fun j h _ => ⟨.inl h.1.1, h.2⟩)); clear hs2 hf2 hd2 bP2)
  clear p0
  go_wp2_with (go_at_call 19; refine (markO_any base _ _ r (k + wtO l) _ (by omega) hk2 H12.out).mono ?_; rintro e w3 ⟨rfl, hs3, hf3⟩; have H13 := Aside0.mk hs3; have H03 := Aside0.mk (SS.fr H02.out hf3 (fun j h1 h2 => HAP.out j h1.1 h2.1.1)); have HF3 := Aside0.mk (Fr.trans HF2.out hf3 (fun j h _ => ⟨.inr h.1.1, h.2⟩)); clear hs3 hf3)
  go_ret
  exact ⟨rfl, Kd.S_mono H03.out (fun j h => h.1), Kd.S_mono H13.out (fun j h => h.1), HF3.out⟩
set_option maxHeartbeats 1000000 in
set_option maxRecDepth 100000 in
theorem heldSpan_any (A B : Option Addr) (ca cb : Nat) (l r : List Occ) (k : Int) (w : World) (hk : 0 ≤ k) (hk2 : k + wtO l + wtO r ≤ 4611686018427387904) (hL : IsL w (mkO k l) A ca) (hR : IsL w (mkO (k + wtO l) r) B cb) :
    Calls Try.prog 34 #[.agg #[.slice A l.length ca, .slice B r.length cb], .int .i64 k] w fun e w' => e = .returned (.int .i64 (k + wtO l + wtO r)) ∧ Below w.heap.size w w' := by
  have hb0 := below_alloc (Below.refl w.heap.size w) (.cells #[.slice A l.length ca, .slice B r.length cb] 46)
  have bP := blk_new w (.cells #[.slice A l.length ca, .slice B r.length cb] 46)
  have HL := Aside0.mk (hL.below hb0)
  have HR := Aside0.mk (hR.below hb0)
  have HB0 := Aside0.mk hb0
  have x0 : decide (k + (wtO l : Int) < 0) = false := decide_eq_false (by omega)
  have x1 : decide (k + (wtO l : Int) + (wtO r : Int) < 0) = false := decide_eq_false (by omega)
  clear hL hR
  go_enter Try.func34, Try.ntmps34
  go_upto_region 1 with fail
  generalize w.alloc (.cells #[.slice A l.length ca, .slice B r.length cb] 46) = W at hb0 bP HL HR HB0 ⊢
  clear hb0
  have p0 := (blk_cell bP 0).trans rfl
  go_upto_region 4 with (go_at_call 21; refine (heldO_any A ca l k _ hk (by omega) HL.out).mono ?_; rintro e w2 ⟨rfl, hb2⟩; have p1 := (blk_cell (blk_below bP hb2) 1).trans rfl; have HB2 := Aside0.mk hb2; clear hb2)
  go_wp2_with (go_at_call 21; refine (heldO_any B cb r (k + wtO l) _ (by omega) hk2 (HR.out.below HB2.out)).mono ?_; rintro e w3 ⟨rfl, hb3⟩; have HB3 := Aside0.mk (below_then HB0.out HB0.out.size (below_then HB2.out HB2.out.size hb3)); clear hb3)
  go_ret
  exact ⟨rfl, HB3.out⟩
end Go.Proofs.Ytccenpmaooailaa.Ee
