
/- SpanNot and SpanEach: the reference's. -/
import Derived.Test.YtccenpmaooailaaGreatKB7
import Derived.Test.YtccenpmaooailaaGreatKB6
import Derived.Test.YtccenpmaooailaaGreatKTe
import Derived.Test.YtccenpmaooailaaGreatKTj
import Derived.Test.YtccenpmaooailaaGreatKTk
set_option linter.unusedVariables false
set_option linter.unusedSimpArgs false
namespace Go.Proofs.YtccenpmaooailaaGreat.Tl
open Go.RowKit Go.Proofs.YtccenpmaooailaaGreatW.PrintWords Go.Proofs.YtccenpmaooailaaGreat.Wd Go.Proofs.YtccenpmaooailaaGreat.Pu Go.Proofs.YtccenpmaooailaaGreat.Pv Go.Proofs.YtccenpmaooailaaGreat.Ca Go.Proofs.YtccenpmaooailaaGreat.Cb Go.Proofs.YtccenpmaooailaaGreat.Cc Go.Proofs.YtccenpmaooailaaGreat.Cp Go.Proofs.YtccenpmaooailaaGreat.Cd Go.Proofs.YtccenpmaooailaaGreat.Ci Go.Proofs.YtccenpmaooailaaGreat.Ce Go.Proofs.YtccenpmaooailaaGreat.Cf Go.Proofs.YtccenpmaooailaaGreat.Cg Go.Proofs.YtccenpmaooailaaGreat.Sc Go.Proofs.YtccenpmaooailaaGreat.Se Go.Proofs.YtccenpmaooailaaGreat.Sh Go.Proofs.YtccenpmaooailaaGreat.Si Go.Proofs.YtccenpmaooailaaGreat.Sp Go.Proofs.YtccenpmaooailaaGreat.Ia Go.Proofs.YtccenpmaooailaaGreat.Ib Go.Proofs.YtccenpmaooailaaGreat.Ic Go.Proofs.YtccenpmaooailaaGreat.Id Go.Proofs.YtccenpmaooailaaGreat.Ie Go.Proofs.YtccenpmaooailaaGreat.If Go.Proofs.YtccenpmaooailaaGreat.Ig Go.Proofs.YtccenpmaooailaaGreat.Ih Go.Proofs.YtccenpmaooailaaGreat.Ij Go.Proofs.YtccenpmaooailaaGreat.Ik Go.Proofs.YtccenpmaooailaaGreat.Ra Go.Proofs.YtccenpmaooailaaGreat.Rb Go.Proofs.YtccenpmaooailaaGreat.Rc Go.Proofs.YtccenpmaooailaaGreat.Rd Go.Proofs.YtccenpmaooailaaGreat.Re Go.Proofs.YtccenpmaooailaaGreat.Sj Go.Proofs.YtccenpmaooailaaGreat.Ya Go.Proofs.YtccenpmaooailaaGreat.Yd Go.Proofs.YtccenpmaooailaaGreat.Yf Go.Proofs.YtccenpmaooailaaGreat.Yg Go.Proofs.YtccenpmaooailaaGreat.Ih Go.Proofs.YtccenpmaooailaaGreat.Yh Go.Proofs.YtccenpmaooailaaGreat.Yi Go.Proofs.YtccenpmaooailaaGreat.Sg Go.Proofs.YtccenpmaooailaaGreat.Sf Go.Proofs.YtccenpmaooailaaGreat.Yj Go.Proofs.YtccenpmaooailaaGreat.Ig Go.Proofs.YtccenpmaooailaaGreat.Yk Go.Proofs.YtccenpmaooailaaGreat.Ik Go.Proofs.YtccenpmaooailaaGreat.Yl Go.Proofs.YtccenpmaooailaaGreat.Ij Go.Proofs.YtccenpmaooailaaGreat.Ym Go.Proofs.YtccenpmaooailaaGreat.Il Go.Proofs.YtccenpmaooailaaGreat.Yn Go.Proofs.YtccenpmaooailaaGreat.Yo Go.Proofs.YtccenpmaooailaaGreat.In Go.Proofs.YtccenpmaooailaaGreat.Yq Go.Proofs.YtccenpmaooailaaGreat.Pw Go.Proofs.YtccenpmaooailaaGreat.Px Go.Proofs.YtccenpmaooailaaGreat.La Go.Proofs.YtccenpmaooailaaGreat.Db Go.Proofs.YtccenpmaooailaaGreat.Ta Go.Proofs.YtccenpmaooailaaGreat.Tb Go.Proofs.YtccenpmaooailaaGreat.Tc Go.Proofs.YtccenpmaooailaaGreat.Td Go.Proofs.YtccenpmaooailaaGreat.Te Go.Proofs.YtccenpmaooailaaGreat.Th Go.Proofs.YtccenpmaooailaaGreat.Ti Go.Proofs.YtccenpmaooailaaGreat.Tj Go.Proofs.YtccenpmaooailaaGreat.Tk Go.Proofs.YtccenpmaooailaaGreat.Sh Go.Proofs.YtccenpmaooailaaGreat.Id Go.Proofs.YtccenpmaooailaaGreat.Yf Go.Proofs.YtccenpmaooailaaGreat.Ya Go.Proofs.YtccenpmaooailaaGreat.Yd Go.Proofs.YtccenpmaooailaaGreat.Re Go.Proofs.YtccenpmaooailaaGreat.Rc Go.Proofs.YtccenpmaooailaaGreat.Yj Go.Proofs.YtccenpmaooailaaGreat.Yi Go.Proofs.YtccenpmaooailaaGreat.Yk

theorem notS_fold {mode : Int} (hm : 0 ≤ mode ∧ mode ≤ 4) {m : List Occ} : ∀ {c : List Occ} {st : List Occ × List Occ} {a k : Nat}, SeqLen st a k → (∀ o ∈ c, IsOk o) → c.foldl (notStep mode m) st = c.foldl (notStepS mode m) st
  | [], _, _, _, _, _ => rfl
  | o :: os, st, a, k, h, hc => by
    rw [List.foldl_cons, List.foldl_cons, notS_fold hm (notLen_step (mode := mode) (m := m) h (hc o (by simp))) (fun x hx => hc x (List.mem_cons_of_mem _ hx)), notStep_eq hm h.ok1 (hc o (by simp))]
theorem eS_fold {mode : Int} (hm : 0 ≤ mode ∧ mode ≤ 4) {m : List Occ} : ∀ {c : List Occ} {st : List Occ × List Occ} {a k : Nat}, SeqLen st a k → (∀ o ∈ c, IsOk o) → c.foldl (eStep mode m) st = c.foldl (eStepS mode m) st
  | [], _, _, _, _, _ => rfl
  | o :: os, st, a, k, h, hc => by
    rw [List.foldl_cons, List.foldl_cons, eS_fold hm (eLen_step (mode := mode) (m := m) h (hc o (by simp))) (fun x hx => hc x (List.mem_cons_of_mem _ hx)), eStep_eq hm h.ok1 (hc o (by simp))]
theorem not3_eq {mode : Int} (hm : 0 ≤ mode ∧ mode ≤ 4) {l m a b c : List Occ} (hl : AreOk l) (hc : ∀ o ∈ c, IsOk o) : not3 mode l m a b c = not3S mode l m a b c := by
  unfold not3 not3S
  rw [notS_fold hm (st := (l, [])) (a := l.length) (k := 0) ⟨hl, AreOk.nil, Nat.le_refl _, Nat.le_refl _⟩ hc]
theorem each3_eq {mode : Int} (hm : 0 ≤ mode ∧ mode ≤ 4) {l m a b c : List Occ} (hl : AreOk l) (hb : ∀ o ∈ b, IsOk o) : each3 mode l m a b c = each3S mode l m a b c := by
  unfold each3 each3S
  rw [eS_fold hm (st := (l, [])) (a := l.length) (k := 0) ⟨hl, AreOk.nil, Nat.le_refl _, Nat.le_refl _⟩ hb]
structure AfterS (w w6 : World) (p : P3) (AL AR Ao : Option Addr) (cL cR co : Nat) : Prop where
  la : IsL w6 p.a AL cL
  lb : IsL w6 p.b AR cR
  lc : IsL w6 p.c Ao co
  bel : Below w.heap.size w w6
  bR : w6.heap[w.heap.size + 1]? = some (.cells #[.slice none 0 0, .slice none 0 0] 25 (0, 0))
theorem AfterS.below {w w6 w7 : World} {p : P3} {AL AR Ao : Option Addr} {cL cR co : Nat} (h : AfterS w w6 p AL AR Ao cL cR co) (hb : Below w6.heap.size w6 w7) : AfterS w w7 p AL AR Ao cL cR co :=
  ⟨h.la.below hb, h.lb.below hb, h.lc.below hb, below_then h.bel h.bel.size hb, blk_below h.bR hb⟩
theorem span_after {w w4 w5 w6 : World} {l r : List Occ} {v0 v1 : Value} {p q : P3} {e : Ending} (hp : p = q) (h : SpSOut w4 w5 w6 w4.heap.size v0 v1 q e)
    (hw : Below w.heap.size w w4) (h5 : Below w4.heap.size w4 w5) (h0 : Rw w5 w4.heap.size v0 l) (h1 : Rw w5 w4.heap.size v1 r) (bR : w4.heap[w.heap.size + 1]? = some (.cells #[.slice none 0 0, .slice none 0 0] 25 (0, 0))) :
    ∃ AL cL AR cR Ao co, e = .returned (.tuple #[.agg #[.slice AL p.a.length cL, .slice AR p.b.length cR], .slice Ao p.c.length co]) ∧ AfterS w w6 p AL AR Ao cL cR co := by
  subst hp
  obtain ⟨vL, vM, vO, rfl, hL, hM, hO, _, _, _, hfr, _, _⟩ := h
  obtain ⟨AL, cL, rfl⟩ := Xw.slice hL
  obtain ⟨AR, cR, rfl⟩ := Xw.slice hM
  obtain ⟨Ao, co, rfl⟩ := Xw.slice hO
  have hS : ∀ k, (own v0 k ∨ own v1 k) → w4.heap.size ≤ k := fun k h => h.elim (Kd.R_base h0 k) (Kd.R_base h1 k)
  have b6 : Below w4.heap.size w4 w6 := Fr.bel h5 hfr hS
  exact ⟨AL, cL, AR, cR, Ao, co, rfl, Xw.isL b6 hL, Xw.isL b6 hM, Xw.isL b6 hO, below_then hw hw.size b6, blk_below bR b6⟩
theorem span_mem {w4 w5 : World} {C : Option Addr} {a l r : List Occ} {cc : Nat} {v0 v1 : Value} (hC : IsL w4 a C cc) (hb : Below w4.heap.size w4 w5) (h0 : Rw w5 w4.heap.size v0 l) (h1 : Rw w5 w4.heap.size v1 r) : ∀ W, Fr (fun k => own v0 k ∨ own v1 k) w5 W → IsL W a C cc :=
  fun W hf => hC.below (Fr.bel hb hf (fun k h => h.elim (Kd.R_base h0 k) (Kd.R_base h1 k)))

set_option maxHeartbeats 4000000 in
set_option maxRecDepth 100000 in
theorem sSpanNot_any (mode : Int) (A B C D E : Option Addr) (ca cb cc cd ce : Nat) (l r a b c : List Occ) (w : World) (hL : IsL w l A ca) (hR : IsL w r B cb) (hE : IsL w a C cc) (hI : IsL w b D cd) (hK5 : IsL w c E ce) :
    Calls Tryz.prog 12 #[.int .i64 mode, .agg #[.slice A l.length ca, .slice B r.length cb], .slice C a.length cc, .slice D b.length cd, .slice E c.length ce] w fun e w' => Out3L w w' (spec3 (fits5 mode l r a b c) (not3 mode l r a b c)) e := by
  have hb0 : Below w.heap.size w ((w.alloc (.cells #[.slice A l.length ca, .slice B r.length cb] 25)).alloc (.cells #[.slice none 0 0, .slice none 0 0] 25)) := below_alloc (below_alloc (Below.refl _ _) _) _
  have bP := blk_alloc (blk_new w (.cells #[.slice A l.length ca, .slice B r.length cb] 25)) (.cells #[.slice none 0 0, .slice none 0 0] 25)
  have bR : ((w.alloc (.cells #[.slice A l.length ca, .slice B r.length cb] 25)).alloc (.cells #[.slice none 0 0, .slice none 0 0] 25)).heap[w.heap.size + 1]? = some (.cells #[.slice none 0 0, .slice none 0 0] 25 (0, 0)) := by
    have := blk_new (w.alloc (.cells #[.slice A l.length ca, .slice B r.length cb] 25)) (.cells #[.slice none 0 0, .slice none 0 0] 25)
    simpa using this
  have HL := Aside0.mk hL
  have HR := Aside0.mk hR
  have HLE := Aside0.mk hE
  have HMI := Aside0.mk hI
  have HRI := Aside0.mk hK5
  have HB0 := Aside0.mk hb0
  have hf := sSpanFits_any mode A B C D E ca cb cc cd ce l r a b c _ (hL.below hb0) (hR.below hb0) (hE.below hb0) (hI.below hb0) (hK5.below hb0)
  clear hL hR hE hI hK5
  cases hq : fits5 mode l r a b c with
  | false =>
    rw [hq] at hf
    clear hq
    go_enter Tryz.func12, Tryz.ntmps12
    go_wp2_with (go_at_call 47; refine hf.mono ?_; rintro e w3 ⟨rfl, hb3⟩; have bR9 := blk_alloc (blk_below bR hb3) (.cells #[] 43); have r0 := (blk_cell bR9 0).trans rfl; have r1 := (blk_cell bR9 1).trans rfl; have f0 := blk_frozen bR9 0; have f1 := blk_frozen bR9 1; have HB9 := Aside0.mk (below_then HB0.out HB0.out.size (below_alloc hb3 (.cells #[] 43))); clear hb3)
    refine bodyPost_ret (results_ct rfl _ _ (w.heap.size + 1) 25 #[.slice none 0 0, .slice none 0 0] (0, 0) _ rfl (Id.set2_blk _ _ bR9) Tryz.underlying25 rfl (by kernel_rfl)) rfl ?_
    exact ⟨none, 0, none, 0, _, 0, rfl, isL_nil _ _ _, isL_nil _ _ _, isL_nil _ _ _, Id.set2_below HB9.out (by omega) _ _⟩
  | true =>
    rw [hq] at hf
    obtain ⟨hm, ⟨hl, nl⟩, ⟨hr, nr⟩, ⟨ha, na⟩, ⟨hb, nb⟩, ⟨hcc, ncc⟩⟩ := fits5_iff.1 hq
    have HF := Aside0.mk hq
    clear hq
    obtain ⟨p, hp⟩ : ∃ p, p = not3 mode l r a b c := ⟨_, rfl⟩
    have hok : Ok3 (not3 mode l r a b c) := not3_ok hm hl hr ha hb hcc (by omega) (by omega) (by omega) (by omega)
    rw [← hp] at hok
    have HP := Aside0.mk hp
    have HK := Aside0.mk hok
    have HPS := Aside0.mk (hp.trans (not3_eq hm hl hcc.all))
    have HOL := Aside0.mk hl
    have HOR := Aside0.mk hr
    have HOA := Aside0.mk ha
    have HOB := Aside0.mk hb
    have HOC := Aside0.mk hcc
    clear hl hr ha hb hcc hp hok
    go_enter Tryz.func12, Tryz.ntmps12
    go_upto_region 1 with fail
    generalize (w.alloc (.cells #[.slice A l.length ca, .slice B r.length cb] 25)).alloc (.cells #[.slice none 0 0, .slice none 0 0] 25) = W at hb0 bP bR HB0 hf ⊢
    clear hb0
    have p0 := (blk_cell bP 0).trans rfl
    have p1 := (blk_cell bP 1).trans rfl
    go_upto_region 3 with (go_at_call 47; refine hf.mono ?_; rintro e w4 ⟨rfl, hb4⟩; have HB4 := Aside0.mk hb4; have bP4 := blk_below bP HB4.out; have s0 := (blk_cell bP4 0).trans rfl; have s1 := (blk_cell bP4 1).trans rfl; clear hb4)
    have HL4 := Aside0.mk (HL.out.below (below_then HB0.out HB0.out.size HB4.out))
    have HR4 := Aside0.mk (HR.out.below (below_then HB0.out HB0.out.size HB4.out))
    have HLE4 := Aside0.mk (HLE.out.below (below_then HB0.out HB0.out.size HB4.out))
    have HMI4 := Aside0.mk (HMI.out.below (below_then HB0.out HB0.out.size HB4.out))
    have HRI4 := Aside0.mk (HRI.out.below (below_then HB0.out HB0.out.size HB4.out))
    have bR4 := blk_below bR HB4.out
    have HBw4 := Aside0.mk (below_then HB0.out HB0.out.size HB4.out)
    go_upto_region 4 with (first
      | (go_at_call 48; refine (xNot_any w4 mode hm w4.heap.size A0 C D E A1 c0 cc cd ce c1 l r a b c _ HOL.out HOR.out HOA.out.all HOB.out.all HOC.out.all (by omega) (by omega) (by omega) HB5.out (Nat.le_refl _) (Xw.of HV0.out) (Xw.of HV1.out) HNE5.out HB5.out.size HCE.out HCD.out HCC.out).mono ?_; rintro e w6 hout; obtain ⟨AL, cL, AR, cR, Ao, co, rfl, haft⟩ := span_after HPS.out hout HBw4.out HB5.out HV0.out HV1.out bR4; have HAF := Aside0.mk haft; clear hout haft)
      | (go_at_call 49; refine (spanCopy_any A B ca cb l r _ (by omega) (by omega) (fun x hx => isOk_big (HOL.out.all x hx)) (fun x hx => isOk_big (HOR.out.all x hx)) HL4.out HR4.out).mono ?_; rintro e w5 ⟨v0, v1, rfl, hv0, hv1, hne5, hb5⟩; obtain ⟨A0, c0, rfl⟩ := Kd.R_slice hv0; obtain ⟨A1, c1, rfl⟩ := Kd.R_slice hv1; have HV0 := Aside0.mk hv0; have HV1 := Aside0.mk hv1; have HNE5 := Aside0.mk hne5; have HB5 := Aside0.mk hb5; have HCE := Aside0.mk (span_mem HLE4.out hb5 hv0 hv1); have HCD := Aside0.mk (span_mem HMI4.out hb5 hv0 hv1); have HCC := Aside0.mk (span_mem HRI4.out hb5 hv0 hv1); clear hv0 hv1 hne5 hb5))
    have bX := blk_new w6 (.cells #[.slice AL p.a.length cL, .slice AR p.b.length cR] 25)
    have HB67 := below_alloc (Below.refl w6.heap.size w6) (.cells #[.slice AL p.a.length cL, .slice AR p.b.length cR] 25)
    generalize w6.alloc (.cells #[.slice AL p.a.length cL, .slice AR p.b.length cR] 25) = W7 at bX HB67 ⊢
    have H7 := Aside0.mk (HAF.out.below HB67)
    have x0 := (blk_cell bX 0).trans rfl
    have x1 := (blk_cell bX 1).trans rfl
    clear HB67
    go_wp2_with (first
      | (go_at_call 50; refine (list_any Ao co p.c _ HK.out.lc (fun x hx => isOk_big (HK.out.c.all x hx)) (H7.out.lc.below HB8.out)).mono ?_; rintro e w9 ⟨v9, rfl, hv9, hb9⟩; obtain ⟨A9, c9, rfl⟩ := Kd.R_slice hv9; have bR9 := blk_below H7.out.bR (below_then HB8.out HB8.out.size hb9); have r0 := (blk_cell bR9 0).trans rfl; have r1 := (blk_cell bR9 1).trans rfl; have f0 := blk_frozen bR9 0; have f1 := blk_frozen bR9 1; have HV9 := Aside0.mk hv9; have HV80 := Aside0.mk (Ra.Rw.below H80.out hb9); have HV81 := Aside0.mk (Ra.Rw.below H81.out hb9); have HB9 := Aside0.mk (below_then H7.out.bel H7.out.bel.size (below_then HB8.out HB8.out.size hb9)); clear hv9 hb9)
      | (go_at_call 49; refine (spanCopy_any AL AR cL cR p.a p.b _ HK.out.la HK.out.lb (fun x hx => isOk_big (HK.out.a.all x hx)) (fun x hx => isOk_big (HK.out.b.all x hx)) H7.out.la H7.out.lb).mono ?_; rintro e w8 ⟨v80, v81, rfl, h80, h81, -, hb8⟩; obtain ⟨A80, c80, rfl⟩ := Kd.R_slice h80; obtain ⟨A81, c81, rfl⟩ := Kd.R_slice h81; have H80 := Aside0.mk h80; have H81 := Aside0.mk h81; have HB8 := Aside0.mk hb8; clear h80 h81 hb8))
    refine bodyPost_ret (results_ct rfl _ _ (w.heap.size + 1) 25 #[.slice A80 p.a.length c80, .slice A81 p.b.length c81] (0, 0) _ rfl (Id.set2_blk _ _ bR9) Tryz.underlying25 rfl (by kernel_rfl)) rfl ?_
    rw [show spec3 true (not3 mode l r a b c) = p from HP.out.symm]
    exact ⟨A80, c80, A81, c81, A9, c9, rfl, (Ra.Rw.isL (RR.set2s HV80.out bR9 _ _)).2, (Ra.Rw.isL (RR.set2s HV81.out bR9 _ _)).2, (Ra.Rw.isL (RR.set2s HV9.out bR9 _ _)).2, Id.set2_below HB9.out (by omega) _ _⟩

set_option maxHeartbeats 4000000 in
set_option maxRecDepth 100000 in
theorem sSpanEach_any (mode : Int) (A B C D E : Option Addr) (ca cb cc cd ce : Nat) (l r a b c : List Occ) (w : World) (hL : IsL w l A ca) (hR : IsL w r B cb) (hE : IsL w a C cc) (hI : IsL w b D cd) (hK5 : IsL w c E ce) :
    Calls Tryz.prog 14 #[.int .i64 mode, .agg #[.slice A l.length ca, .slice B r.length cb], .slice C a.length cc, .slice D b.length cd, .slice E c.length ce] w fun e w' => Out3L w w' (spec3 (fits5 mode l r a b c) (each3 mode l r a b c)) e := by
  have hb0 : Below w.heap.size w ((w.alloc (.cells #[.slice A l.length ca, .slice B r.length cb] 25)).alloc (.cells #[.slice none 0 0, .slice none 0 0] 25)) := below_alloc (below_alloc (Below.refl _ _) _) _
  have bP := blk_alloc (blk_new w (.cells #[.slice A l.length ca, .slice B r.length cb] 25)) (.cells #[.slice none 0 0, .slice none 0 0] 25)
  have bR : ((w.alloc (.cells #[.slice A l.length ca, .slice B r.length cb] 25)).alloc (.cells #[.slice none 0 0, .slice none 0 0] 25)).heap[w.heap.size + 1]? = some (.cells #[.slice none 0 0, .slice none 0 0] 25 (0, 0)) := by
    have := blk_new (w.alloc (.cells #[.slice A l.length ca, .slice B r.length cb] 25)) (.cells #[.slice none 0 0, .slice none 0 0] 25)
    simpa using this
  have HL := Aside0.mk hL
  have HR := Aside0.mk hR
  have HLE := Aside0.mk hE
  have HMI := Aside0.mk hI
  have HRI := Aside0.mk hK5
  have HB0 := Aside0.mk hb0
  have hf := sSpanFits_any mode A B C D E ca cb cc cd ce l r a b c _ (hL.below hb0) (hR.below hb0) (hE.below hb0) (hI.below hb0) (hK5.below hb0)
  clear hL hR hE hI hK5
  cases hq : fits5 mode l r a b c with
  | false =>
    rw [hq] at hf
    clear hq
    go_enter Tryz.func14, Tryz.ntmps14
    go_wp2_with (go_at_call 47; refine hf.mono ?_; rintro e w3 ⟨rfl, hb3⟩; have bR9 := blk_alloc (blk_below bR hb3) (.cells #[] 43); have r0 := (blk_cell bR9 0).trans rfl; have r1 := (blk_cell bR9 1).trans rfl; have f0 := blk_frozen bR9 0; have f1 := blk_frozen bR9 1; have HB9 := Aside0.mk (below_then HB0.out HB0.out.size (below_alloc hb3 (.cells #[] 43))); clear hb3)
    refine bodyPost_ret (results_ct rfl _ _ (w.heap.size + 1) 25 #[.slice none 0 0, .slice none 0 0] (0, 0) _ rfl (Id.set2_blk _ _ bR9) Tryz.underlying25 rfl (by kernel_rfl)) rfl ?_
    exact ⟨none, 0, none, 0, _, 0, rfl, isL_nil _ _ _, isL_nil _ _ _, isL_nil _ _ _, Id.set2_below HB9.out (by omega) _ _⟩
  | true =>
    rw [hq] at hf
    obtain ⟨hm, ⟨hl, nl⟩, ⟨hr, nr⟩, ⟨ha, na⟩, ⟨hb, nb⟩, ⟨hcc, ncc⟩⟩ := fits5_iff.1 hq
    have HF := Aside0.mk hq
    clear hq
    obtain ⟨p, hp⟩ : ∃ p, p = each3 mode l r a b c := ⟨_, rfl⟩
    have hok : Ok3 (each3 mode l r a b c) := each3_ok hm hl hr ha hb hcc (by omega) (by omega) (by omega) (by omega)
    rw [← hp] at hok
    have HP := Aside0.mk hp
    have HK := Aside0.mk hok
    have HPS := Aside0.mk (hp.trans (each3_eq hm hl hb.all))
    have HOL := Aside0.mk hl
    have HOR := Aside0.mk hr
    have HOA := Aside0.mk ha
    have HOB := Aside0.mk hb
    have HOC := Aside0.mk hcc
    clear hl hr ha hb hcc hp hok
    go_enter Tryz.func14, Tryz.ntmps14
    go_upto_region 1 with fail
    generalize (w.alloc (.cells #[.slice A l.length ca, .slice B r.length cb] 25)).alloc (.cells #[.slice none 0 0, .slice none 0 0] 25) = W at hb0 bP bR HB0 hf ⊢
    clear hb0
    have p0 := (blk_cell bP 0).trans rfl
    have p1 := (blk_cell bP 1).trans rfl
    go_upto_region 3 with (go_at_call 47; refine hf.mono ?_; rintro e w4 ⟨rfl, hb4⟩; have HB4 := Aside0.mk hb4; have bP4 := blk_below bP HB4.out; have s0 := (blk_cell bP4 0).trans rfl; have s1 := (blk_cell bP4 1).trans rfl; clear hb4)
    have HL4 := Aside0.mk (HL.out.below (below_then HB0.out HB0.out.size HB4.out))
    have HR4 := Aside0.mk (HR.out.below (below_then HB0.out HB0.out.size HB4.out))
    have HLE4 := Aside0.mk (HLE.out.below (below_then HB0.out HB0.out.size HB4.out))
    have HMI4 := Aside0.mk (HMI.out.below (below_then HB0.out HB0.out.size HB4.out))
    have HRI4 := Aside0.mk (HRI.out.below (below_then HB0.out HB0.out.size HB4.out))
    have bR4 := blk_below bR HB4.out
    have HBw4 := Aside0.mk (below_then HB0.out HB0.out.size HB4.out)
    go_upto_region 4 with (first
      | (go_at_call 52; refine (xEach_any w4 mode hm w4.heap.size A0 C E D A1 c0 cc ce cd c1 l r a c b _ HOL.out HOR.out HOA.out.all HOC.out.all HOB.out.all (by omega) (by omega) (by omega) HB5.out (Nat.le_refl _) (Xw.of HV0.out) (Xw.of HV1.out) HNE5.out HB5.out.size HCE.out HCC.out HCD.out).mono ?_; rintro e w6 hout; obtain ⟨AL, cL, AR, cR, Ao, co, rfl, haft⟩ := span_after HPS.out hout HBw4.out HB5.out HV0.out HV1.out bR4; have HAF := Aside0.mk haft; clear hout haft)
      | (go_at_call 49; refine (spanCopy_any A B ca cb l r _ (by omega) (by omega) (fun x hx => isOk_big (HOL.out.all x hx)) (fun x hx => isOk_big (HOR.out.all x hx)) HL4.out HR4.out).mono ?_; rintro e w5 ⟨v0, v1, rfl, hv0, hv1, hne5, hb5⟩; obtain ⟨A0, c0, rfl⟩ := Kd.R_slice hv0; obtain ⟨A1, c1, rfl⟩ := Kd.R_slice hv1; have HV0 := Aside0.mk hv0; have HV1 := Aside0.mk hv1; have HNE5 := Aside0.mk hne5; have HB5 := Aside0.mk hb5; have HCE := Aside0.mk (span_mem HLE4.out hb5 hv0 hv1); have HCD := Aside0.mk (span_mem HMI4.out hb5 hv0 hv1); have HCC := Aside0.mk (span_mem HRI4.out hb5 hv0 hv1); clear hv0 hv1 hne5 hb5))
    have bX := blk_new w6 (.cells #[.slice AL p.a.length cL, .slice AR p.b.length cR] 25)
    have HB67 := below_alloc (Below.refl w6.heap.size w6) (.cells #[.slice AL p.a.length cL, .slice AR p.b.length cR] 25)
    generalize w6.alloc (.cells #[.slice AL p.a.length cL, .slice AR p.b.length cR] 25) = W7 at bX HB67 ⊢
    have H7 := Aside0.mk (HAF.out.below HB67)
    have x0 := (blk_cell bX 0).trans rfl
    have x1 := (blk_cell bX 1).trans rfl
    clear HB67
    go_wp2_with (first
      | (go_at_call 50; refine (list_any Ao co p.c _ HK.out.lc (fun x hx => isOk_big (HK.out.c.all x hx)) (H7.out.lc.below HB8.out)).mono ?_; rintro e w9 ⟨v9, rfl, hv9, hb9⟩; obtain ⟨A9, c9, rfl⟩ := Kd.R_slice hv9; have bR9 := blk_below H7.out.bR (below_then HB8.out HB8.out.size hb9); have r0 := (blk_cell bR9 0).trans rfl; have r1 := (blk_cell bR9 1).trans rfl; have f0 := blk_frozen bR9 0; have f1 := blk_frozen bR9 1; have HV9 := Aside0.mk hv9; have HV80 := Aside0.mk (Ra.Rw.below H80.out hb9); have HV81 := Aside0.mk (Ra.Rw.below H81.out hb9); have HB9 := Aside0.mk (below_then H7.out.bel H7.out.bel.size (below_then HB8.out HB8.out.size hb9)); clear hv9 hb9)
      | (go_at_call 49; refine (spanCopy_any AL AR cL cR p.a p.b _ HK.out.la HK.out.lb (fun x hx => isOk_big (HK.out.a.all x hx)) (fun x hx => isOk_big (HK.out.b.all x hx)) H7.out.la H7.out.lb).mono ?_; rintro e w8 ⟨v80, v81, rfl, h80, h81, -, hb8⟩; obtain ⟨A80, c80, rfl⟩ := Kd.R_slice h80; obtain ⟨A81, c81, rfl⟩ := Kd.R_slice h81; have H80 := Aside0.mk h80; have H81 := Aside0.mk h81; have HB8 := Aside0.mk hb8; clear h80 h81 hb8))
    refine bodyPost_ret (results_ct rfl _ _ (w.heap.size + 1) 25 #[.slice A80 p.a.length c80, .slice A81 p.b.length c81] (0, 0) _ rfl (Id.set2_blk _ _ bR9) Tryz.underlying25 rfl (by kernel_rfl)) rfl ?_
    rw [show spec3 true (each3 mode l r a b c) = p from HP.out.symm]
    exact ⟨A80, c80, A81, c81, A9, c9, rfl, (Ra.Rw.isL (RR.set2s HV80.out bR9 _ _)).2, (Ra.Rw.isL (RR.set2s HV81.out bR9 _ _)).2, (Ra.Rw.isL (RR.set2s HV9.out bR9 _ _)).2, Id.set2_below HB9.out (by omega) _ _⟩
end Go.Proofs.YtccenpmaooailaaGreat.Tl
