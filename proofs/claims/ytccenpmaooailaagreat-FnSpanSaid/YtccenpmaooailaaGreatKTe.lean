
/- SpanNot, SpanEach: the program's. -/
import Derived.Test.YtccenpmaooailaaGreatKB7
import Derived.Test.YtccenpmaooailaaGreatKB6
import Derived.Test.YtccenpmaooailaaGreatKTd
set_option linter.unusedVariables false
set_option linter.unusedSimpArgs false
namespace Go.Proofs.YtccenpmaooailaaGreat.Te
open Go.RowKit Go.Proofs.YtccenpmaooailaaGreatW.PrintWords Go.Proofs.YtccenpmaooailaaGreat.Wd Go.Proofs.YtccenpmaooailaaGreat.Pu Go.Proofs.YtccenpmaooailaaGreat.Pv Go.Proofs.YtccenpmaooailaaGreat.Ca Go.Proofs.YtccenpmaooailaaGreat.Cb Go.Proofs.YtccenpmaooailaaGreat.Cc Go.Proofs.YtccenpmaooailaaGreat.Cp Go.Proofs.YtccenpmaooailaaGreat.Cd Go.Proofs.YtccenpmaooailaaGreat.Ci Go.Proofs.YtccenpmaooailaaGreat.Ce Go.Proofs.YtccenpmaooailaaGreat.Cf Go.Proofs.YtccenpmaooailaaGreat.Cg Go.Proofs.YtccenpmaooailaaGreat.Sc Go.Proofs.YtccenpmaooailaaGreat.Se Go.Proofs.YtccenpmaooailaaGreat.Sh Go.Proofs.YtccenpmaooailaaGreat.Si Go.Proofs.YtccenpmaooailaaGreat.Sp Go.Proofs.YtccenpmaooailaaGreat.Ia Go.Proofs.YtccenpmaooailaaGreat.Ib Go.Proofs.YtccenpmaooailaaGreat.Ic Go.Proofs.YtccenpmaooailaaGreat.Id Go.Proofs.YtccenpmaooailaaGreat.Ie Go.Proofs.YtccenpmaooailaaGreat.If Go.Proofs.YtccenpmaooailaaGreat.Ig Go.Proofs.YtccenpmaooailaaGreat.Ih Go.Proofs.YtccenpmaooailaaGreat.Ij Go.Proofs.YtccenpmaooailaaGreat.Ik Go.Proofs.YtccenpmaooailaaGreat.Ra Go.Proofs.YtccenpmaooailaaGreat.Rb Go.Proofs.YtccenpmaooailaaGreat.Rc Go.Proofs.YtccenpmaooailaaGreat.Rd Go.Proofs.YtccenpmaooailaaGreat.Re Go.Proofs.YtccenpmaooailaaGreat.Sj Go.Proofs.YtccenpmaooailaaGreat.Ya Go.Proofs.YtccenpmaooailaaGreat.Yd Go.Proofs.YtccenpmaooailaaGreat.Yf Go.Proofs.YtccenpmaooailaaGreat.Yg Go.Proofs.YtccenpmaooailaaGreat.Ih Go.Proofs.YtccenpmaooailaaGreat.Yh Go.Proofs.YtccenpmaooailaaGreat.Yi Go.Proofs.YtccenpmaooailaaGreat.Sg Go.Proofs.YtccenpmaooailaaGreat.Sf Go.Proofs.YtccenpmaooailaaGreat.Yj Go.Proofs.YtccenpmaooailaaGreat.Ig Go.Proofs.YtccenpmaooailaaGreat.Yk Go.Proofs.YtccenpmaooailaaGreat.Ik Go.Proofs.YtccenpmaooailaaGreat.Yl Go.Proofs.YtccenpmaooailaaGreat.Ij Go.Proofs.YtccenpmaooailaaGreat.Ym Go.Proofs.YtccenpmaooailaaGreat.Il Go.Proofs.YtccenpmaooailaaGreat.Yn Go.Proofs.YtccenpmaooailaaGreat.Yo Go.Proofs.YtccenpmaooailaaGreat.In Go.Proofs.YtccenpmaooailaaGreat.Yq Go.Proofs.YtccenpmaooailaaGreat.Pw Go.Proofs.YtccenpmaooailaaGreat.Px Go.Proofs.YtccenpmaooailaaGreat.La Go.Proofs.YtccenpmaooailaaGreat.Db Go.Proofs.YtccenpmaooailaaGreat.Ta Go.Proofs.YtccenpmaooailaaGreat.Tb Go.Proofs.YtccenpmaooailaaGreat.Tc Go.Proofs.YtccenpmaooailaaGreat.Td Go.Proofs.YtccenpmaooailaaGreat.Sh Go.Proofs.YtccenpmaooailaaGreat.Id

theorem fits5_iff {mode : Int} {l r a b c : List Occ} : fits5 mode l r a b c = true ↔ (0 ≤ mode ∧ mode ≤ 4) ∧ (AreOk l ∧ l.length ≤ 40) ∧ (AreOk r ∧ r.length ≤ 40) ∧ (AreOk a ∧ a.length ≤ 40) ∧ (AreOk b ∧ b.length ≤ 40) ∧ (AreOk c ∧ c.length ≤ 40) := by
  unfold fits5 inb
  simp only [Bool.and_eq_true, decide_eq_true_eq, okOs_iff]
  constructor
  · rintro ⟨⟨⟨⟨h1, h2, h3⟩, h4⟩, h5⟩, h6⟩; exact ⟨h1, h2, h3, h4, h5, h6⟩
  · rintro ⟨h1, h2, h3, h4, h5, h6⟩; exact ⟨⟨⟨⟨h1, h2, h3⟩, h4⟩, h5⟩, h6⟩
theorem stepLen_fold {f : List Occ × List Occ → Occ → List Occ × List Occ} {a : Nat} (hf : ∀ st c o, SeqLen st a c → IsOk o → SeqLen (f st o) a (c + a)) : ∀ {right : List Occ} {st : List Occ × List Occ} {c : Nat}, SeqLen st a c → (∀ o ∈ right, IsOk o) → SeqLen (right.foldl f st) a (c + right.length * a)
  | [], st, c, h, _ => by simpa using h
  | o :: os, st, c, h, hr => by
    have := stepLen_fold hf (right := os) (hf st c o h (hr o (by simp))) (fun x hx => hr x (List.mem_cons_of_mem _ hx))
    rw [List.foldl_cons]
    refine ⟨this.ok1, this.ok2, this.own, ?_⟩
    have h2 := this.out
    rw [List.length_cons, Nat.add_mul, Nat.one_mul]
    omega
theorem not3_ok {mode : Int} (hm : 0 ≤ mode ∧ mode ≤ 4) {l m a b c : List Occ} (hl : AreOk l) (hr : AreOk m) (ha : AreOk a) (hb : AreOk b) (hc : AreOk c) (n1 : l.length + a.length ≤ 500) (n2 : m.length + b.length ≤ 500) (n3 : c.length ≤ 500) (n4 : l.length ≤ 500) : Ok3 (not3 mode l m a b c) := by
  have h3 := stepLen_fold (f := notStep mode m) (a := l.length) (fun _ _ _ h ho => notLen_step h ho) (right := c) (st := (l, [])) (c := 0) ⟨hl, AreOk.nil, Nat.le_refl _, Nat.le_refl _⟩ hc.all
  have h6 : c.length * l.length ≤ 500 * 500 := mul_le (by omega) (by omega)
  refine ⟨h3.ok1.putAll ha.all, hr.putAll hb.all, h3.ok2, ?_, ?_, ?_⟩
  · have h4 := Go.Proofs.YtccenpmaooailaaGreat.Pv.len_putAll1 (c.foldl (notStep mode m) (l, [])).1 a
    have h5 := h3.own
    show (putAll _ a).length ≤ _
    omega
  · have h4 := Go.Proofs.YtccenpmaooailaaGreat.Pv.len_putAll1 m b
    show (putAll m b).length ≤ _
    omega
  · have h5 := h3.out
    show (c.foldl (notStep mode m) (l, [])).2.length ≤ _
    omega
theorem each3_ok {mode : Int} (hm : 0 ≤ mode ∧ mode ≤ 4) {l m a b c : List Occ} (hl : AreOk l) (hr : AreOk m) (ha : AreOk a) (hb : AreOk b) (hc : AreOk c) (n1 : l.length + a.length ≤ 500) (n2 : m.length + c.length ≤ 500) (n3 : b.length ≤ 500) (n4 : l.length ≤ 500) : Ok3 (each3 mode l m a b c) := by
  have h3 := stepLen_fold (f := eStep mode m) (a := l.length) (fun _ _ _ h ho => eLen_step h ho) (right := b) (st := (l, [])) (c := 0) ⟨hl, AreOk.nil, Nat.le_refl _, Nat.le_refl _⟩ hb.all
  have h6 : b.length * l.length ≤ 500 * 500 := mul_le (by omega) (by omega)
  refine ⟨h3.ok1.putAll ha.all, hr.putAll hc.all, h3.ok2, ?_, ?_, ?_⟩
  · have h4 := Go.Proofs.YtccenpmaooailaaGreat.Pv.len_putAll1 (b.foldl (eStep mode m) (l, [])).1 a
    have h5 := h3.own
    show (putAll _ a).length ≤ _
    omega
  · have h4 := Go.Proofs.YtccenpmaooailaaGreat.Pv.len_putAll1 m c
    show (putAll m c).length ≤ _
    omega
  · have h5 := h3.out
    show (b.foldl (eStep mode m) (l, [])).2.length ≤ _
    omega

set_option maxHeartbeats 1000000 in
set_option maxRecDepth 100000 in
theorem spanClone_any (A B : Option Addr) (ca cb : Nat) (l r : List Occ) (w : World) (nl : l.length ≤ 1048576) (nr : r.length ≤ 1048576) (il : ∀ x ∈ l, x.f2.length ≤ 1048576) (ir : ∀ x ∈ r, x.f2.length ≤ 1048576) (hL : IsL w l A ca) (hR : IsL w r B cb) :
    Calls Tryz.prog 45 #[.agg #[.slice A l.length ca, .slice B r.length cb]] w fun e w' => CloneOut w w' l r e := by
  have hb0 : Below w.heap.size w ((w.alloc (.cells #[.slice A l.length ca, .slice B r.length cb] 25)).alloc (.cells #[.slice none 0 0, .slice none 0 0] 25)) := below_alloc (below_alloc (Below.refl _ _) _) _
  have bP := blk_alloc (blk_new w (.cells #[.slice A l.length ca, .slice B r.length cb] 25)) (.cells #[.slice none 0 0, .slice none 0 0] 25)
  have bR : ((w.alloc (.cells #[.slice A l.length ca, .slice B r.length cb] 25)).alloc (.cells #[.slice none 0 0, .slice none 0 0] 25)).heap[w.heap.size + 1]? = some (.cells #[.slice none 0 0, .slice none 0 0] 25 (0, 0)) := by
    have := blk_new (w.alloc (.cells #[.slice A l.length ca, .slice B r.length cb] 25)) (.cells #[.slice none 0 0, .slice none 0 0] 25)
    simpa using this
  go_enter Tryz.func45, Tryz.ntmps45
  go_upto_region 1 with fail
  go_wp2_with fail
  generalize (w.alloc (.cells #[.slice A l.length ca, .slice B r.length cb] 25)).alloc (.cells #[.slice none 0 0, .slice none 0 0] 25) = W at hb0 bP bR ⊢
  have HL := Aside0.mk (hL.below hb0)
  have HR := Aside0.mk (hR.below hb0)
  have HB := Aside0.mk hb0
  have F : ∀ w', Below W.heap.size W w' → w'.cell? ⟨w.heap.size, 0, none⟩ = some (.slice A l.length ca) ∧ w'.cell? ⟨w.heap.size, 1, none⟩ = some (.slice B r.length cb) :=
    fun w' h => ⟨pw_cell_below h ((blk_cell bP 0).trans rfl), pw_cell_below h ((blk_cell bP 1).trans rfl)⟩
  go_region_held3 (fun w' => w'.cell? ⟨w.heap.size, 0, none⟩ = some (.slice A l.length ca) ∧ w'.cell? ⟨w.heap.size, 1, none⟩ = some (.slice B r.length cb))
    (first | (with_reducible exact F _ (Below.refl _ _)) | (with_reducible exact F _ (below_drew (Below.refl _ _))) | (with_reducible exact F _ HB1) | (with_reducible exact F _ HB2) | (with_reducible exact ⟨s0 _ _, s1 _ _⟩))
    (first
      | (go_at_call 46; refine (cloneOccs_any B cb r _ nr ir (HR.out.below HB1)).mono ?_; rintro e w2 ⟨v1, rfl, hs2, hb2⟩; obtain ⟨A1, c1, rfl⟩ := Kd.S_slice hs2; have HT := Aside0.mk (SS.two hs1 hs2 hb2 HB1.size); have HB2 : Below W.heap.size W w2 := below_then HB1 HB1.size hb2; have bR2 := blk_below bR HB2; have r0 := (blk_cell bR2 0).trans rfl; have r1 := (blk_cell bR2 1).trans rfl; have f0 := blk_frozen bR2 0; have f1 := blk_frozen bR2 1; have bP2 := blk_below bP HB2; have s0 : ∀ u0 u1, ((w2.setCell ⟨w.heap.size + 1, 0, none⟩ u0).setCell ⟨w.heap.size + 1, 1, none⟩ u1).cell? ⟨w.heap.size, 0, none⟩ = some (.slice A l.length ca) := fun u0 u1 => (blk_cell (blk_far (blk_far bP2 (p := ⟨w.heap.size + 1, 0, none⟩) (by simp) u0) (p := ⟨w.heap.size + 1, 1, none⟩) (by simp) u1) 0).trans rfl; have s1 : ∀ u0 u1, ((w2.setCell ⟨w.heap.size + 1, 0, none⟩ u0).setCell ⟨w.heap.size + 1, 1, none⟩ u1).cell? ⟨w.heap.size, 1, none⟩ = some (.slice B r.length cb) := fun u0 u1 => (blk_cell (blk_far (blk_far bP2 (p := ⟨w.heap.size + 1, 0, none⟩) (by simp) u0) (p := ⟨w.heap.size + 1, 1, none⟩) (by simp) u1) 1).trans rfl)
      | (go_at_call 46; refine (cloneOccs_any A ca l _ nl il (HL.out.below HB1)).mono ?_; rintro e w2 ⟨v0, rfl, hs2, hb2⟩; obtain ⟨A0, c0, rfl⟩ := Kd.S_slice hs2; have HT := Aside0.mk (SS.two hs1 hs2 hb2 HB1.size).symm; have HB2 : Below W.heap.size W w2 := below_then HB1 HB1.size hb2; have bR2 := blk_below bR HB2; have r0 := (blk_cell bR2 0).trans rfl; have r1 := (blk_cell bR2 1).trans rfl; have f0 := blk_frozen bR2 0; have f1 := blk_frozen bR2 1; have bP2 := blk_below bP HB2; have s0 : ∀ u0 u1, ((w2.setCell ⟨w.heap.size + 1, 0, none⟩ u0).setCell ⟨w.heap.size + 1, 1, none⟩ u1).cell? ⟨w.heap.size, 0, none⟩ = some (.slice A l.length ca) := fun u0 u1 => (blk_cell (blk_far (blk_far bP2 (p := ⟨w.heap.size + 1, 0, none⟩) (by simp) u0) (p := ⟨w.heap.size + 1, 1, none⟩) (by simp) u1) 0).trans rfl; have s1 : ∀ u0 u1, ((w2.setCell ⟨w.heap.size + 1, 0, none⟩ u0).setCell ⟨w.heap.size + 1, 1, none⟩ u1).cell? ⟨w.heap.size, 1, none⟩ = some (.slice B r.length cb) := fun u0 u1 => (blk_cell (blk_far (blk_far bP2 (p := ⟨w.heap.size + 1, 0, none⟩) (by simp) u0) (p := ⟨w.heap.size + 1, 1, none⟩) (by simp) u1) 1).trans rfl)
      | (go_at_call 46; refine (cloneOccs_any A ca l _ nl il (HL.out.below (below_drew (Below.refl _ _)))).mono ?_; rintro e w1 ⟨v0, rfl, hs1, hb1⟩; obtain ⟨A0, c0, rfl⟩ := Kd.S_slice hs1; have HB1 : Below W.heap.size W w1 := keepD hb1)
      | (go_at_call 46; refine (cloneOccs_any B cb r _ nr ir (HR.out.below (below_drew (Below.refl _ _)))).mono ?_; rintro e w1 ⟨v1, rfl, hs1, hb1⟩; obtain ⟨A1, c1, rfl⟩ := Kd.S_slice hs1; have HB1 : Below W.heap.size W w1 := keepD hb1))
  all_goals
    go_wp2
    refine bodyPost_ret (results_cell_row rfl _ _ (w.heap.size + 1) 25 #[.slice A0 l.length c0, .slice A1 r.length c1] (0, 0) _ rfl (set2_blk _ _ bR2) Tryz.underlying25 rfl (by kernel_rfl)) rfl ?_
    exact ⟨_, _, rfl, Kd.S_lower (SS.set2 HT.out.1 bR2 (by decide) _ _) HB.out.size, Kd.S_lower (SS.set2 HT.out.2 bR2 (by decide) _ _) HB.out.size, set2_below (below_then HB.out HB.out.size HB2) (by omega) _ _⟩
set_option maxHeartbeats 2000000 in
set_option maxRecDepth 100000 in
theorem spanNot_any (mode : Int) (A B C D E : Option Addr) (ca cb cc cd ce : Nat) (l r a b c : List Occ) (w : World) (hL : IsL w l A ca) (hR : IsL w r B cb) (hE : IsL w a C cc) (hI : IsL w b D cd) (hK5 : IsL w c E ce) :
    Calls Tryz.prog 11 #[.int .i64 mode, .agg #[.slice A l.length ca, .slice B r.length cb], .slice C a.length cc, .slice D b.length cd, .slice E c.length ce] w fun e w' => Out3 w w' (if fits5 mode l r a b c then not3 mode l r a b c else ⟨[], [], []⟩) e := by
  have hb0 : Below w.heap.size w ((w.alloc (.cells #[.slice A l.length ca, .slice B r.length cb] 25)).alloc (.cells #[.slice none 0 0, .slice none 0 0] 25)) := below_alloc (below_alloc (Below.refl _ _) _) _
  have bP := blk_alloc (blk_new w (.cells #[.slice A l.length ca, .slice B r.length cb] 25)) (.cells #[.slice none 0 0, .slice none 0 0] 25)
  have bR : ((w.alloc (.cells #[.slice A l.length ca, .slice B r.length cb] 25)).alloc (.cells #[.slice none 0 0, .slice none 0 0] 25)).heap[w.heap.size + 1]? = some (.cells #[.slice none 0 0, .slice none 0 0] 25 (0, 0)) := by
    have := blk_new (w.alloc (.cells #[.slice A l.length ca, .slice B r.length cb] 25)) (.cells #[.slice none 0 0, .slice none 0 0] 25)
    simpa using this
  have hf := spanFits_any mode A B C D E ca cb cc cd ce l r a b c _ (hL.below hb0) (hR.below hb0) (hE.below hb0) (hI.below hb0) (hK5.below hb0)
  have HB0 := Aside0.mk hb0
  cases hq : fits5 mode l r a b c with
  | false =>
    rw [hq] at hf
    clear hq
    go_enter Tryz.func11, Tryz.ntmps11
    go_wp2_with (go_at_call 43; refine hf.mono ?_; rintro e w2 ⟨rfl, hb2⟩; have bR2 := blk_below bR hb2; have r0 := (blk_cell bR2 0).trans rfl; have r1 := (blk_cell bR2 1).trans rfl; have f0 := blk_frozen bR2 0; have f1 := blk_frozen bR2 1; have HB2 := Aside0.mk (below_then HB0.out HB0.out.size hb2); clear hb2)
    refine bodyPost_ret (results_ct rfl _ _ (w.heap.size + 1) 25 #[.slice none 0 0, .slice none 0 0] (0, 0) _ rfl (set2_blk _ _ bR2) Tryz.underlying25 rfl (by kernel_rfl)) rfl ?_
    exact ⟨_, _, _, rfl, Kd.S_nil _ _ _ _ _, Kd.S_nil _ _ _ _ _, Kd.S_nil _ _ _ _ _, set2_below HB2.out (by omega) _ _⟩
  | true =>
    rw [hq] at hf
    obtain ⟨hm, ⟨hl, nl⟩, ⟨hr, nr⟩, ⟨ha, na⟩, ⟨hb, nb⟩, ⟨hcc, ncc⟩⟩ := fits5_iff.1 hq
    clear hq
    have HK := Aside0.mk (not3_ok hm hl hr ha hb hcc (by omega) (by omega) (by omega) (by omega))
    have hcall := fun (w2 : World) (h : Below w.heap.size w w2) => not_any mode hm A B C D E ca cb cc cd ce l r a b c w2 hl hr ha.all hcc.all (by omega) (by omega) (by omega) (hL.below h) (hR.below h) (hE.below h) (hI.below h) (hK5.below h)
    have HCALL := Aside0.mk hcall
    clear hcall hl hr ha hb hcc
    go_enter Tryz.func11, Tryz.ntmps11
    go_wp2_with (first
      | (go_at_call 46; refine (cloneOccs_any Ao co (not3 mode l r a b c).c _ HK.out.lc (fun x hx => isOk_big (HK.out.c.all x hx)) (HLo.out.below HB4.out)).mono ?_; rintro e w5 ⟨v2, rfl, hs5, hb5⟩; obtain ⟨A2, c2, rfl⟩ := Kd.S_slice hs5; have bR5 := blk_below bR4 hb5; have r0 := (blk_cell bR5 0).trans rfl; have r1 := (blk_cell bR5 1).trans rfl; have f0 := blk_frozen bR5 0; have f1 := blk_frozen bR5 1; have HT := Aside0.mk (SS.three HT4.out.1 HT4.out.2 hs5 hb5 HB4.out.size); have HB5 := Aside0.mk (below_then HB4.out HB4.out.size hb5); clear hs5 hb5)
      | (go_at_call 45; refine (spanClone_any Al Ar cl cr (not3 mode l r a b c).a (not3 mode l r a b c).b _ HK.out.la HK.out.lb (fun x hx => isOk_big (HK.out.a.all x hx)) (fun x hx => isOk_big (HK.out.b.all x hx)) (HLl.out.below (below_alloc (Below.refl _ _) _)) (HLr.out.below (below_alloc (Below.refl _ _) _))).mono ?_; rintro e w4 ⟨v0, v1, rfl, hs0, hs1, hb4⟩; obtain ⟨A0, c0, rfl⟩ := Kd.S_slice hs0; obtain ⟨A1, c1, rfl⟩ := Kd.S_slice hs1; have bR4 := blk_below (blk_alloc bR3 _) hb4; have hB4 : Below w3.heap.size w3 w4 := below_then (below_alloc (Below.refl _ _) _) (by simp) hb4; have HB4 := Aside0.mk hB4; have HT4 := Aside0.mk (And.intro (Kd.S_lower (base' := w3.heap.size) hs0 (by simp)) (Kd.S_lower (base' := w3.heap.size) hs1 (by simp))); clear hs0 hs1 hb4 hB4)
      | (go_at_call 44; refine (HCALL.out _ HB2.out).mono ?_; rintro e w3 ⟨Al, cl, Ar, cr, Ao, co, rfl, hl3, hr3, ho3, hb3⟩; have bR3 := blk_below bR2 hb3; have hB3 := blk_lt bR3; have HLl := Aside0.mk (show IsL w3 (not3 mode l r a b c).a Al cl from hl3); have HLr := Aside0.mk (show IsL w3 (not3 mode l r a b c).b Ar cr from hr3); have HLo := Aside0.mk (show IsL w3 (not3 mode l r a b c).c Ao co from ho3); have HB3 := Aside0.mk (below_then HB2.out HB2.out.size hb3); clear hl3 hr3 ho3 hb3)
      | (go_at_call 43; refine hf.mono ?_; rintro e w2 ⟨rfl, hb2⟩; have bP2 := blk_below bP hb2; have p0 := (blk_cell bP2 0).trans rfl; have p1 := (blk_cell bP2 1).trans rfl; have bR2 := blk_below bR hb2; have HB2 := Aside0.mk (below_then HB0.out HB0.out.size hb2); clear hb2))
    refine bodyPost_ret (results_ct rfl _ _ (w.heap.size + 1) 25 #[.slice A0 (not3 mode l r a b c).a.length c0, .slice A1 (not3 mode l r a b c).b.length c1] (0, 0) _ rfl (set2_blk _ _ bR5) Tryz.underlying25 rfl (by kernel_rfl)) rfl ?_
    have hle : w.heap.size ≤ w3.heap.size := HB3.out.size
    exact ⟨_, _, _, rfl, Kd.S_lower (SS.set2 HT.out.1 bR5 (by decide) _ _) hle, Kd.S_lower (SS.set2 HT.out.2.1 bR5 (by decide) _ _) hle, Kd.S_lower (SS.set2 HT.out.2.2 bR5 (by decide) _ _) hle, set2_below (below_then HB3.out hle HB5.out) (by omega) _ _⟩
set_option maxHeartbeats 2000000 in
set_option maxRecDepth 100000 in
theorem spanEach_any (mode : Int) (A B C D E : Option Addr) (ca cb cc cd ce : Nat) (l r a b c : List Occ) (w : World) (hL : IsL w l A ca) (hR : IsL w r B cb) (hE : IsL w a C cc) (hI : IsL w b D cd) (hK5 : IsL w c E ce) :
    Calls Tryz.prog 13 #[.int .i64 mode, .agg #[.slice A l.length ca, .slice B r.length cb], .slice C a.length cc, .slice D b.length cd, .slice E c.length ce] w fun e w' => Out3 w w' (if fits5 mode l r a b c then each3 mode l r a b c else ⟨[], [], []⟩) e := by
  have hb0 : Below w.heap.size w ((w.alloc (.cells #[.slice A l.length ca, .slice B r.length cb] 25)).alloc (.cells #[.slice none 0 0, .slice none 0 0] 25)) := below_alloc (below_alloc (Below.refl _ _) _) _
  have bP := blk_alloc (blk_new w (.cells #[.slice A l.length ca, .slice B r.length cb] 25)) (.cells #[.slice none 0 0, .slice none 0 0] 25)
  have bR : ((w.alloc (.cells #[.slice A l.length ca, .slice B r.length cb] 25)).alloc (.cells #[.slice none 0 0, .slice none 0 0] 25)).heap[w.heap.size + 1]? = some (.cells #[.slice none 0 0, .slice none 0 0] 25 (0, 0)) := by
    have := blk_new (w.alloc (.cells #[.slice A l.length ca, .slice B r.length cb] 25)) (.cells #[.slice none 0 0, .slice none 0 0] 25)
    simpa using this
  have hf := spanFits_any mode A B C D E ca cb cc cd ce l r a b c _ (hL.below hb0) (hR.below hb0) (hE.below hb0) (hI.below hb0) (hK5.below hb0)
  have HB0 := Aside0.mk hb0
  cases hq : fits5 mode l r a b c with
  | false =>
    rw [hq] at hf
    clear hq
    go_enter Tryz.func13, Tryz.ntmps13
    go_wp2_with (go_at_call 43; refine hf.mono ?_; rintro e w2 ⟨rfl, hb2⟩; have bR2 := blk_below bR hb2; have r0 := (blk_cell bR2 0).trans rfl; have r1 := (blk_cell bR2 1).trans rfl; have f0 := blk_frozen bR2 0; have f1 := blk_frozen bR2 1; have HB2 := Aside0.mk (below_then HB0.out HB0.out.size hb2); clear hb2)
    refine bodyPost_ret (results_ct rfl _ _ (w.heap.size + 1) 25 #[.slice none 0 0, .slice none 0 0] (0, 0) _ rfl (set2_blk _ _ bR2) Tryz.underlying25 rfl (by kernel_rfl)) rfl ?_
    exact ⟨_, _, _, rfl, Kd.S_nil _ _ _ _ _, Kd.S_nil _ _ _ _ _, Kd.S_nil _ _ _ _ _, set2_below HB2.out (by omega) _ _⟩
  | true =>
    rw [hq] at hf
    obtain ⟨hm, ⟨hl, nl⟩, ⟨hr, nr⟩, ⟨ha, na⟩, ⟨hb, nb⟩, ⟨hcc, ncc⟩⟩ := fits5_iff.1 hq
    clear hq
    have HK := Aside0.mk (each3_ok hm hl hr ha hb hcc (by omega) (by omega) (by omega) (by omega))
    have hcall := fun (w2 : World) (h : Below w.heap.size w w2) => each_any mode hm A B C D E ca cb cc cd ce l r a c b w2 hl hr ha.all hb.all (by omega) (by omega) (by omega) (hL.below h) (hR.below h) (hE.below h) (hK5.below h) (hI.below h)
    have HCALL := Aside0.mk hcall
    clear hcall hl hr ha hb hcc
    go_enter Tryz.func13, Tryz.ntmps13
    go_wp2_with (first
      | (go_at_call 46; refine (cloneOccs_any Ao co (each3 mode l r a b c).c _ HK.out.lc (fun x hx => isOk_big (HK.out.c.all x hx)) (HLo.out.below HB4.out)).mono ?_; rintro e w5 ⟨v2, rfl, hs5, hb5⟩; obtain ⟨A2, c2, rfl⟩ := Kd.S_slice hs5; have bR5 := blk_below bR4 hb5; have r0 := (blk_cell bR5 0).trans rfl; have r1 := (blk_cell bR5 1).trans rfl; have f0 := blk_frozen bR5 0; have f1 := blk_frozen bR5 1; have HT := Aside0.mk (SS.three HT4.out.1 HT4.out.2 hs5 hb5 HB4.out.size); have HB5 := Aside0.mk (below_then HB4.out HB4.out.size hb5); clear hs5 hb5)
      | (go_at_call 45; refine (spanClone_any Al Ar cl cr (each3 mode l r a b c).a (each3 mode l r a b c).b _ HK.out.la HK.out.lb (fun x hx => isOk_big (HK.out.a.all x hx)) (fun x hx => isOk_big (HK.out.b.all x hx)) (HLl.out.below (below_alloc (Below.refl _ _) _)) (HLr.out.below (below_alloc (Below.refl _ _) _))).mono ?_; rintro e w4 ⟨v0, v1, rfl, hs0, hs1, hb4⟩; obtain ⟨A0, c0, rfl⟩ := Kd.S_slice hs0; obtain ⟨A1, c1, rfl⟩ := Kd.S_slice hs1; have bR4 := blk_below (blk_alloc bR3 _) hb4; have hB4 : Below w3.heap.size w3 w4 := below_then (below_alloc (Below.refl _ _) _) (by simp) hb4; have HB4 := Aside0.mk hB4; have HT4 := Aside0.mk (And.intro (Kd.S_lower (base' := w3.heap.size) hs0 (by simp)) (Kd.S_lower (base' := w3.heap.size) hs1 (by simp))); clear hs0 hs1 hb4 hB4)
      | (go_at_call 51; refine (HCALL.out _ HB2.out).mono ?_; rintro e w3 ⟨Al, cl, Ar, cr, Ao, co, rfl, hl3, hr3, ho3, hb3⟩; have bR3 := blk_below bR2 hb3; have hB3 := blk_lt bR3; have HLl := Aside0.mk (show IsL w3 (each3 mode l r a b c).a Al cl from hl3); have HLr := Aside0.mk (show IsL w3 (each3 mode l r a b c).b Ar cr from hr3); have HLo := Aside0.mk (show IsL w3 (each3 mode l r a b c).c Ao co from ho3); have HB3 := Aside0.mk (below_then HB2.out HB2.out.size hb3); clear hl3 hr3 ho3 hb3)
      | (go_at_call 43; refine hf.mono ?_; rintro e w2 ⟨rfl, hb2⟩; have bP2 := blk_below bP hb2; have p0 := (blk_cell bP2 0).trans rfl; have p1 := (blk_cell bP2 1).trans rfl; have bR2 := blk_below bR hb2; have HB2 := Aside0.mk (below_then HB0.out HB0.out.size hb2); clear hb2))
    refine bodyPost_ret (results_ct rfl _ _ (w.heap.size + 1) 25 #[.slice A0 (each3 mode l r a b c).a.length c0, .slice A1 (each3 mode l r a b c).b.length c1] (0, 0) _ rfl (set2_blk _ _ bR5) Tryz.underlying25 rfl (by kernel_rfl)) rfl ?_
    have hle : w.heap.size ≤ w3.heap.size := HB3.out.size
    exact ⟨_, _, _, rfl, Kd.S_lower (SS.set2 HT.out.1 bR5 (by decide) _ _) hle, Kd.S_lower (SS.set2 HT.out.2.1 bR5 (by decide) _ _) hle, Kd.S_lower (SS.set2 HT.out.2.2 bR5 (by decide) _ _) hle, set2_below (below_then HB3.out hle HB5.out) (by omega) _ _⟩
end Go.Proofs.YtccenpmaooailaaGreat.Te
