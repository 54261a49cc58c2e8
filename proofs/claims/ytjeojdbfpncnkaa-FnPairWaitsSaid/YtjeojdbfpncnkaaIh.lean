/- PairSeq, PairAnd: the program's. -/
import Derived.Test.YtjeojdbfpncnkaaIg
set_option linter.unusedVariables false
set_option linter.unusedSimpArgs false
namespace Go.Proofs.Ytjeojdbfpncnkaa.Ih
open Go.RowKit Go.Proofs.YtjeojdbfpncnkaaW.PrintWords Go.Proofs.Ytjeojdbfpncnkaa.Wd Go.Proofs.Ytjeojdbfpncnkaa.Pu Go.Proofs.Ytjeojdbfpncnkaa.Pv Go.Proofs.Ytjeojdbfpncnkaa.Ca Go.Proofs.Ytjeojdbfpncnkaa.Cb Go.Proofs.Ytjeojdbfpncnkaa.Cc Go.Proofs.Ytjeojdbfpncnkaa.Cp Go.Proofs.Ytjeojdbfpncnkaa.Cd Go.Proofs.Ytjeojdbfpncnkaa.Ci Go.Proofs.Ytjeojdbfpncnkaa.Ce Go.Proofs.Ytjeojdbfpncnkaa.Cf Go.Proofs.Ytjeojdbfpncnkaa.Cg Go.Proofs.Ytjeojdbfpncnkaa.Ia Go.Proofs.Ytjeojdbfpncnkaa.Ib Go.Proofs.Ytjeojdbfpncnkaa.Ic Go.Proofs.Ytjeojdbfpncnkaa.Id Go.Proofs.Ytjeojdbfpncnkaa.Ie Go.Proofs.Ytjeojdbfpncnkaa.If Go.Proofs.Ytjeojdbfpncnkaa.Ig

theorem seqLen_fold {mode : Int} {a : Nat} : ∀ {right : List Occ} {st : List Occ × List Occ} {c : Nat}, SeqLen st a c → (∀ o ∈ right, IsOk o) → SeqLen (right.foldl (seqStep mode) st) a (c + right.length * a)
  | [], st, c, h, _ => by simpa using h
  | o :: os, st, c, h, hr => by
    have := seqLen_fold (mode := mode) (right := os) (seqLen_step (mode := mode) h (hr o (by simp))) (fun x hx => hr x (List.mem_cons_of_mem _ hx))
    rw [List.foldl_cons]
    refine ⟨this.ok1, this.ok2, this.own, ?_⟩
    have h2 := this.out
    rw [List.length_cons, Nat.add_mul, Nat.one_mul]
    omega
theorem andLen_fold {mode : Int} : ∀ {right : List Occ} {st : Sides} {a b c : Nat}, AndLen st a b c → (∀ o ∈ right, IsOk o) → AndLen (right.foldl (andStep mode) st) (a + right.length) b (c + right.length * b)
  | [], st, a, b, c, h, _ => by simpa using h
  | o :: os, st, a, b, c, h, hr => by
    have := andLen_fold (mode := mode) (right := os) (andLen_step (mode := mode) h (hr o (by simp))) (fun x hx => hr x (List.mem_cons_of_mem _ hx))
    rw [List.foldl_cons]
    refine ⟨this.ok, ?_, this.oth, ?_⟩
    · have := this.own; rw [List.length_cons]; omega
    · have h2 := this.out
      rw [List.length_cons, Nat.add_mul, Nat.one_mul]
      omega
/-- what a pair comes to at one time: its two lists, what is found -/
structure P3 where
  a : List Occ
  b : List Occ
  c : List Occ
def seq3 (mode : Int) (l r left right : List Occ) : P3 := ⟨(seqI mode l left right).1, r, (seqI mode l left right).2⟩
def and3 (mode : Int) (l r left right : List Occ) : P3 := ⟨(andI mode l r left right).own, (andI mode l r left right).oth, (andI mode l r left right).out⟩
structure Ok3 (p : P3) : Prop where
  a : AreOk p.a
  b : AreOk p.b
  c : AreOk p.c
  la : p.a.length ≤ 1048576
  lb : p.b.length ≤ 1048576
  lc : p.c.length ≤ 1048576
theorem mul_le {a b c d : Nat} (h : a ≤ c) (h2 : b ≤ d) : a * b ≤ c * d := Nat.mul_le_mul h h2
theorem seq3_ok {mode : Int} (hm : 0 ≤ mode ∧ mode ≤ 4) {l r left right : List Occ} (hl : AreOk l) (hr : AreOk r) (ha : AreOk left) (hb : AreOk right) (n1 : l.length + left.length ≤ 500) (n2 : r.length + right.length ≤ 500) : Ok3 (seq3 mode l r left right) := by
  obtain ⟨h1, h2⟩ := seqI_ok hm hl ha.all hb.all
  have h3 := seqLen_fold (mode := mode) (a := l.length) (right := right) (st := (l, [])) (c := 0) ⟨hl, AreOk.nil, Nat.le_refl _, Nat.le_refl _⟩ hb.all
  refine ⟨h1, hr, h2, ?_, by show r.length ≤ _; omega, ?_⟩
  · have h4 := len_putAll1 (right.foldl (seqStep mode) (l, [])).1 left
    have h5 := h3.own
    show (putAll _ left).length ≤ _
    omega
  · have h5 := h3.out
    have h6 : right.length * l.length ≤ 500 * 500 := mul_le (by omega) (by omega)
    show (right.foldl (seqStep mode) (l, [])).2.length ≤ _
    omega
theorem and3_ok {mode : Int} (hm : 0 ≤ mode ∧ mode ≤ 4) {l r left right : List Occ} (hl : AreOk l) (hr : AreOk r) (ha : AreOk left) (hb : AreOk right) (n1 : l.length + left.length ≤ 500) (n2 : r.length + right.length ≤ 500) : Ok3 (and3 mode l r left right) := by
  obtain ⟨_, h1⟩ := andI_eq hm hl hr ha.all hb.all
  have h3 := andLen_fold (mode := mode) (right := left) (st := ⟨l, r, []⟩) (a := l.length) (b := r.length) (c := 0) ⟨⟨hl, hr, AreOk.nil⟩, Nat.le_refl _, Nat.le_refl _, Nat.le_refl _⟩ ha.all
  have h4 := andLen_fold (mode := mode) (right := right) (andLen_flip h3) hb.all
  have h5 : left.length * r.length ≤ 500 * 500 := mul_le (by omega) (by omega)
  have h6 : right.length * (l.length + left.length) ≤ 500 * 500 := mul_le (by omega) (by omega)
  refine ⟨h1.own, h1.oth, h1.out, ?_, ?_, ?_⟩
  · have := h4.oth
    show (right.foldl (andStep mode) (flip (left.foldl (andStep mode) ⟨l, r, []⟩))).oth.length ≤ _
    omega
  · have := h4.own
    show (right.foldl (andStep mode) (flip (left.foldl (andStep mode) ⟨l, r, []⟩))).own.length ≤ _
    omega
  · have := h4.out
    show (right.foldl (andStep mode) (flip (left.foldl (andStep mode) ⟨l, r, []⟩))).out.length ≤ _
    omega
theorem fits_iff {mode : Int} {l r a b : List Occ} : fits mode l r a b = true ↔ (0 ≤ mode ∧ mode ≤ 4) ∧ (AreOk l ∧ l.length ≤ 40) ∧ (AreOk r ∧ r.length ≤ 40) ∧ (AreOk a ∧ a.length ≤ 40) ∧ (AreOk b ∧ b.length ≤ 40) := by
  unfold fits inb
  simp only [Bool.and_eq_true, decide_eq_true_eq, okOs_iff]
  constructor
  · rintro ⟨⟨⟨h1, h2, h3⟩, h4⟩, h5⟩; exact ⟨h1, h2, h3, h4, h5⟩
  · rintro ⟨h1, h2, h3, h4, h5⟩; exact ⟨⟨⟨h1, h2, h3⟩, h4⟩, h5⟩
def Out3 (w w' : World) (p : P3) (e : Ending) : Prop := ∃ v0 v1 v2, e = .returned (.tuple #[.agg #[v0, v1], v2]) ∧
  SS w' w.heap.size (fun k_ => some k_ ≠ (v1 : Value).ownBlock ∧ some k_ ≠ (v2 : Value).ownBlock) v0 p.a ∧ SS w' w.heap.size (fun k_ => some k_ ≠ (v0 : Value).ownBlock ∧ some k_ ≠ (v2 : Value).ownBlock) v1 p.b ∧
  SS w' w.heap.size (fun k_ => some k_ ≠ (v0 : Value).ownBlock ∧ some k_ ≠ (v1 : Value).ownBlock) v2 p.c ∧ Below w.heap.size w w'
theorem SS.three {w1 w2 : World} {v0 v1 v2 : Value} {a b c : List Occ} {B : Nat} (h0 : SS w1 B (ne1 v1) v0 a) (h1 : SS w1 B (ne1 v0) v1 b) (h2 : SS w2 w1.heap.size (fun _ => True) v2 c) (hb : Below w1.heap.size w1 w2) (hB : B ≤ w1.heap.size) :
    SS w2 B (fun k_ => some k_ ≠ (v1 : Value).ownBlock ∧ some k_ ≠ (v2 : Value).ownBlock) v0 a ∧ SS w2 B (fun k_ => some k_ ≠ (v0 : Value).ownBlock ∧ some k_ ≠ (v2 : Value).ownBlock) v1 b ∧ SS w2 B (fun k_ => some k_ ≠ (v0 : Value).ownBlock ∧ some k_ ≠ (v1 : Value).ownBlock) v2 c := by
  refine ⟨Kd.S_elder' h0 (Kd.S_base h2) hb, Kd.S_elder' h1 (Kd.S_base h2) hb, ?_⟩
  have e0 := Kd.S_new' h2 (Kd.S_lt h0)
  have e1 := Kd.S_new' e0 (Kd.S_lt h1)
  exact Kd.S_lower (Kd.S_mono e1 (fun _ hk => ⟨hk.1.2, hk.2⟩)) hB

set_option maxHeartbeats 2000000 in
set_option maxRecDepth 100000 in
theorem pairAnd_any (mode : Int) (A B C D : Option Addr) (ca cb cc cd : Nat) (l r a b : List Occ) (w : World) (hL : IsL w l A ca) (hR : IsL w r B cb) (hE : IsL w a C cc) (hI : IsL w b D cd) :
    Calls Try.prog 17 #[.int .i64 mode, .agg #[.slice A l.length ca, .slice B r.length cb], .slice C a.length cc, .slice D b.length cd] w fun e w' => Out3 w w' (if fits mode l r a b then and3 mode l r a b else ⟨[], [], []⟩) e := by
  have hb0 : Below w.heap.size w ((w.alloc (.cells #[.slice A l.length ca, .slice B r.length cb] 35)).alloc (.cells #[.slice none 0 0, .slice none 0 0] 35)) := below_alloc (below_alloc (Below.refl _ _) _) _
  have bP := blk_alloc (blk_new w (.cells #[.slice A l.length ca, .slice B r.length cb] 35)) (.cells #[.slice none 0 0, .slice none 0 0] 35)
  have bR : ((w.alloc (.cells #[.slice A l.length ca, .slice B r.length cb] 35)).alloc (.cells #[.slice none 0 0, .slice none 0 0] 35)).heap[w.heap.size + 1]? = some (.cells #[.slice none 0 0, .slice none 0 0] 35 (0, 0)) := by
    have := blk_new (w.alloc (.cells #[.slice A l.length ca, .slice B r.length cb] 35)) (.cells #[.slice none 0 0, .slice none 0 0] 35)
    simpa using this
  have hf := pairFits_any mode A B C D ca cb cc cd l r a b _ (hL.below hb0) (hR.below hb0) (hE.below hb0) (hI.below hb0)
  have HB0 := Aside0.mk hb0
  cases hq : fits mode l r a b with
  | false =>
    rw [hq] at hf
    clear hq
    go_enter Try.func17, Try.ntmps17
    go_wp2_with (go_at_call 44; refine hf.mono ?_; rintro e w2 ⟨rfl, hb2⟩; have bR2 := blk_below bR hb2; have r0 := (blk_cell bR2 0).trans rfl; have r1 := (blk_cell bR2 1).trans rfl; have f0 := blk_frozen bR2 0; have f1 := blk_frozen bR2 1; have HB2 := Aside0.mk (below_then HB0.out HB0.out.size hb2); clear hb2)
    refine bodyPost_ret (results_ct rfl _ _ (w.heap.size + 1) 35 #[.slice none 0 0, .slice none 0 0] (0, 0) _ rfl (set2_blk _ _ bR2) Try.underlying35 rfl (by kernel_rfl)) rfl ?_
    exact ⟨_, _, _, rfl, Kd.S_nil _ _ _ _ _, Kd.S_nil _ _ _ _ _, Kd.S_nil _ _ _ _ _, set2_below HB2.out (by omega) _ _⟩
  | true =>
    rw [hq] at hf
    obtain ⟨hm, ⟨hl, nl⟩, ⟨hr, nr⟩, ⟨ha, na⟩, ⟨hb, nb⟩⟩ := fits_iff.1 hq
    clear hq
    have HK := Aside0.mk (and3_ok hm hl hr ha hb (by omega) (by omega))
    have hcall := fun (w2 : World) (h : Below w.heap.size w w2) => and_any mode hm A B C D ca cb cc cd l r a b w2 hl hr ha.all hb.all (by omega) (by omega) (hL.below h) (hR.below h) (hE.below h) (hI.below h)
    have HCALL := Aside0.mk hcall
    clear hcall hl hr ha hb
    go_enter Try.func17, Try.ntmps17
    go_wp2_with (first
      | (go_at_call 41; refine (cloneOccs_any Ao co (and3 mode l r a b).c _ HK.out.lc (fun x hx => isOk_big (HK.out.c.all x hx)) (HLo.out.below HB4.out)).mono ?_; rintro e w5 ⟨v2, rfl, hs5, hb5⟩; obtain ⟨A2, c2, rfl⟩ := Kd.S_slice hs5; have bR5 := blk_below bR4 hb5; have r0 := (blk_cell bR5 0).trans rfl; have r1 := (blk_cell bR5 1).trans rfl; have f0 := blk_frozen bR5 0; have f1 := blk_frozen bR5 1; have HT := Aside0.mk (SS.three HT4.out.1 HT4.out.2 hs5 hb5 HB4.out.size); have HB5 := Aside0.mk (below_then HB4.out HB4.out.size hb5); clear hs5 hb5)
      | (go_at_call 46; refine (pairClone_any Al Ar cl cr (and3 mode l r a b).a (and3 mode l r a b).b _ HK.out.la HK.out.lb (fun x hx => isOk_big (HK.out.a.all x hx)) (fun x hx => isOk_big (HK.out.b.all x hx)) (HLl.out.below (below_alloc (Below.refl _ _) _)) (HLr.out.below (below_alloc (Below.refl _ _) _))).mono ?_; rintro e w4 ⟨v0, v1, rfl, hs0, hs1, hb4⟩; obtain ⟨A0, c0, rfl⟩ := Kd.S_slice hs0; obtain ⟨A1, c1, rfl⟩ := Kd.S_slice hs1; have bR4 := blk_below (blk_alloc bR3 _) hb4; have hB4 : Below w3.heap.size w3 w4 := below_then (below_alloc (Below.refl _ _) _) (by simp) hb4; have HB4 := Aside0.mk hB4; have HT4 := Aside0.mk (And.intro (Kd.S_lower (base' := w3.heap.size) hs0 (by simp)) (Kd.S_lower (base' := w3.heap.size) hs1 (by simp))); clear hs0 hs1 hb4 hB4)
      | (go_at_call 45; refine (HCALL.out _ HB2.out).mono ?_; rintro e w3 ⟨Al, cl, Ar, cr, Ao, co, rfl, hl3, hr3, ho3, hb3⟩; have bR3 := blk_below bR2 hb3; have hB3 := blk_lt bR3; have HLl := Aside0.mk (show IsL w3 (and3 mode l r a b).a Al cl from hl3); have HLr := Aside0.mk (show IsL w3 (and3 mode l r a b).b Ar cr from hr3); have HLo := Aside0.mk (show IsL w3 (and3 mode l r a b).c Ao co from ho3); have HB3 := Aside0.mk (below_then HB2.out HB2.out.size hb3); clear hl3 hr3 ho3 hb3)
      | (go_at_call 44; refine hf.mono ?_; rintro e w2 ⟨rfl, hb2⟩; have bP2 := blk_below bP hb2; have p0 := (blk_cell bP2 0).trans rfl; have p1 := (blk_cell bP2 1).trans rfl; have bR2 := blk_below bR hb2; have HB2 := Aside0.mk (below_then HB0.out HB0.out.size hb2); clear hb2))
    refine bodyPost_ret (results_ct rfl _ _ (w.heap.size + 1) 35 #[.slice A0 (and3 mode l r a b).a.length c0, .slice A1 (and3 mode l r a b).b.length c1] (0, 0) _ rfl (set2_blk _ _ bR5) Try.underlying35 rfl (by kernel_rfl)) rfl ?_
    have hle : w.heap.size ≤ w3.heap.size := HB3.out.size
    exact ⟨_, _, _, rfl, Kd.S_lower (SS.set2 HT.out.1 bR5 (by decide) _ _) hle, Kd.S_lower (SS.set2 HT.out.2.1 bR5 (by decide) _ _) hle, Kd.S_lower (SS.set2 HT.out.2.2 bR5 (by decide) _ _) hle, set2_below (below_then HB3.out hle HB5.out) (by omega) _ _⟩
end Go.Proofs.Ytjeojdbfpncnkaa.Ih
