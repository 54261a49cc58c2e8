
/- EngOpen: both sides. -/
import Derived.Test.YtckblabkapeigaaEr8
import Derived.Test.YtckblabkapeigaaEd8
import Derived.Test.YtckblabkapeigaaEe8
import Derived.Test.YtckblabkapeigaaEf8
import Derived.Test.YtckblabkapeigaaZb
set_option linter.unusedVariables false
set_option linter.unusedSimpArgs false
namespace Go.Proofs.Ytckblabkapeigaa.Es8
open Go.RowKit Go.Proofs.YtckblabkapeigaaW.PrintWords Go.Proofs.Ytckblabkapeigaa.Ja Go.Proofs.Ytckblabkapeigaa.Jb Go.Proofs.Ytckblabkapeigaa.Jc Go.Proofs.Ytckblabkapeigaa.Jd Go.Proofs.Ytckblabkapeigaa.Jg Go.Proofs.Ytckblabkapeigaa.Jh Go.Proofs.Ytckblabkapeigaa.Ka Go.Proofs.Ytckblabkapeigaa.Kb Go.Proofs.Ytckblabkapeigaa.Kd2 Go.Proofs.Ytckblabkapeigaa.Kf Go.Proofs.Ytckblabkapeigaa.Na Go.Proofs.Ytckblabkapeigaa.Nb Go.Proofs.Ytckblabkapeigaa.Ea8 Go.Proofs.Ytckblabkapeigaa.Eb8 Go.Proofs.Ytckblabkapeigaa.Ed8 Go.Proofs.Ytckblabkapeigaa.Ee8 Go.Proofs.Ytckblabkapeigaa.Ef8 Go.Proofs.Ytckblabkapeigaa.Eg8 Go.Proofs.Ytckblabkapeigaa.El8 Go.Proofs.Ytckblabkapeigaa.Em8 Go.Proofs.Ytckblabkapeigaa.En8 Go.Proofs.Ytckblabkapeigaa.Eo8 Go.Proofs.Ytckblabkapeigaa.Er8

def grR (r : TRule) : TGraph := grO r.f3 r.f2
/-- a fresh engine of rules -/
def opE (l : List TRule) : TEng := if rulesB l = true then ⟨l, l.map grR, [], [0, 0, 0, 0], []⟩ else zEng
/-- the engine's box e, its rules' rows (blocks of P1), its numbers' row (of P3), its graphs' rows (all else) -/
structure OpnMem (w wr : World) (N e : Nat) (vr v3 : Value) (P1 P3 : Nat → Prop) (l : List TRule) (vg : Value) (gs : List TGraph) : Prop where
  below : Below w.heap.size w wr
  box : wr.heap[e]? = some (.cells #[vr, vg, .slice none 0 0, v3, .slice none 0 0] 30 (0, 0))
  rules : Kd.S kRule 54 wr N P1 vr l
  graphs : Kd.S kGraph 48 wr N (fun k => ¬ P1 k ∧ k ≠ e ∧ ¬ P3 k) vg gs
  keys : (Kd.int .i64).R 3 wr N P3 v3 [0, 0, 0, 0]
  p1 : ∀ k, P1 k → k ≠ e ∧ ¬ P3 k ∧ k < wr.heap.size
  p3 : ∀ k, P3 k → k ≠ e ∧ k < wr.heap.size
  ne : N ≤ e
theorem below_trans8 {B : Nat} {w w1 w2 : World} (h : Below B w w1) (g : Below B w1 w2) : Below B w w2 := ⟨g.os.trans h.os, g.tape.trans h.tape, g.output.trans h.output, Nat.le_trans h.size g.size, fun k hk => (g.block k hk).trans (h.block k hk)⟩
section
variable {w wr W : World} {N e : Nat} {vr v3 vg : Value} {P1 P3 : Nat → Prop} {l : List TRule} {gs : List TGraph}
theorem OpnMem.grow (h : OpnMem w wr N e vr v3 P1 P3 l vg gs) (hb : Below wr.heap.size wr W) : OpnMem w W N e vr v3 P1 P3 l vg gs :=
  ⟨below_then h.below h.below.size hb, blk_below h.box hb, Kd.S_below h.rules hb, Kd.S_below h.graphs hb, Kd.R_below h.keys hb, fun k hk => ⟨(h.p1 k hk).1, (h.p1 k hk).2.1, Nat.lt_of_lt_of_le (h.p1 k hk).2.2 hb.size⟩, fun k hk => ⟨(h.p3 k hk).1, Nat.lt_of_lt_of_le (h.p3 k hk).2 hb.size⟩, h.ne⟩
theorem OpnMem.own (h : OpnMem w wr N e vr v3 P1 P3 l vg gs) : ∀ k, vg.ownBlock = some k → ¬ P1 k ∧ k ≠ e ∧ ¬ P3 k := (Kd.S_R h.graphs).1
theorem OpnMem.fresh (h : OpnMem w wr N e vr v3 P1 P3 l vg gs) : ∀ k, wr.heap.size ≤ k → ¬ P1 k ∧ k ≠ e ∧ ¬ P3 k := fun k hk => ⟨fun h1 => by have := (h.p1 k h1).2.2; omega, fun h1 => by have := blk_lt h.box; omega, fun h1 => by have := (h.p3 k h1).2; omega⟩
/-- a graph is put behind the others (v2, at W), the row stored in the engine's box -/
theorem OpnMem.store (h : OpnMem w wr N e vr v3 P1 P3 l vg gs) (hwN : w.heap.size ≤ N) {v2 : Value} {gs2 : List TGraph} (hs : Kd.S kGraph 48 W N (fun k => ¬ P1 k ∧ k ≠ e ∧ ¬ P3 k) v2 gs2) (hg : wr.grownBy W vg.ownBlock) : OpnMem w (W.setCell ⟨e, 1, none⟩ v2) N e vr v3 P1 P3 l v2 gs2 := by
  have own := h.own
  have fr : Fr (fun k => k = e ∨ some k = vg.ownBlock) wr (W.setCell ⟨e, 1, none⟩ v2) := Fr.set (Fr.of_grown (S := fun k => k = e ∨ some k = vg.ownBlock) hg (fun k hk => .inr hk)) (fun _ => .inl rfl)
  have hbx : W.heap[e]? = some (.cells #[vr, vg, .slice none 0 0, v3, .slice none 0 0] 30 (0, 0)) := blk_grown h.box hg (fun q => (own e q.symm).2.1 rfl)
  have hgb := Kd.R_base (Kd.S_R h.graphs)
  refine ⟨below_trans8 h.below (fr.below h.below.size (fun k hk => ?_)), blk_put (cs := #[vr, vg, .slice none 0 0, v3, .slice none 0 0]) hbx 1 _ rfl, Kd.S_step h.rules (fun k hk hk2 => fr.block k hk2 ?_), Kd.S_far hs (fun k hk => hk.2.1) v2, Kd.R_step h.keys (fun k hk hk2 => fr.block k hk2 ?_), fun k hk => ⟨(h.p1 k hk).1, (h.p1 k hk).2.1, Nat.lt_of_lt_of_le (h.p1 k hk).2.2 fr.size⟩, fun k hk => ⟨(h.p3 k hk).1, Nat.lt_of_lt_of_le (h.p3 k hk).2 fr.size⟩, h.ne⟩
  · rcases hk with h1 | h1
    · have := h.ne; omega
    · have := hgb k h1.symm; omega
  · rintro (h1 | h1)
    · exact (h.p1 k hk).1 h1
    · exact (own k h1.symm).1 hk
  · rintro (h1 | h1)
    · exact (h.p3 k hk).1 h1
    · exact (own k h1.symm).2.2 hk
theorem OpnMem.make {w Wf W5 : World} {s1 t1 s2 t2 : Nat} (hb : Below w.heap.size w Wf) (hE : Wf.heap[e]? = some (.cells #[.slice none 0 0, .slice none 0 0, .slice none 0 0, .slice none 0 0, .slice none 0 0] 30 (0, 0))) (hR : Kd.S kRule 54 Wf N (fun k => s1 ≤ k ∧ k < t1) vr l) (hK : Kd.S (Kd.int .i64) 3 Wf N (fun k => s2 ≤ k ∧ k < t2) v3 [0, 0, 0, 0])
    (h1 : t1 ≤ Wf.heap.size) (h2 : t2 ≤ Wf.heap.size) (he : N ≤ e) (hN : w.heap.size ≤ N) (d1 : e < s1 ∨ t1 ≤ e) (d2 : e < s2 ∨ t2 ≤ e) (d3 : t1 ≤ s2 ∨ t2 ≤ s1)
    (e5 : W5 = ((((Wf.setCell ⟨e, 0, none⟩ vr).setCell ⟨e, 1, none⟩ (.slice none 0 0)).setCell ⟨e, 2, none⟩ (.slice none 0 0)).setCell ⟨e, 3, none⟩ v3).setCell ⟨e, 4, none⟩ (.slice none 0 0)) : OpnMem w W5 N e vr v3 (fun k => s1 ≤ k ∧ k < t1) (fun k => s2 ≤ k ∧ k < t2) l (.slice none 0 0) [] := by
  have fr : Fr (fun k => k = e) Wf W5 := by
    rw [e5]
    exact Fr.set (Fr.set (Fr.set (Fr.set (Fr.set (Fr.refl _ _) (fun _ => rfl)) (fun _ => rfl)) (fun _ => rfl)) (fun _ => rfl)) (fun _ => rfl)
  have sz := fr.size
  refine ⟨below_trans8 hb (fr.below hb.size (fun k hk => by omega)), ?_, Kd.S_step hR (fun k hk hk2 => fr.block k hk2 (by omega)), Kd.S_nil _ _ _ _ _, Kd.S_R (Kd.S_step hK (fun k hk hk2 => fr.block k hk2 (by omega))), fun k hk => ⟨by omega, by omega, by omega⟩, fun k hk => ⟨by omega, by omega⟩, he⟩
  rw [e5]
  exact blk_put (cs := #[vr, .slice none 0 0, .slice none 0 0, v3, .slice none 0 0]) (blk_put (cs := #[vr, .slice none 0 0, .slice none 0 0, .slice none 0 0, .slice none 0 0]) (blk_put (cs := #[vr, .slice none 0 0, .slice none 0 0, .slice none 0 0, .slice none 0 0]) (blk_put (cs := #[vr, .slice none 0 0, .slice none 0 0, .slice none 0 0, .slice none 0 0]) (blk_put (cs := #[.slice none 0 0, .slice none 0 0, .slice none 0 0, .slice none 0 0, .slice none 0 0]) hE 0 _ rfl) 1 _ rfl) 2 _ rfl) 3 _ rfl) 4 _ rfl
theorem grown_none {w w' : World} (h : w.grownBy w' none) : Below w.heap.size w w' := ⟨h.os, h.tape, h.output, h.size, fun k hk => h.block k hk (by simp)⟩
end
/-- what EngOpen tells: the engine's rows, apart from one another -/
def OpenOut (w w' : World) (x : TEng) (r : Ending) : Prop := ∃ v0 v1 v3 P0 P1 P3, r = .returned (.agg #[v0, v1, .slice none 0 0, v3, .slice none 0 0]) ∧ x.f2 = [] ∧ x.f4 = [] ∧ Kd.S kRule 54 w' w.heap.size P0 v0 x.f0 ∧ Kd.S kGraph 48 w' w.heap.size P1 v1 x.f1 ∧
  (Kd.int .i64).R 3 w' w.heap.size P3 v3 x.f3 ∧ (∀ k, P0 k → ¬ P1 k ∧ ¬ P3 k) ∧ (∀ k, P1 k → ¬ P3 k) ∧ Below w.heap.size w w'
theorem OpnMem.out {w W wr w' : World} {e : Nat} {vr v3 vg : Value} {P1 P3 : Nat → Prop} {l : List TRule} {gs : List TGraph} (h : OpnMem W wr W.heap.size e vr v3 P1 P3 l vg gs) (hW : Below w.heap.size w W) (hs : W.heap.size = w.heap.size + 1) (hf : Fr (fun k => k = w.heap.size) wr w') :
    OpenOut w w' ⟨l, gs, [], [0, 0, 0, 0], []⟩ (.returned (.agg #[vr, vg, .slice none 0 0, v3, .slice none 0 0])) := by
  have hb := below_then hW hW.size h.below
  refine ⟨vr, vg, v3, fun k => P1 k ∧ W.heap.size ≤ k, fun k => (¬ P1 k ∧ k ≠ e ∧ ¬ P3 k) ∧ W.heap.size ≤ k, fun k => P3 k ∧ W.heap.size ≤ k, rfl, rfl, rfl, ?_, ?_, ?_, ?_, ?_, ?_⟩
  · exact Kd.S_lower (Kd.S_step (Kd.S_mono (Kd.S_bound h.rules) (ok' := fun k => P1 k ∧ W.heap.size ≤ k) (fun k hk => ⟨hk.1, hk.2.1⟩)) (fun k hk hk2 => hf.block k hk2 (by have := hk.2; omega))) (by omega)
  · exact Kd.S_lower (Kd.S_step (Kd.S_mono (Kd.S_bound h.graphs) (ok' := fun k => (¬ P1 k ∧ k ≠ e ∧ ¬ P3 k) ∧ W.heap.size ≤ k) (fun k hk => ⟨hk.1, hk.2.1⟩)) (fun k hk hk2 => hf.block k hk2 (by have := hk.2; omega))) (by omega)
  · exact Kd.R_lower (Kd.R_step (Kd.R_mono (Kd.R_bound h.keys) (ok' := fun k => P3 k ∧ W.heap.size ≤ k) (fun k hk => ⟨hk.1, hk.2.1⟩)) (fun k hk hk2 => hf.block k hk2 (by have := hk.2; omega))) (by omega)
  · exact fun k hk => ⟨fun h2 => h2.1.1 hk.1, fun h2 => (h.p1 k hk.1).2.1 h2.1⟩
  · exact fun k hk h2 => hk.1.2.2 h2.1
  · exact below_trans8 hb (hf.below hb.size (fun k hk => by omega))
theorem OpenOut.zero {w w' : World} (hb : Below w.heap.size w w') : OpenOut w w' zEng (.returned (.agg #[.slice none 0 0, .slice none 0 0, .slice none 0 0, .slice none 0 0, .slice none 0 0])) := ⟨_, _, _, fun _ => False, fun _ => False, fun _ => False, rfl, rfl, rfl, Kd.S_nil _ _ _ _ _, Kd.S_nil _ _ _ _ _, Kd.R_nil _ _ _ _ _, fun _ h => h.elim, fun _ h => h.elim, hb⟩
set_option maxHeartbeats 4000000 in
set_option maxRecDepth 100000 in
theorem iOpen_any (A : Option Addr) (c : Nat) (l : List TRule) (w : World) (hl : l.length ≤ 1048576) (hn : ∀ x ∈ l, x.f0.size ≤ 9223372036854775807) (hc : ∀ x ∈ l, cntL x.f3.f3 ≤ 1048576) (hL : IsS kRule w l A c) :
    Calls Try.prog 7 #[.slice A l.length c] w fun e w' => OpenOut w w' (opE l) e := by
  have hb0 := below_alloc (Below.refl w.heap.size w) (.cells #[.slice none 0 0, .slice none 0 0, .slice none 0 0, .slice none 0 0, .slice none 0 0] 30)
  have b0 := blk_new w (.cells #[.slice none 0 0, .slice none 0 0, .slice none 0 0, .slice none 0 0, .slice none 0 0] 30)
  have hsz : (w.alloc (.cells #[.slice none 0 0, .slice none 0 0, .slice none 0 0, .slice none 0 0, .slice none 0 0] 30)).heap.size = w.heap.size + 1 := by simp
  have HL := Aside0.mk (hL.below hb0)
  have HNM := Aside0.mk hn
  have HC := Aside0.mk hc
  clear hL hn hc
  cases hk : rulesB l with
  | false =>
    have HO : Aside0 (opE l = zEng) := ⟨if_neg (by rw [hk]; simp)⟩
    have HK := Aside0.mk hk
    clear hk
    go_enter Try.func7, Try.ntmps7
    go_upto_region 1 with fail
    generalize w.alloc (.cells #[.slice none 0 0, .slice none 0 0, .slice none 0 0, .slice none 0 0, .slice none 0 0] 30) = W at hb0 b0 hsz HL ⊢
    have HB0 := Aside0.mk hb0
    have BB0 := Aside0.mk b0
    clear hb0 b0 hsz
    go_wp2_with (go_at_call 18; refine (rulesOk_any A c l _ hl HNM.out HC.out HL.out).mono ?_; rintro e w2 ⟨rfl, hb2⟩; rw [HK.out]; have HB2 := Aside0.mk (below_then HB0.out HB0.out.size hb2); have g1' := blk_below BB0.out hb2; have s0 := (blk_cell g1' 0).trans rfl; have t0 := blk_frozen g1' 0; have s1 := (blk_cell g1' 1).trans rfl; have t1 := blk_frozen g1' 1; have s2 := (blk_cell g1' 2).trans rfl; have t2 := blk_frozen g1' 2; have s3 := (blk_cell g1' 3).trans rfl; have t3 := blk_frozen g1' 3; have s4 := (blk_cell g1' 4).trans rfl; have t4 := blk_frozen g1' 4; clear hb2)
    refine bodyPost_ret (results_cell_row rfl _ _ w.heap.size 30 #[.slice none 0 0, .slice none 0 0, .slice none 0 0, .slice none 0 0, .slice none 0 0] (0, 0) _ rfl (blk_put (cs := #[.slice none 0 0, .slice none 0 0, .slice none 0 0, .slice none 0 0, .slice none 0 0]) (blk_put (cs := #[.slice none 0 0, .slice none 0 0, .slice none 0 0, .slice none 0 0, .slice none 0 0]) (blk_put (cs := #[.slice none 0 0, .slice none 0 0, .slice none 0 0, .slice none 0 0, .slice none 0 0]) (blk_put (cs := #[.slice none 0 0, .slice none 0 0, .slice none 0 0, .slice none 0 0, .slice none 0 0]) (blk_put (cs := #[.slice none 0 0, .slice none 0 0, .slice none 0 0, .slice none 0 0, .slice none 0 0]) g1' 0 _ rfl) 1 _ rfl) 2 _ rfl) 3 _ rfl) 4 _ rfl) Try.underlying30 rfl (by kernel_rfl)) rfl ?_
    rw [HO.out]
    exact OpenOut.zero (((((HB2.out.setCell (p := ⟨w.heap.size, 0, none⟩) (Nat.le_refl _) _).setCell (p := ⟨w.heap.size, 1, none⟩) (Nat.le_refl _) _).setCell (p := ⟨w.heap.size, 2, none⟩) (Nat.le_refl _) _).setCell (p := ⟨w.heap.size, 3, none⟩) (Nat.le_refl _) _).setCell (p := ⟨w.heap.size, 4, none⟩) (Nat.le_refl _) _)
  | true =>
    have HO : Aside0 (opE l = ⟨l, l.map grR, [], [0, 0, 0, 0], []⟩) := ⟨if_pos hk⟩
    have HK := Aside0.mk hk
    clear hk
    go_enter Try.func7, Try.ntmps7
    go_upto_region 1 with fail
    generalize w.alloc (.cells #[.slice none 0 0, .slice none 0 0, .slice none 0 0, .slice none 0 0, .slice none 0 0] 30) = W at hb0 b0 hsz HL ⊢
    have HBW := Aside0.mk hb0
    have BB0 := Aside0.mk b0
    have HSZ := Aside0.mk hsz
    clear hb0 b0 hsz
    go_upto_region 3 with (go_at_call 18; refine (rulesOk_any A c l _ hl HNM.out HC.out HL.out).mono ?_; rintro e w2 ⟨rfl, hb2⟩; rw [HK.out]; have HB2 := Aside0.mk hb2; clear hb2)
    have HDD : Below w2.heap.size w2 w2.drew := below_drew (Below.refl _ _)
    refine Go.Proofs.Ytckblabkapeigaa.Zb.region_cut (fun a a' w' => ∃ (vr v3 : Value) (P1 P3 : Nat → Prop) (e : Nat), a' = ((((a.put (some 10) (.slice A l.length c)).put (some 11) vr).put (some 12) v3).put (some 13) (.agg #[vr, .slice none 0 0, .slice none 0 0, v3, .slice none 0 0])).put (some 3) (.pointer (some ⟨e, 0, none⟩)) ∧ OpnMem W w' W.heap.size e vr v3 P1 P3 l (.slice none 0 0) []) ?_ ?_
    · have HB0 := Aside0.mk (below_then HB2.out HB2.out.size HDD)
      have HB := HB0
      have HN : Aside0 (W.heap.size ≤ w2.drew.heap.size) := ⟨HB0.out.size⟩
      refine Za.regionL (fun _ => True) [] (by kernel_rfl) ?_
      generalize w2.drew = wd at HB HB0 HN ⊢
      have HS : (fun _ : World => True) wd := trivial
      refine Za.takeL 0 (v := ?vp0) rfl (by kernel_rfl) (by kernel_rfl) (by kernel_rfl) (by kernel_rfl) (fun _ _ _ h => absurd h.1 (by simp)) (Or.inl ⟨by rfl, ?hyp0⟩) HS ?restp0
      case hyp0 => (intro w hSw; (try dsimp only at hSw); go_simp; try with_reducible rfl)
      (try simp only [Act.put, List.setIfInBounds_toArray, List.set_cons_zero, List.set_cons_succ])
      clear HS
      refine Go.Proofs.Ytckblabkapeigaa.Zb.nextsL [1, 2, 4] (by kernel_rfl) (by simp) (fun i hi oo ho K' hK => ?_)
      simp only [List.mem_cons, List.not_mem_nil, or_false] at hi
      rcases hi with rfl | rfl | rfl
      · obtain rfl := Option.some.inj ho
        go_simp
        (go_at_call 19; refine (cloneRules_any A c l _ (by omega) HC.out (HL.out.below HB0.out)).mono ?_; rintro e x1 ⟨vr, rfl, hs1, hb1⟩; obtain ⟨Pr, cr, rfl⟩ := Kd.S_slice hs1)
        go_wp2_with fail
        refine hK.out _ _ ⟨fun _ => trivial, ?_⟩
        clear hK K' ho
        (try simp only [Act.put, List.setIfInBounds_toArray, List.set_cons_zero, List.set_cons_succ])
        have hf1 := Kd.S_lower (Kd.S_mono (Kd.S_bound hs1) (ok' := fun k => wd.heap.size ≤ k ∧ k < x1.heap.size) (fun k hk => ⟨hk.2.1, hk.2.2.1⟩)) HN.out
        clear hs1
        have hz1 := hb1.size
        have HB1 := Aside0.mk (below_then HB.out HB.out.size hb1)
        have HB01 := Aside0.mk (below_then HB0.out HB0.out.size hb1)
        have HN1 : Aside0 (W.heap.size ≤ x1.heap.size) := ⟨Nat.le_trans HN.out hz1⟩
        clear hb1
        refine Go.Proofs.Ytckblabkapeigaa.Zb.nextsL [2, 4] (by kernel_rfl) (by simp) (fun i hi oo ho K' hK => ?_)
        simp only [List.mem_cons, List.not_mem_nil, or_false] at hi
        rcases hi with rfl | rfl
        · obtain rfl := Option.some.inj ho
          refine Kd.S_make_step (Kd.int .i64) (w0 := x1) (W := x1) W.heap.size 3 (by rfl) (N := 12) rfl 27 _ _ rfl (4 : Int) rfl rfl Try.underlying27 (.int .i64 0) 8 infoI rfl (by decide) (by decide) 0 (ok := fun k => x1.heap.size ≤ k) (okp := fun _ => False) rfl (fun _ h => h.elim) (Nat.le_refl _) (by decide) (by decide) (below_mono2 (Below.refl _ _) HN1.out) HN1.out ?_
          intro v3 x12 hs12 _ hg12 _
          obtain ⟨P3, c3, rfl⟩ := Kd.S_slice hs12
          have hb12 := grown_none hg12
          clear hg12
          refine hK.out _ _ ⟨fun _ => trivial, ?_⟩
          clear hK K' ho
          (try simp only [Act.put, List.setIfInBounds_toArray, List.set_cons_zero, List.set_cons_succ])
          have hf12 := Kd.S_mono (Kd.S_bound hs12) (ok' := fun k => x1.heap.size ≤ k ∧ k < x12.heap.size) (fun k hk => ⟨hk.1, hk.2.2.1⟩)
          clear hs12
          have hz12 := hb12.size
          have HB12 := Aside0.mk (below_then HB1.out HB1.out.size hb12)
          have HB012 := Aside0.mk (below_then HB01.out HB01.out.size hb12)
          have HN12 : Aside0 (W.heap.size ≤ x12.heap.size) := ⟨Nat.le_trans HN1.out hz12⟩
          have hf12_1 := Kd.S_below hf1 hb12
          clear hf1
          clear hb12
          have HS : (fun _ : World => True) x12 := trivial
          refine Za.takeL 3 (v := ?vp123) rfl (by kernel_rfl) (by kernel_rfl) (by kernel_rfl) (by kernel_rfl) (fun _ _ _ h => absurd h.1 (by simp)) (Or.inl ⟨by rfl, ?hyp123⟩) HS ?restp123
          case hyp123 => (intro w hSw; (try dsimp only at hSw); go_simp; try with_reducible rfl)
          (try simp only [Act.put, List.setIfInBounds_toArray, List.set_cons_zero, List.set_cons_succ])
          clear HS
          refine Go.Proofs.Ytckblabkapeigaa.Zb.nextsL [4] (by kernel_rfl) (by simp) (fun i hi oo ho K' hK => ?_)
          simp only [List.mem_cons, List.not_mem_nil, or_false] at hi
          subst hi
          · obtain rfl := Option.some.inj ho
            go_simp
            refine hK.out _ _ ⟨fun _ => trivial, ?_⟩
            clear hK K' ho
            (try simp only [Act.put, List.setIfInBounds_toArray, List.set_cons_zero, List.set_cons_succ])
            have hb124 := below_alloc (Below.refl x12.heap.size x12) (.cells #[.slice none 0 0, .slice none 0 0, .slice none 0 0, .slice none 0 0, .slice none 0 0] 30)
            have hf124 := blk_new x12 (.cells #[.slice none 0 0, .slice none 0 0, .slice none 0 0, .slice none 0 0, .slice none 0 0] 30)
            have hq124 : (x12.alloc (.cells #[.slice none 0 0, .slice none 0 0, .slice none 0 0, .slice none 0 0, .slice none 0 0] 30)).heap.size = x12.heap.size + 1 := by simp
            generalize x12.alloc (.cells #[.slice none 0 0, .slice none 0 0, .slice none 0 0, .slice none 0 0, .slice none 0 0] 30) = x124 at hb124 hf124 hq124 ⊢
            have hz124 := hb124.size
            have HB124 := Aside0.mk (below_then HB12.out HB12.out.size hb124)
            have HB0124 := Aside0.mk (below_then HB012.out HB012.out.size hb124)
            have HN124 : Aside0 (W.heap.size ≤ x124.heap.size) := ⟨Nat.le_trans HN12.out hz124⟩
            have hf124_1 := Kd.S_below hf12_1 hb124
            clear hf12_1
            have hf124_2 := Kd.S_below hf12 hb124
            clear hf12
            clear hb124
            have r0 := (blk_cell hf124 0).trans rfl
            have z0 := blk_frozen hf124 0
            have r1 := (blk_cell hf124 1).trans rfl
            have z1 := blk_frozen hf124 1
            have r2 := (blk_cell hf124 2).trans rfl
            have z2 := blk_frozen hf124 2
            have r3 := (blk_cell hf124 3).trans rfl
            have z3 := blk_frozen hf124 3
            have r4 := (blk_cell hf124 4).trans rfl
            have z4 := blk_frozen hf124 4
            refine Za.nextL 5 (by kernel_rfl) rfl (fun K' hK => ?_)
            go_simp
            refine hK.out _ _ ⟨fun _ => trivial, ?_⟩
            clear hK K'
            (try simp only [Act.put, List.setIfInBounds_toArray, List.set_cons_zero, List.set_cons_succ])
            refine Za.Walk.done (by kernel_rfl) ⟨rfl, _, _, _, _, _, rfl, OpnMem.make (N := W.heap.size) (e := x12.heap.size) (s1 := wd.heap.size) (t1 := x1.heap.size) (s2 := x1.heap.size) (t2 := x12.heap.size) HB124.out hf124 hf124_1 hf124_2 (by omega) (by omega) HN12.out (Nat.le_refl _) (by omega) (by omega) (by omega) rfl⟩
        · obtain rfl := Option.some.inj ho
          go_simp
          refine hK.out _ _ ⟨fun _ => trivial, ?_⟩
          clear hK K' ho
          (try simp only [Act.put, List.setIfInBounds_toArray, List.set_cons_zero, List.set_cons_succ])
          have hb14 := below_alloc (Below.refl x1.heap.size x1) (.cells #[.slice none 0 0, .slice none 0 0, .slice none 0 0, .slice none 0 0, .slice none 0 0] 30)
          have hf14 := blk_new x1 (.cells #[.slice none 0 0, .slice none 0 0, .slice none 0 0, .slice none 0 0, .slice none 0 0] 30)
          have hq14 : (x1.alloc (.cells #[.slice none 0 0, .slice none 0 0, .slice none 0 0, .slice none 0 0, .slice none 0 0] 30)).heap.size = x1.heap.size + 1 := by simp
          generalize x1.alloc (.cells #[.slice none 0 0, .slice none 0 0, .slice none 0 0, .slice none 0 0, .slice none 0 0] 30) = x14 at hb14 hf14 hq14 ⊢
          have hz14 := hb14.size
          have HB14 := Aside0.mk (below_then HB1.out HB1.out.size hb14)
          have HB014 := Aside0.mk (below_then HB01.out HB01.out.size hb14)
          have HN14 : Aside0 (W.heap.size ≤ x14.heap.size) := ⟨Nat.le_trans HN1.out hz14⟩
          have hf14_1 := Kd.S_below hf1 hb14
          clear hf1
          clear hb14
          refine Go.Proofs.Ytckblabkapeigaa.Zb.nextsL [2] (by kernel_rfl) (by simp) (fun i hi oo ho K' hK => ?_)
          simp only [List.mem_cons, List.not_mem_nil, or_false] at hi
          subst hi
          · obtain rfl := Option.some.inj ho
            refine Kd.S_make_step (Kd.int .i64) (w0 := x14) (W := x14) W.heap.size 3 (by rfl) (N := 12) rfl 27 _ _ rfl (4 : Int) rfl rfl Try.underlying27 (.int .i64 0) 8 infoI rfl (by decide) (by decide) 0 (ok := fun k => x14.heap.size ≤ k) (okp := fun _ => False) rfl (fun _ h => h.elim) (Nat.le_refl _) (by decide) (by decide) (below_mono2 (Below.refl _ _) HN14.out) HN14.out ?_
            intro v3 x142 hs142 _ hg142 _
            obtain ⟨P3, c3, rfl⟩ := Kd.S_slice hs142
            have hb142 := grown_none hg142
            clear hg142
            refine hK.out _ _ ⟨fun _ => trivial, ?_⟩
            clear hK K' ho
            (try simp only [Act.put, List.setIfInBounds_toArray, List.set_cons_zero, List.set_cons_succ])
            have hf142 := Kd.S_mono (Kd.S_bound hs142) (ok' := fun k => x14.heap.size ≤ k ∧ k < x142.heap.size) (fun k hk => ⟨hk.1, hk.2.2.1⟩)
            clear hs142
            have hz142 := hb142.size
            have HB142 := Aside0.mk (below_then HB14.out HB14.out.size hb142)
            have HB0142 := Aside0.mk (below_then HB014.out HB014.out.size hb142)
            have HN142 : Aside0 (W.heap.size ≤ x142.heap.size) := ⟨Nat.le_trans HN14.out hz142⟩
            have hf142_1 := Kd.S_below hf14_1 hb142
            clear hf14_1
            have hf142_4 := blk_below hf14 hb142
            clear hf14
            clear hb142
            have HS : (fun _ : World => True) x142 := trivial
            refine Za.takeL 3 (v := ?vp1423) rfl (by kernel_rfl) (by kernel_rfl) (by kernel_rfl) (by kernel_rfl) (fun _ _ _ h => absurd h.1 (by simp)) (Or.inl ⟨by rfl, ?hyp1423⟩) HS ?restp1423
            case hyp1423 => (intro w hSw; (try dsimp only at hSw); go_simp; try with_reducible rfl)
            (try simp only [Act.put, List.setIfInBounds_toArray, List.set_cons_zero, List.set_cons_succ])
            clear HS
            have r0 := (blk_cell hf142_4 0).trans rfl
            have z0 := blk_frozen hf142_4 0
            have r1 := (blk_cell hf142_4 1).trans rfl
            have z1 := blk_frozen hf142_4 1
            have r2 := (blk_cell hf142_4 2).trans rfl
            have z2 := blk_frozen hf142_4 2
            have r3 := (blk_cell hf142_4 3).trans rfl
            have z3 := blk_frozen hf142_4 3
            have r4 := (blk_cell hf142_4 4).trans rfl
            have z4 := blk_frozen hf142_4 4
            refine Za.nextL 5 (by kernel_rfl) rfl (fun K' hK => ?_)
            go_simp
            refine hK.out _ _ ⟨fun _ => trivial, ?_⟩
            clear hK K'
            (try simp only [Act.put, List.setIfInBounds_toArray, List.set_cons_zero, List.set_cons_succ])
            refine Za.Walk.done (by kernel_rfl) ⟨rfl, _, _, _, _, _, rfl, OpnMem.make (N := W.heap.size) (e := x1.heap.size) (s1 := wd.heap.size) (t1 := x1.heap.size) (s2 := x14.heap.size) (t2 := x142.heap.size) HB142.out hf142_4 hf142_1 hf142 (by omega) (by omega) HN1.out (Nat.le_refl _) (by omega) (by omega) (by omega) rfl⟩
      · obtain rfl := Option.some.inj ho
        refine Kd.S_make_step (Kd.int .i64) (w0 := wd) (W := wd) W.heap.size 3 (by rfl) (N := 12) rfl 27 _ _ rfl (4 : Int) rfl rfl Try.underlying27 (.int .i64 0) 8 infoI rfl (by decide) (by decide) 0 (ok := fun k => wd.heap.size ≤ k) (okp := fun _ => False) rfl (fun _ h => h.elim) (Nat.le_refl _) (by decide) (by decide) (below_mono2 (Below.refl _ _) HN.out) HN.out ?_
        intro v3 x2 hs2 _ hg2 _
        obtain ⟨P3, c3, rfl⟩ := Kd.S_slice hs2
        have hb2 := grown_none hg2
        clear hg2
        refine hK.out _ _ ⟨fun _ => trivial, ?_⟩
        clear hK K' ho
        (try simp only [Act.put, List.setIfInBounds_toArray, List.set_cons_zero, List.set_cons_succ])
        have hf2 := Kd.S_mono (Kd.S_bound hs2) (ok' := fun k => wd.heap.size ≤ k ∧ k < x2.heap.size) (fun k hk => ⟨hk.1, hk.2.2.1⟩)
        clear hs2
        have hz2 := hb2.size
        have HB2 := Aside0.mk (below_then HB.out HB.out.size hb2)
        have HB02 := Aside0.mk (below_then HB0.out HB0.out.size hb2)
        have HN2 : Aside0 (W.heap.size ≤ x2.heap.size) := ⟨Nat.le_trans HN.out hz2⟩
        clear hb2
        refine Go.Proofs.Ytckblabkapeigaa.Zb.nextsL [1, 4] (by kernel_rfl) (by simp) (fun i hi oo ho K' hK => ?_)
        simp only [List.mem_cons, List.not_mem_nil, or_false] at hi
        rcases hi with rfl | rfl
        · obtain rfl := Option.some.inj ho
          go_simp
          (go_at_call 19; refine (cloneRules_any A c l _ (by omega) HC.out (HL.out.below HB02.out)).mono ?_; rintro e x21 ⟨vr, rfl, hs21, hb21⟩; obtain ⟨Pr, cr, rfl⟩ := Kd.S_slice hs21)
          go_wp2_with fail
          refine hK.out _ _ ⟨fun _ => trivial, ?_⟩
          clear hK K' ho
          (try simp only [Act.put, List.setIfInBounds_toArray, List.set_cons_zero, List.set_cons_succ])
          have hf21 := Kd.S_lower (Kd.S_mono (Kd.S_bound hs21) (ok' := fun k => x2.heap.size ≤ k ∧ k < x21.heap.size) (fun k hk => ⟨hk.2.1, hk.2.2.1⟩)) HN2.out
          clear hs21
          have hz21 := hb21.size
          have HB21 := Aside0.mk (below_then HB2.out HB2.out.size hb21)
          have HB021 := Aside0.mk (below_then HB02.out HB02.out.size hb21)
          have HN21 : Aside0 (W.heap.size ≤ x21.heap.size) := ⟨Nat.le_trans HN2.out hz21⟩
          have hf21_2 := Kd.S_below hf2 hb21
          clear hf2
          clear hb21
          have HS : (fun _ : World => True) x21 := trivial
          refine Za.takeL 3 (v := ?vp213) rfl (by kernel_rfl) (by kernel_rfl) (by kernel_rfl) (by kernel_rfl) (fun _ _ _ h => absurd h.1 (by simp)) (Or.inl ⟨by rfl, ?hyp213⟩) HS ?restp213
          case hyp213 => (intro w hSw; (try dsimp only at hSw); go_simp; try with_reducible rfl)
          (try simp only [Act.put, List.setIfInBounds_toArray, List.set_cons_zero, List.set_cons_succ])
          clear HS
          refine Go.Proofs.Ytckblabkapeigaa.Zb.nextsL [4] (by kernel_rfl) (by simp) (fun i hi oo ho K' hK => ?_)
          simp only [List.mem_cons, List.not_mem_nil, or_false] at hi
          subst hi
          · obtain rfl := Option.some.inj ho
            go_simp
            refine hK.out _ _ ⟨fun _ => trivial, ?_⟩
            clear hK K' ho
            (try simp only [Act.put, List.setIfInBounds_toArray, List.set_cons_zero, List.set_cons_succ])
            have hb214 := below_alloc (Below.refl x21.heap.size x21) (.cells #[.slice none 0 0, .slice none 0 0, .slice none 0 0, .slice none 0 0, .slice none 0 0] 30)
            have hf214 := blk_new x21 (.cells #[.slice none 0 0, .slice none 0 0, .slice none 0 0, .slice none 0 0, .slice none 0 0] 30)
            have hq214 : (x21.alloc (.cells #[.slice none 0 0, .slice none 0 0, .slice none 0 0, .slice none 0 0, .slice none 0 0] 30)).heap.size = x21.heap.size + 1 := by simp
            generalize x21.alloc (.cells #[.slice none 0 0, .slice none 0 0, .slice none 0 0, .slice none 0 0, .slice none 0 0] 30) = x214 at hb214 hf214 hq214 ⊢
            have hz214 := hb214.size
            have HB214 := Aside0.mk (below_then HB21.out HB21.out.size hb214)
            have HB0214 := Aside0.mk (below_then HB021.out HB021.out.size hb214)
            have HN214 : Aside0 (W.heap.size ≤ x214.heap.size) := ⟨Nat.le_trans HN21.out hz214⟩
            have hf214_2 := Kd.S_below hf21_2 hb214
            clear hf21_2
            have hf214_1 := Kd.S_below hf21 hb214
            clear hf21
            clear hb214
            have r0 := (blk_cell hf214 0).trans rfl
            have z0 := blk_frozen hf214 0
            have r1 := (blk_cell hf214 1).trans rfl
            have z1 := blk_frozen hf214 1
            have r2 := (blk_cell hf214 2).trans rfl
            have z2 := blk_frozen hf214 2
            have r3 := (blk_cell hf214 3).trans rfl
            have z3 := blk_frozen hf214 3
            have r4 := (blk_cell hf214 4).trans rfl
            have z4 := blk_frozen hf214 4
            refine Za.nextL 5 (by kernel_rfl) rfl (fun K' hK => ?_)
            go_simp
            refine hK.out _ _ ⟨fun _ => trivial, ?_⟩
            clear hK K'
            (try simp only [Act.put, List.setIfInBounds_toArray, List.set_cons_zero, List.set_cons_succ])
            refine Za.Walk.done (by kernel_rfl) ⟨rfl, _, _, _, _, _, rfl, OpnMem.make (N := W.heap.size) (e := x21.heap.size) (s1 := x2.heap.size) (t1 := x21.heap.size) (s2 := wd.heap.size) (t2 := x2.heap.size) HB214.out hf214 hf214_1 hf214_2 (by omega) (by omega) HN21.out (Nat.le_refl _) (by omega) (by omega) (by omega) rfl⟩
        · obtain rfl := Option.some.inj ho
          go_simp
          refine hK.out _ _ ⟨fun _ => trivial, ?_⟩
          clear hK K' ho
          (try simp only [Act.put, List.setIfInBounds_toArray, List.set_cons_zero, List.set_cons_succ])
          have hb24 := below_alloc (Below.refl x2.heap.size x2) (.cells #[.slice none 0 0, .slice none 0 0, .slice none 0 0, .slice none 0 0, .slice none 0 0] 30)
          have hf24 := blk_new x2 (.cells #[.slice none 0 0, .slice none 0 0, .slice none 0 0, .slice none 0 0, .slice none 0 0] 30)
          have hq24 : (x2.alloc (.cells #[.slice none 0 0, .slice none 0 0, .slice none 0 0, .slice none 0 0, .slice none 0 0] 30)).heap.size = x2.heap.size + 1 := by simp
          generalize x2.alloc (.cells #[.slice none 0 0, .slice none 0 0, .slice none 0 0, .slice none 0 0, .slice none 0 0] 30) = x24 at hb24 hf24 hq24 ⊢
          have hz24 := hb24.size
          have HB24 := Aside0.mk (below_then HB2.out HB2.out.size hb24)
          have HB024 := Aside0.mk (below_then HB02.out HB02.out.size hb24)
          have HN24 : Aside0 (W.heap.size ≤ x24.heap.size) := ⟨Nat.le_trans HN2.out hz24⟩
          have hf24_2 := Kd.S_below hf2 hb24
          clear hf2
          clear hb24
          refine Go.Proofs.Ytckblabkapeigaa.Zb.nextsL [1] (by kernel_rfl) (by simp) (fun i hi oo ho K' hK => ?_)
          simp only [List.mem_cons, List.not_mem_nil, or_false] at hi
          subst hi
          · obtain rfl := Option.some.inj ho
            go_simp
            (go_at_call 19; refine (cloneRules_any A c l _ (by omega) HC.out (HL.out.below HB024.out)).mono ?_; rintro e x241 ⟨vr, rfl, hs241, hb241⟩; obtain ⟨Pr, cr, rfl⟩ := Kd.S_slice hs241)
            go_wp2_with fail
            refine hK.out _ _ ⟨fun _ => trivial, ?_⟩
            clear hK K' ho
            (try simp only [Act.put, List.setIfInBounds_toArray, List.set_cons_zero, List.set_cons_succ])
            have hf241 := Kd.S_lower (Kd.S_mono (Kd.S_bound hs241) (ok' := fun k => x24.heap.size ≤ k ∧ k < x241.heap.size) (fun k hk => ⟨hk.2.1, hk.2.2.1⟩)) HN24.out
            clear hs241
            have hz241 := hb241.size
            have HB241 := Aside0.mk (below_then HB24.out HB24.out.size hb241)
            have HB0241 := Aside0.mk (below_then HB024.out HB024.out.size hb241)
            have HN241 : Aside0 (W.heap.size ≤ x241.heap.size) := ⟨Nat.le_trans HN24.out hz241⟩
            have hf241_2 := Kd.S_below hf24_2 hb241
            clear hf24_2
            have hf241_4 := blk_below hf24 hb241
            clear hf24
            clear hb241
            have HS : (fun _ : World => True) x241 := trivial
            refine Za.takeL 3 (v := ?vp2413) rfl (by kernel_rfl) (by kernel_rfl) (by kernel_rfl) (by kernel_rfl) (fun _ _ _ h => absurd h.1 (by simp)) (Or.inl ⟨by rfl, ?hyp2413⟩) HS ?restp2413
            case hyp2413 => (intro w hSw; (try dsimp only at hSw); go_simp; try with_reducible rfl)
            (try simp only [Act.put, List.setIfInBounds_toArray, List.set_cons_zero, List.set_cons_succ])
            clear HS
            have r0 := (blk_cell hf241_4 0).trans rfl
            have z0 := blk_frozen hf241_4 0
            have r1 := (blk_cell hf241_4 1).trans rfl
            have z1 := blk_frozen hf241_4 1
            have r2 := (blk_cell hf241_4 2).trans rfl
            have z2 := blk_frozen hf241_4 2
            have r3 := (blk_cell hf241_4 3).trans rfl
            have z3 := blk_frozen hf241_4 3
            have r4 := (blk_cell hf241_4 4).trans rfl
            have z4 := blk_frozen hf241_4 4
            refine Za.nextL 5 (by kernel_rfl) rfl (fun K' hK => ?_)
            go_simp
            refine hK.out _ _ ⟨fun _ => trivial, ?_⟩
            clear hK K'
            (try simp only [Act.put, List.setIfInBounds_toArray, List.set_cons_zero, List.set_cons_succ])
            refine Za.Walk.done (by kernel_rfl) ⟨rfl, _, _, _, _, _, rfl, OpnMem.make (N := W.heap.size) (e := x2.heap.size) (s1 := x24.heap.size) (t1 := x241.heap.size) (s2 := wd.heap.size) (t2 := x2.heap.size) HB241.out hf241_4 hf241 hf241_2 (by omega) (by omega) HN2.out (Nat.le_refl _) (by omega) (by omega) (by omega) rfl⟩
      · obtain rfl := Option.some.inj ho
        go_simp
        refine hK.out _ _ ⟨fun _ => trivial, ?_⟩
        clear hK K' ho
        (try simp only [Act.put, List.setIfInBounds_toArray, List.set_cons_zero, List.set_cons_succ])
        have hb4 := below_alloc (Below.refl wd.heap.size wd) (.cells #[.slice none 0 0, .slice none 0 0, .slice none 0 0, .slice none 0 0, .slice none 0 0] 30)
        have hf4 := blk_new wd (.cells #[.slice none 0 0, .slice none 0 0, .slice none 0 0, .slice none 0 0, .slice none 0 0] 30)
        have hq4 : (wd.alloc (.cells #[.slice none 0 0, .slice none 0 0, .slice none 0 0, .slice none 0 0, .slice none 0 0] 30)).heap.size = wd.heap.size + 1 := by simp
        generalize wd.alloc (.cells #[.slice none 0 0, .slice none 0 0, .slice none 0 0, .slice none 0 0, .slice none 0 0] 30) = x4 at hb4 hf4 hq4 ⊢
        have hz4 := hb4.size
        have HB4 := Aside0.mk (below_then HB.out HB.out.size hb4)
        have HB04 := Aside0.mk (below_then HB0.out HB0.out.size hb4)
        have HN4 : Aside0 (W.heap.size ≤ x4.heap.size) := ⟨Nat.le_trans HN.out hz4⟩
        clear hb4
        refine Go.Proofs.Ytckblabkapeigaa.Zb.nextsL [1, 2] (by kernel_rfl) (by simp) (fun i hi oo ho K' hK => ?_)
        simp only [List.mem_cons, List.not_mem_nil, or_false] at hi
        rcases hi with rfl | rfl
        · obtain rfl := Option.some.inj ho
          go_simp
          (go_at_call 19; refine (cloneRules_any A c l _ (by omega) HC.out (HL.out.below HB04.out)).mono ?_; rintro e x41 ⟨vr, rfl, hs41, hb41⟩; obtain ⟨Pr, cr, rfl⟩ := Kd.S_slice hs41)
          go_wp2_with fail
          refine hK.out _ _ ⟨fun _ => trivial, ?_⟩
          clear hK K' ho
          (try simp only [Act.put, List.setIfInBounds_toArray, List.set_cons_zero, List.set_cons_succ])
          have hf41 := Kd.S_lower (Kd.S_mono (Kd.S_bound hs41) (ok' := fun k => x4.heap.size ≤ k ∧ k < x41.heap.size) (fun k hk => ⟨hk.2.1, hk.2.2.1⟩)) HN4.out
          clear hs41
          have hz41 := hb41.size
          have HB41 := Aside0.mk (below_then HB4.out HB4.out.size hb41)
          have HB041 := Aside0.mk (below_then HB04.out HB04.out.size hb41)
          have HN41 : Aside0 (W.heap.size ≤ x41.heap.size) := ⟨Nat.le_trans HN4.out hz41⟩
          have hf41_4 := blk_below hf4 hb41
          clear hf4
          clear hb41
          refine Go.Proofs.Ytckblabkapeigaa.Zb.nextsL [2] (by kernel_rfl) (by simp) (fun i hi oo ho K' hK => ?_)
          simp only [List.mem_cons, List.not_mem_nil, or_false] at hi
          subst hi
          · obtain rfl := Option.some.inj ho
            refine Kd.S_make_step (Kd.int .i64) (w0 := x41) (W := x41) W.heap.size 3 (by rfl) (N := 12) rfl 27 _ _ rfl (4 : Int) rfl rfl Try.underlying27 (.int .i64 0) 8 infoI rfl (by decide) (by decide) 0 (ok := fun k => x41.heap.size ≤ k) (okp := fun _ => False) rfl (fun _ h => h.elim) (Nat.le_refl _) (by decide) (by decide) (below_mono2 (Below.refl _ _) HN41.out) HN41.out ?_
            intro v3 x412 hs412 _ hg412 _
            obtain ⟨P3, c3, rfl⟩ := Kd.S_slice hs412
            have hb412 := grown_none hg412
            clear hg412
            refine hK.out _ _ ⟨fun _ => trivial, ?_⟩
            clear hK K' ho
            (try simp only [Act.put, List.setIfInBounds_toArray, List.set_cons_zero, List.set_cons_succ])
            have hf412 := Kd.S_mono (Kd.S_bound hs412) (ok' := fun k => x41.heap.size ≤ k ∧ k < x412.heap.size) (fun k hk => ⟨hk.1, hk.2.2.1⟩)
            clear hs412
            have hz412 := hb412.size
            have HB412 := Aside0.mk (below_then HB41.out HB41.out.size hb412)
            have HB0412 := Aside0.mk (below_then HB041.out HB041.out.size hb412)
            have HN412 : Aside0 (W.heap.size ≤ x412.heap.size) := ⟨Nat.le_trans HN41.out hz412⟩
            have hf412_4 := blk_below hf41_4 hb412
            clear hf41_4
            have hf412_1 := Kd.S_below hf41 hb412
            clear hf41
            clear hb412
            have HS : (fun _ : World => True) x412 := trivial
            refine Za.takeL 3 (v := ?vp4123) rfl (by kernel_rfl) (by kernel_rfl) (by kernel_rfl) (by kernel_rfl) (fun _ _ _ h => absurd h.1 (by simp)) (Or.inl ⟨by rfl, ?hyp4123⟩) HS ?restp4123
            case hyp4123 => (intro w hSw; (try dsimp only at hSw); go_simp; try with_reducible rfl)
            (try simp only [Act.put, List.setIfInBounds_toArray, List.set_cons_zero, List.set_cons_succ])
            clear HS
            have r0 := (blk_cell hf412_4 0).trans rfl
            have z0 := blk_frozen hf412_4 0
            have r1 := (blk_cell hf412_4 1).trans rfl
            have z1 := blk_frozen hf412_4 1
            have r2 := (blk_cell hf412_4 2).trans rfl
            have z2 := blk_frozen hf412_4 2
            have r3 := (blk_cell hf412_4 3).trans rfl
            have z3 := blk_frozen hf412_4 3
            have r4 := (blk_cell hf412_4 4).trans rfl
            have z4 := blk_frozen hf412_4 4
            refine Za.nextL 5 (by kernel_rfl) rfl (fun K' hK => ?_)
            go_simp
            refine hK.out _ _ ⟨fun _ => trivial, ?_⟩
            clear hK K'
            (try simp only [Act.put, List.setIfInBounds_toArray, List.set_cons_zero, List.set_cons_succ])
            refine Za.Walk.done (by kernel_rfl) ⟨rfl, _, _, _, _, _, rfl, OpnMem.make (N := W.heap.size) (e := wd.heap.size) (s1 := x4.heap.size) (t1 := x41.heap.size) (s2 := x41.heap.size) (t2 := x412.heap.size) HB412.out hf412_4 hf412_1 hf412 (by omega) (by omega) HN.out (Nat.le_refl _) (by omega) (by omega) (by omega) rfl⟩
        · obtain rfl := Option.some.inj ho
          refine Kd.S_make_step (Kd.int .i64) (w0 := x4) (W := x4) W.heap.size 3 (by rfl) (N := 12) rfl 27 _ _ rfl (4 : Int) rfl rfl Try.underlying27 (.int .i64 0) 8 infoI rfl (by decide) (by decide) 0 (ok := fun k => x4.heap.size ≤ k) (okp := fun _ => False) rfl (fun _ h => h.elim) (Nat.le_refl _) (by decide) (by decide) (below_mono2 (Below.refl _ _) HN4.out) HN4.out ?_
          intro v3 x42 hs42 _ hg42 _
          obtain ⟨P3, c3, rfl⟩ := Kd.S_slice hs42
          have hb42 := grown_none hg42
          clear hg42
          refine hK.out _ _ ⟨fun _ => trivial, ?_⟩
          clear hK K' ho
          (try simp only [Act.put, List.setIfInBounds_toArray, List.set_cons_zero, List.set_cons_succ])
          have hf42 := Kd.S_mono (Kd.S_bound hs42) (ok' := fun k => x4.heap.size ≤ k ∧ k < x42.heap.size) (fun k hk => ⟨hk.1, hk.2.2.1⟩)
          clear hs42
          have hz42 := hb42.size
          have HB42 := Aside0.mk (below_then HB4.out HB4.out.size hb42)
          have HB042 := Aside0.mk (below_then HB04.out HB04.out.size hb42)
          have HN42 : Aside0 (W.heap.size ≤ x42.heap.size) := ⟨Nat.le_trans HN4.out hz42⟩
          have hf42_4 := blk_below hf4 hb42
          clear hf4
          clear hb42
          refine Go.Proofs.Ytckblabkapeigaa.Zb.nextsL [1] (by kernel_rfl) (by simp) (fun i hi oo ho K' hK => ?_)
          simp only [List.mem_cons, List.not_mem_nil, or_false] at hi
          subst hi
          · obtain rfl := Option.some.inj ho
            go_simp
            (go_at_call 19; refine (cloneRules_any A c l _ (by omega) HC.out (HL.out.below HB042.out)).mono ?_; rintro e x421 ⟨vr, rfl, hs421, hb421⟩; obtain ⟨Pr, cr, rfl⟩ := Kd.S_slice hs421)
            go_wp2_with fail
            refine hK.out _ _ ⟨fun _ => trivial, ?_⟩
            clear hK K' ho
            (try simp only [Act.put, List.setIfInBounds_toArray, List.set_cons_zero, List.set_cons_succ])
            have hf421 := Kd.S_lower (Kd.S_mono (Kd.S_bound hs421) (ok' := fun k => x42.heap.size ≤ k ∧ k < x421.heap.size) (fun k hk => ⟨hk.2.1, hk.2.2.1⟩)) HN42.out
            clear hs421
            have hz421 := hb421.size
            have HB421 := Aside0.mk (below_then HB42.out HB42.out.size hb421)
            have HB0421 := Aside0.mk (below_then HB042.out HB042.out.size hb421)
            have HN421 : Aside0 (W.heap.size ≤ x421.heap.size) := ⟨Nat.le_trans HN42.out hz421⟩
            have hf421_4 := blk_below hf42_4 hb421
            clear hf42_4
            have hf421_2 := Kd.S_below hf42 hb421
            clear hf42
            clear hb421
            have HS : (fun _ : World => True) x421 := trivial
            refine Za.takeL 3 (v := ?vp4213) rfl (by kernel_rfl) (by kernel_rfl) (by kernel_rfl) (by kernel_rfl) (fun _ _ _ h => absurd h.1 (by simp)) (Or.inl ⟨by rfl, ?hyp4213⟩) HS ?restp4213
            case hyp4213 => (intro w hSw; (try dsimp only at hSw); go_simp; try with_reducible rfl)
            (try simp only [Act.put, List.setIfInBounds_toArray, List.set_cons_zero, List.set_cons_succ])
            clear HS
            have r0 := (blk_cell hf421_4 0).trans rfl
            have z0 := blk_frozen hf421_4 0
            have r1 := (blk_cell hf421_4 1).trans rfl
            have z1 := blk_frozen hf421_4 1
            have r2 := (blk_cell hf421_4 2).trans rfl
            have z2 := blk_frozen hf421_4 2
            have r3 := (blk_cell hf421_4 3).trans rfl
            have z3 := blk_frozen hf421_4 3
            have r4 := (blk_cell hf421_4 4).trans rfl
            have z4 := blk_frozen hf421_4 4
            refine Za.nextL 5 (by kernel_rfl) rfl (fun K' hK => ?_)
            go_simp
            refine hK.out _ _ ⟨fun _ => trivial, ?_⟩
            clear hK K'
            (try simp only [Act.put, List.setIfInBounds_toArray, List.set_cons_zero, List.set_cons_succ])
            refine Za.Walk.done (by kernel_rfl) ⟨rfl, _, _, _, _, _, rfl, OpnMem.make (N := W.heap.size) (e := wd.heap.size) (s1 := x42.heap.size) (t1 := x421.heap.size) (s2 := x4.heap.size) (t2 := x42.heap.size) HB421.out hf421_4 hf421 hf421_2 (by omega) (by omega) HN.out (Nat.le_refl _) (by omega) (by omega) (by omega) rfl⟩

    · rintro a' w4 ⟨vr, v3, P1, P3, e, rfl, hm⟩
      (try simp only [Act.put, List.setIfInBounds_toArray, List.set_cons_zero, List.set_cons_succ])
      have HM4 := Aside0.mk hm
      clear hm HDD HB2
      go_upto_region 5 with fail
      go_loopw [16] (fun vi wr => ∃ (k : Nat) (vg : Value), k ≤ l.length ∧ vi = .int .i64 k ∧ Aside0 (OpnMem W wr W.heap.size e vr v3 P1 P3 l vg ((l.take k).map grR))) (fun vi _ => l.length - (intOf vi).toNat)
      case atStart => exact ⟨0, _, Nat.zero_le _, rfl, ⟨by simpa using HM4.out⟩⟩
      case round =>
        clear HM4
        obtain ⟨k, vg, hk, rfl, HM⟩ := hrel
        by_cases hlt : k < l.length
        · obtain ⟨ad, A2, c3, rfl, y0, y1, y2, y3, y4, y5, y6, y7, y8, y9, y10, y11, hIs⟩ := atRule HL.out k hlt
          have hmem : l.getD k zRule ∈ l := by rw [List.getD_eq_getElem?_getD, List.getElem?_eq_getElem hlt]; exact List.getElem_mem hlt
          have HQ := Aside0.mk (HC.out _ hmem)
          have hT : (l.take (k + 1)).map grR = (l.take k).map grR ++ [grO (l.getD k zRule).f3 (l.getD k zRule).f2] := by
            rw [take_succ_getD l k zRule hlt, List.map_append]; rfl
          have HT := Aside0.mk hT
          have hgl : ((l.take k).map grR).length ≤ 1048576 := by rw [List.length_map, List.length_take]; omega
          have HGL := Aside0.mk hgl
          have g1 : decide (k < l.length) = true := decide_eq_true hlt
          have i1 : (k : Int) < l.length := by omega
          generalize l.getD k zRule = o at y0 y1 y2 y3 y4 y5 y6 y7 y8 y9 y10 y11 hIs HT HQ
          generalize (l.take k).map grR = gs at HM HT HGL
          have HYW := Aside0.mk (And.intro y2 (And.intro y3 (And.intro y4 (And.intro y5 y6))))
          replace y0 := pw_cell_below HM.out.below y0
          replace y1 := pw_cell_below HM.out.below y1
          replace y2 := pw_cell_below HM.out.below y2
          replace y3 := pw_cell_below HM.out.below y3
          replace y4 := pw_cell_below HM.out.below y4
          replace y5 := pw_cell_below HM.out.below y5
          replace y6 := pw_cell_below HM.out.below y6
          replace y7 := pw_cell_below HM.out.below y7
          replace y8 := pw_cell_below HM.out.below y8
          replace y9 := pw_cell_below HM.out.below y9
          replace y10 := pw_cell_below HM.out.below y10
          replace y11 := pw_cell_below HM.out.below y11
          have HIS := Aside0.mk (hIs.below HM.out.below)
          clear hT hIs hmem hgl
          go_upto_region 7 with fail
          have hba := below_alloc (Below.refl wr.heap.size wr) (.cells #[.string o.f0, .int .i64 o.f1, .int .i64 o.f2, .int .i64 o.f3.f0, .int .i64 o.f3.f1, .int .i64 o.f3.f2, .slice A2 o.f3.f3.length c3, .int .i64 o.f4, .int .i64 o.f5, .int .i64 o.f6, .int .i64 o.f7, .int .i64 o.f8] 54)
          have bX := blk_new wr (.cells #[.string o.f0, .int .i64 o.f1, .int .i64 o.f2, .int .i64 o.f3.f0, .int .i64 o.f3.f1, .int .i64 o.f3.f2, .slice A2 o.f3.f3.length c3, .int .i64 o.f4, .int .i64 o.f5, .int .i64 o.f6, .int .i64 o.f7, .int .i64 o.f8] 54)
          have HM7 := Aside0.mk (HM.out.grow hba)
          have HIS7 := Aside0.mk (HIS.out.below hba)
          obtain ⟨K, hK⟩ : ∃ K, K = wr.heap.size := ⟨_, rfl⟩
          rw [← hK] at bX ⊢
          generalize wr.alloc (.cells #[.string o.f0, .int .i64 o.f1, .int .i64 o.f2, .int .i64 o.f3.f0, .int .i64 o.f3.f1, .int .i64 o.f3.f2, .slice A2 o.f3.f3.length c3, .int .i64 o.f4, .int .i64 o.f5, .int .i64 o.f6, .int .i64 o.f7, .int .i64 o.f8] 54) = W7 at hba bX HM7 HIS7 ⊢
          clear hK HM HIS y0 y1 y2 y3 y4 y5 y6 y7 y8 y9 y10 y11 hba
          have HDD : Below W7.heap.size W7 W7.drew := below_drew (Below.refl _ _)
          obtain ⟨V, nv, cv, rfl⟩ : ∃ V n c, vg = .slice V n c := by obtain ⟨V, c, h⟩ := Kd.S_slice HM7.out.graphs; exact ⟨V, _, c, h⟩
          have FF : Aside0 (∀ w' : World, OpnMem W w' W.heap.size e vr v3 P1 P3 l (.slice V nv cv) gs → w'.heap[K]? = some (.cells #[.string o.f0, .int .i64 o.f1, .int .i64 o.f2, .int .i64 o.f3.f0, .int .i64 o.f3.f1, .int .i64 o.f3.f2, .slice A2 o.f3.f3.length c3, .int .i64 o.f4, .int .i64 o.f5, .int .i64 o.f6, .int .i64 o.f7, .int .i64 o.f8] 54 (0, 0)) → (fun w' => w'.cell? ⟨e, 1, none⟩ = some (.slice V nv cv) ∧ (w'.cell? ⟨K, 2, none⟩ = some (.int .i64 o.f2) ∧ w'.cell? ⟨K, 3, none⟩ = some (.int .i64 o.f3.f0) ∧ w'.cell? ⟨K, 4, none⟩ = some (.int .i64 o.f3.f1) ∧ w'.cell? ⟨K, 5, none⟩ = some (.int .i64 o.f3.f2) ∧ w'.cell? ⟨K, 6, none⟩ = some (.slice A2 o.f3.f3.length c3))) w') := ⟨fun w' h hx => ⟨(blk_cell h.box 1).trans rfl, (blk_cell hx 2).trans rfl, (blk_cell hx 3).trans rfl, (blk_cell hx 4).trans rfl, (blk_cell hx 5).trans rfl, (blk_cell hx 6).trans rfl⟩⟩
          refine Za.regionL (fun w' => w'.cell? ⟨e, 1, none⟩ = some (.slice V nv cv) ∧ (w'.cell? ⟨K, 2, none⟩ = some (.int .i64 o.f2) ∧ w'.cell? ⟨K, 3, none⟩ = some (.int .i64 o.f3.f0) ∧ w'.cell? ⟨K, 4, none⟩ = some (.int .i64 o.f3.f1) ∧ w'.cell? ⟨K, 5, none⟩ = some (.int .i64 o.f3.f2) ∧ w'.cell? ⟨K, 6, none⟩ = some (.slice A2 o.f3.f3.length c3))) [10] (by kernel_rfl) ?_
          have HMD := Aside0.mk (HM7.out.grow HDD)
          have HID := Aside0.mk (HIS7.out.below HDD)
          have HXD := Aside0.mk (blk_below bX HDD)
          clear HM7 HIS7 bX HDD
          generalize W7.drew = wd at HMD HID HXD ⊢
          have HS : (fun w' => w'.cell? ⟨e, 1, none⟩ = some (.slice V nv cv) ∧ (w'.cell? ⟨K, 2, none⟩ = some (.int .i64 o.f2) ∧ w'.cell? ⟨K, 3, none⟩ = some (.int .i64 o.f3.f0) ∧ w'.cell? ⟨K, 4, none⟩ = some (.int .i64 o.f3.f1) ∧ w'.cell? ⟨K, 5, none⟩ = some (.int .i64 o.f3.f2) ∧ w'.cell? ⟨K, 6, none⟩ = some (.slice A2 o.f3.f3.length c3))) wd := FF.out _ HMD.out HXD.out
          refine Za.takeL 0 (v := ?vg0) rfl (by kernel_rfl) (by kernel_rfl) (by kernel_rfl) (by kernel_rfl) (fun _ _ _ h => h) (Or.inl ⟨by rfl, ?hyg0⟩) HS ?restg0
          case hyg0 => (intro w hSw; (try dsimp only at hSw); go_simp; try with_reducible rfl)
          (try simp only [Act.put, List.setIfInBounds_toArray, List.set_cons_zero, List.set_cons_succ])
          refine Za.takeL 1 (v := ?vg1) rfl (by kernel_rfl) (by kernel_rfl) (by kernel_rfl) (by kernel_rfl) (fun _ _ _ h => h) (Or.inl ⟨by rfl, ?hyg1⟩) HS ?restg1
          case hyg1 => (intro w hSw; (try dsimp only at hSw); go_simp; try with_reducible rfl)
          (try simp only [Act.put, List.setIfInBounds_toArray, List.set_cons_zero, List.set_cons_succ])
          refine Za.takeL 2 (v := ?vg2) rfl (by kernel_rfl) (by kernel_rfl) (by kernel_rfl) (by kernel_rfl) (fun _ _ _ h => h) (Or.inl ⟨by rfl, ?hyg2⟩) HS ?restg2
          case hyg2 => (intro w hSw; (try dsimp only at hSw); go_simp; try with_reducible rfl)
          (try simp only [Act.put, List.setIfInBounds_toArray, List.set_cons_zero, List.set_cons_succ])
          refine Za.takeL 3 (v := ?vg3) rfl (by kernel_rfl) (by kernel_rfl) (by kernel_rfl) (by kernel_rfl) (fun _ _ _ h => h) (Or.inl ⟨by rfl, ?hyg3⟩) HS ?restg3
          case hyg3 => (intro w hSw; (try dsimp only at hSw); go_simp; try with_reducible rfl)
          (try simp only [Act.put, List.setIfInBounds_toArray, List.set_cons_zero, List.set_cons_succ])
          refine Za.takeL 4 (v := ?vg4) rfl (by kernel_rfl) (by kernel_rfl) (by kernel_rfl) (by kernel_rfl) (fun _ _ _ h => h) (Or.inl ⟨by rfl, ?hyg4⟩) HS ?restg4
          case hyg4 => (intro w hSw; (try dsimp only at hSw); go_simp; try with_reducible rfl)
          (try simp only [Act.put, List.setIfInBounds_toArray, List.set_cons_zero, List.set_cons_succ])
          refine Za.takeL 5 (v := ?vg5) rfl (by kernel_rfl) (by kernel_rfl) (by kernel_rfl) (by kernel_rfl) (fun _ _ _ h => h) (Or.inl ⟨by rfl, ?hyg5⟩) HS ?restg5
          case hyg5 => (intro w hSw; (try dsimp only at hSw); go_simp; try with_reducible rfl)
          (try simp only [Act.put, List.setIfInBounds_toArray, List.set_cons_zero, List.set_cons_succ])
          clear HS
          refine Za.nextL 6 (by kernel_rfl) rfl (fun K' hK => ?_)
          go_simp
          (go_at_call 20; refine (graphOf_any o.f3 o.f2 A2 c3 _ HQ.out HID.out).mono ?_; rintro e6 w6 ⟨v6, rfl, hs6, hb6⟩)
          generalize grO o.f3 o.f2 = gr at hs6 HT ⊢
          obtain ⟨VG, cg, rfl⟩ := Kd.S_slice hs6
          go_wp2_with fail
          have HM6 := Aside0.mk (HMD.out.grow hb6)
          have HX6 := Aside0.mk (blk_below HXD.out hb6)
          have HG6 := Aside0.mk (Kd.S_lower (Kd.S_mono (Kd.S_bound hs6) (ok' := fun k => wd.heap.size ≤ k ∧ k < w6.heap.size) (fun k hk => ⟨hk.2.1, hk.2.2.1⟩)) HMD.out.below.size)
          have HO6 := Aside0.mk (Kd.S_below (Kd.S_mono (Kd.S_bound HMD.out.graphs) (ok' := fun k => (¬ P1 k ∧ k ≠ e ∧ ¬ P3 k) ∧ ¬ (wd.heap.size ≤ k ∧ k < w6.heap.size)) (fun k hk => ⟨hk.1, fun h => by have := hk.2.2.1; omega⟩)) hb6)
          refine hK.out _ _ ⟨fun _ => FF.out _ HM6.out HX6.out, ?_⟩
          clear hK K' hs6 hb6
          (try simp only [Act.put, List.setIfInBounds_toArray, List.set_cons_zero, List.set_cons_succ])
          have hbb := below_alloc (Below.refl w6.heap.size w6) (.cells #[.int .i64 gr.f0, .slice VG gr.f1.length cg, .int .i64 gr.f2, .int .i64 gr.f3, .bool gr.f4] 48)
          have hS7 := FF.out _ (HM6.out.grow hbb) (blk_below HX6.out hbb)
          refine Za.nextL 7 (by kernel_rfl) rfl (fun K' hK => ?_)
          go_simp
          refine hK.out _ _ ⟨fun _ => hS7, ?_⟩
          clear hK K' hbb hS7
          (try simp only [Act.put, List.setIfInBounds_toArray, List.set_cons_zero, List.set_cons_succ])
          have HLT := Aside0.mk (Kd.S_lt HMD.out.graphs)
          refine Za.nextL 8 (by kernel_rfl) rfl (fun K' hK => ?_)
          refine Kd.S_append_step kGraph (w0 := w6) (W := w6) W.heap.size (by rfl) _ _ 25 48 (.agg #[.int .i64 0, .slice none 0 0, .int .i64 0, .int .i64 0, .bool false]) 56 rfl Try.underlying25 infoGraph rfl (by decide) (by decide) (.slice V nv cv) gs gr [.int .i64 gr.f0, .slice VG gr.f1.length cg, .int .i64 gr.f2, .int .i64 gr.f3, .bool gr.f4] (fun k => ¬ P1 k ∧ k ≠ e ∧ ¬ P3 k) (fun k => wd.heap.size ≤ k ∧ k < w6.heap.size) rfl rfl (kGraph_mkM w6 W.heap.size _ gr HG6.out) (fun k hk => ⟨HMD.out.fresh k hk.1, fun h => by have h1 := HLT.out k h.symm; have h2 := hk.1; omega⟩) (fun k hk => HM6.out.fresh k hk) HO6.out (below_mono2 (Below.refl _ _) HM6.out.below.size) HM6.out.below.size (by have := HGL.out; omega) ?_
          intro v9 w9 hs9 hb9 hg9 hat9
          obtain ⟨V9, n9, c9, rfl⟩ : ∃ V n c, v9 = .slice V n c := by obtain ⟨V, c, h⟩ := Kd.S_slice hs9; exact ⟨V, _, c, h⟩
          have HM9 := Aside0.mk (HM6.out.store (Nat.le_refl _) hs9 hg9)
          have own6 := HM6.out.own
          have b9 := blk_grown HM6.out.box hg9 (fun h => (own6 e h.symm).2.1 rfl)
          have hx9 : w9.heap[K]? = some (.cells #[.string o.f0, .int .i64 o.f1, .int .i64 o.f2, .int .i64 o.f3.f0, .int .i64 o.f3.f1, .int .i64 o.f3.f2, .slice A2 o.f3.f3.length c3, .int .i64 o.f4, .int .i64 o.f5, .int .i64 o.f6, .int .i64 o.f7, .int .i64 o.f8] 54 (0, 0)) := blk_grown HX6.out hg9 (fun h => (Kd.S_typed HM6.out.graphs K h.symm).elim (fun cs hc => by have := HX6.out.symm.trans hc; injection this with this; injection this with _ h2; exact absurd h2 (by decide)))
          refine hK.out _ _ ⟨fun _ => ⟨(blk_cell b9 1).trans rfl, (blk_cell hx9 2).trans rfl, (blk_cell hx9 3).trans rfl, (blk_cell hx9 4).trans rfl, (blk_cell hx9 5).trans rfl, (blk_cell hx9 6).trans rfl⟩, ?_⟩
          clear hK K'
          (try simp only [Act.put, List.setIfInBounds_toArray, List.set_cons_zero, List.set_cons_succ])
          have q1 := (blk_cell b9 1).trans rfl
          have z1 := blk_frozen b9 1
          have HS : (fun w' => w'.cell? ⟨e, 1, none⟩ = some (.slice V nv cv) ∧ (w'.cell? ⟨K, 2, none⟩ = some (.int .i64 o.f2) ∧ w'.cell? ⟨K, 3, none⟩ = some (.int .i64 o.f3.f0) ∧ w'.cell? ⟨K, 4, none⟩ = some (.int .i64 o.f3.f1) ∧ w'.cell? ⟨K, 5, none⟩ = some (.int .i64 o.f3.f2) ∧ w'.cell? ⟨K, 6, none⟩ = some (.slice A2 o.f3.f3.length c3))) w9 := ⟨(blk_cell b9 1).trans rfl, (blk_cell hx9 2).trans rfl, (blk_cell hx9 3).trans rfl, (blk_cell hx9 4).trans rfl, (blk_cell hx9 5).trans rfl, (blk_cell hx9 6).trans rfl⟩
          refine Za.takeL 9 (v := ?vh9) rfl (by kernel_rfl) (by kernel_rfl) (by kernel_rfl) (by kernel_rfl) (fun _ _ _ h => h) (Or.inl ⟨by rfl, ?hyh9⟩) HS ?resth9
          case hyh9 => (intro w hSw; (try dsimp only at hSw); go_simp; try with_reducible rfl)
          (try simp only [Act.put, List.setIfInBounds_toArray, List.set_cons_zero, List.set_cons_succ])
          clear HS
          refine Za.nextL 10 (by kernel_rfl) rfl (fun K' hK => ?_)
          go_simp
          refine hK.out _ _ ⟨fun h => absurd (by simp) h, ?_⟩
          clear hK K'
          (try simp only [Act.put, List.setIfInBounds_toArray, List.set_cons_zero, List.set_cons_succ])
          refine Za.Walk.done (by kernel_rfl) ?_
          clear q1 z1 b9 own6 hs9 hb9 hg9 hat9
          go_wp2
          go_roundw
          case rel => exact ⟨k + 1, _, by omega, by go_num, ⟨by rw [HT.out]; exact HM9.out⟩⟩
          case measure => simp [intOf]; omega
        · have hke : k = l.length := by omega
          subst hke
          have g1 : decide (l.length < l.length) = false := decide_eq_false (by omega)
          rw [List.take_length] at HM
          have b0 := HM.out.box
          obtain ⟨V, nv, cv, rfl⟩ : ∃ V n c, vg = .slice V n c := by obtain ⟨V, c, h⟩ := Kd.S_slice HM.out.graphs; exact ⟨V, _, c, h⟩
          obtain ⟨Vr, nr, cr, rfl⟩ : ∃ V n c, vr = .slice V n c := by obtain ⟨V, c, h⟩ := Kd.S_slice HM.out.rules; exact ⟨V, _, c, h⟩
          obtain ⟨V3, n3, c3, rfl⟩ : ∃ V n c, v3 = .slice V n c := by obtain ⟨V, c, h⟩ := Kd.R_slice HM.out.keys; exact ⟨V, _, c, h⟩
          have p0 := (blk_cell b0 0).trans rfl
          have p1 := (blk_cell b0 1).trans rfl
          have p2 := (blk_cell b0 2).trans rfl
          have p3 := (blk_cell b0 3).trans rfl
          have p4 := (blk_cell b0 4).trans rfl
          have bR := blk_below BB0.out HM.out.below
          have s0 := (blk_cell bR 0).trans rfl
          have s1 := (blk_cell bR 1).trans rfl
          have s2 := (blk_cell bR 2).trans rfl
          have s3 := (blk_cell bR 3).trans rfl
          have s4 := (blk_cell bR 4).trans rfl
          have t0 := blk_frozen bR 0
          have t1 := blk_frozen bR 1
          have t2 := blk_frozen bR 2
          have t3 := blk_frozen bR 3
          have t4 := blk_frozen bR 4
          clear b0
          go_wp2
          refine bodyPost_ret (results_cell_row rfl _ _ w.heap.size 30 #[.slice Vr nr cr, .slice V nv cv, .slice none 0 0, .slice V3 n3 c3, .slice none 0 0] (0, 0) _ rfl (blk_put (cs := #[.slice Vr nr cr, .slice V nv cv, .slice none 0 0, .slice V3 n3 c3, .slice none 0 0]) (blk_put (cs := #[.slice Vr nr cr, .slice V nv cv, .slice none 0 0, .slice none 0 0, .slice none 0 0]) (blk_put (cs := #[.slice Vr nr cr, .slice V nv cv, .slice none 0 0, .slice none 0 0, .slice none 0 0]) (blk_put (cs := #[.slice Vr nr cr, .slice none 0 0, .slice none 0 0, .slice none 0 0, .slice none 0 0]) (blk_put (cs := #[.slice none 0 0, .slice none 0 0, .slice none 0 0, .slice none 0 0, .slice none 0 0]) bR 0 _ rfl) 1 _ rfl) 2 _ rfl) 3 _ rfl) 4 _ rfl) Try.underlying30 rfl (by kernel_rfl)) rfl ?_
          rw [HO.out]
          exact OpnMem.out HM.out HBW.out HSZ.out (Fr.set (Fr.set (Fr.set (Fr.set (Fr.set (Fr.refl _ _) (fun _ => rfl)) (fun _ => rfl)) (fun _ => rfl)) (fun _ => rfl)) (fun _ => rfl))
set_option maxHeartbeats 4000000 in
set_option maxRecDepth 100000 in
theorem sOpen_any (A : Option Addr) (c : Nat) (l : List TRule) (w : World) (hl : l.length ≤ 1048576) (hn : ∀ x ∈ l, x.f0.size ≤ 9223372036854775807) (hc : ∀ x ∈ l, cntL x.f3.f3 ≤ 1048576) (hL : IsS kRule w l A c) :
    Calls Try.prog 5 #[.slice A l.length c] w fun e w' => OpenOut w w' (opE l) e := by
  have hb0 := below_alloc (Below.refl w.heap.size w) (.cells #[.slice none 0 0, .slice none 0 0, .slice none 0 0, .slice none 0 0, .slice none 0 0] 30)
  have b0 := blk_new w (.cells #[.slice none 0 0, .slice none 0 0, .slice none 0 0, .slice none 0 0, .slice none 0 0] 30)
  have hsz : (w.alloc (.cells #[.slice none 0 0, .slice none 0 0, .slice none 0 0, .slice none 0 0, .slice none 0 0] 30)).heap.size = w.heap.size + 1 := by simp
  have HL := Aside0.mk (hL.below hb0)
  have HNM := Aside0.mk hn
  have HC := Aside0.mk hc
  clear hL hn hc
  cases hk : rulesB l with
  | false =>
    have HO : Aside0 (opE l = zEng) := ⟨if_neg (by rw [hk]; simp)⟩
    have HK := Aside0.mk hk
    clear hk
    go_enter Try.func5, Try.ntmps5
    go_upto_region 1 with fail
    generalize w.alloc (.cells #[.slice none 0 0, .slice none 0 0, .slice none 0 0, .slice none 0 0, .slice none 0 0] 30) = W at hb0 b0 hsz HL ⊢
    have HB0 := Aside0.mk hb0
    have BB0 := Aside0.mk b0
    clear hb0 b0 hsz
    go_wp2_with (go_at_call 14; refine (sRulesOk_any A c l _ hl HNM.out HC.out HL.out).mono ?_; rintro e w2 ⟨rfl, hb2⟩; rw [HK.out]; have HB2 := Aside0.mk (below_then HB0.out HB0.out.size hb2); have g1' := blk_below BB0.out hb2; have s0 := (blk_cell g1' 0).trans rfl; have t0 := blk_frozen g1' 0; have s1 := (blk_cell g1' 1).trans rfl; have t1 := blk_frozen g1' 1; have s2 := (blk_cell g1' 2).trans rfl; have t2 := blk_frozen g1' 2; have s3 := (blk_cell g1' 3).trans rfl; have t3 := blk_frozen g1' 3; have s4 := (blk_cell g1' 4).trans rfl; have t4 := blk_frozen g1' 4; clear hb2)
    refine bodyPost_ret (results_cell_row rfl _ _ w.heap.size 30 #[.slice none 0 0, .slice none 0 0, .slice none 0 0, .slice none 0 0, .slice none 0 0] (0, 0) _ rfl (blk_put (cs := #[.slice none 0 0, .slice none 0 0, .slice none 0 0, .slice none 0 0, .slice none 0 0]) (blk_put (cs := #[.slice none 0 0, .slice none 0 0, .slice none 0 0, .slice none 0 0, .slice none 0 0]) (blk_put (cs := #[.slice none 0 0, .slice none 0 0, .slice none 0 0, .slice none 0 0, .slice none 0 0]) (blk_put (cs := #[.slice none 0 0, .slice none 0 0, .slice none 0 0, .slice none 0 0, .slice none 0 0]) (blk_put (cs := #[.slice none 0 0, .slice none 0 0, .slice none 0 0, .slice none 0 0, .slice none 0 0]) g1' 0 _ rfl) 1 _ rfl) 2 _ rfl) 3 _ rfl) 4 _ rfl) Try.underlying30 rfl (by kernel_rfl)) rfl ?_
    rw [HO.out]
    exact OpenOut.zero (((((HB2.out.setCell (p := ⟨w.heap.size, 0, none⟩) (Nat.le_refl _) _).setCell (p := ⟨w.heap.size, 1, none⟩) (Nat.le_refl _) _).setCell (p := ⟨w.heap.size, 2, none⟩) (Nat.le_refl _) _).setCell (p := ⟨w.heap.size, 3, none⟩) (Nat.le_refl _) _).setCell (p := ⟨w.heap.size, 4, none⟩) (Nat.le_refl _) _)
  | true =>
    have HO : Aside0 (opE l = ⟨l, l.map grR, [], [0, 0, 0, 0], []⟩) := ⟨if_pos hk⟩
    have HK := Aside0.mk hk
    clear hk
    go_enter Try.func5, Try.ntmps5
    go_upto_region 1 with fail
    generalize w.alloc (.cells #[.slice none 0 0, .slice none 0 0, .slice none 0 0, .slice none 0 0, .slice none 0 0] 30) = W at hb0 b0 hsz HL ⊢
    have HBW := Aside0.mk hb0
    have BB0 := Aside0.mk b0
    have HSZ := Aside0.mk hsz
    clear hb0 b0 hsz
    go_upto_region 3 with (go_at_call 14; refine (sRulesOk_any A c l _ hl HNM.out HC.out HL.out).mono ?_; rintro e w2 ⟨rfl, hb2⟩; rw [HK.out]; have HB2 := Aside0.mk hb2; clear hb2)
    have HDD : Below w2.heap.size w2 w2.drew := below_drew (Below.refl _ _)
    refine Go.Proofs.Ytckblabkapeigaa.Zb.region_cut (fun a a' w' => ∃ (vr v3 : Value) (P1 P3 : Nat → Prop) (e : Nat), a' = ((((a.put (some 9) (.slice A l.length c)).put (some 10) vr).put (some 11) v3).put (some 12) (.agg #[vr, .slice none 0 0, .slice none 0 0, v3, .slice none 0 0])).put (some 3) (.pointer (some ⟨e, 0, none⟩)) ∧ OpnMem W w' W.heap.size e vr v3 P1 P3 l (.slice none 0 0) []) ?_ ?_
    · have HB0 := Aside0.mk (below_then HB2.out HB2.out.size HDD)
      have HB := HB0
      have HN : Aside0 (W.heap.size ≤ w2.drew.heap.size) := ⟨HB0.out.size⟩
      refine Za.regionL (fun _ => True) [] (by kernel_rfl) ?_
      generalize w2.drew = wd at HB HB0 HN ⊢
      have HS : (fun _ : World => True) wd := trivial
      refine Za.takeL 0 (v := ?vp0) rfl (by kernel_rfl) (by kernel_rfl) (by kernel_rfl) (by kernel_rfl) (fun _ _ _ h => absurd h.1 (by simp)) (Or.inl ⟨by rfl, ?hyp0⟩) HS ?restp0
      case hyp0 => (intro w hSw; (try dsimp only at hSw); go_simp; try with_reducible rfl)
      (try simp only [Act.put, List.setIfInBounds_toArray, List.set_cons_zero, List.set_cons_succ])
      clear HS
      refine Go.Proofs.Ytckblabkapeigaa.Zb.nextsL [1, 2, 4] (by kernel_rfl) (by simp) (fun i hi oo ho K' hK => ?_)
      simp only [List.mem_cons, List.not_mem_nil, or_false] at hi
      rcases hi with rfl | rfl | rfl
      · obtain rfl := Option.some.inj ho
        go_simp
        (go_at_call 15; refine (l8Copy_any A c l _ (by omega) HC.out (HL.out.below HB0.out)).mono ?_; rintro e x1 ⟨vr, rfl, hs1, hb1⟩; obtain ⟨Pr, cr, rfl⟩ := Kd.S_slice hs1)
        go_wp2_with fail
        refine hK.out _ _ ⟨fun _ => trivial, ?_⟩
        clear hK K' ho
        (try simp only [Act.put, List.setIfInBounds_toArray, List.set_cons_zero, List.set_cons_succ])
        have hf1 := Kd.S_lower (Kd.S_mono (Kd.S_bound hs1) (ok' := fun k => wd.heap.size ≤ k ∧ k < x1.heap.size) (fun k hk => ⟨hk.2.1, hk.2.2.1⟩)) HN.out
        clear hs1
        have hz1 := hb1.size
        have HB1 := Aside0.mk (below_then HB.out HB.out.size hb1)
        have HB01 := Aside0.mk (below_then HB0.out HB0.out.size hb1)
        have HN1 : Aside0 (W.heap.size ≤ x1.heap.size) := ⟨Nat.le_trans HN.out hz1⟩
        clear hb1
        refine Go.Proofs.Ytckblabkapeigaa.Zb.nextsL [2, 4] (by kernel_rfl) (by simp) (fun i hi oo ho K' hK => ?_)
        simp only [List.mem_cons, List.not_mem_nil, or_false] at hi
        rcases hi with rfl | rfl
        · obtain rfl := Option.some.inj ho
          refine Kd.S_make_step (Kd.int .i64) (w0 := x1) (W := x1) W.heap.size 3 (by rfl) (N := 11) rfl 27 _ _ rfl (4 : Int) rfl rfl Try.underlying27 (.int .i64 0) 8 infoI rfl (by decide) (by decide) 0 (ok := fun k => x1.heap.size ≤ k) (okp := fun _ => False) rfl (fun _ h => h.elim) (Nat.le_refl _) (by decide) (by decide) (below_mono2 (Below.refl _ _) HN1.out) HN1.out ?_
          intro v3 x12 hs12 _ hg12 _
          obtain ⟨P3, c3, rfl⟩ := Kd.S_slice hs12
          have hb12 := grown_none hg12
          clear hg12
          refine hK.out _ _ ⟨fun _ => trivial, ?_⟩
          clear hK K' ho
          (try simp only [Act.put, List.setIfInBounds_toArray, List.set_cons_zero, List.set_cons_succ])
          have hf12 := Kd.S_mono (Kd.S_bound hs12) (ok' := fun k => x1.heap.size ≤ k ∧ k < x12.heap.size) (fun k hk => ⟨hk.1, hk.2.2.1⟩)
          clear hs12
          have hz12 := hb12.size
          have HB12 := Aside0.mk (below_then HB1.out HB1.out.size hb12)
          have HB012 := Aside0.mk (below_then HB01.out HB01.out.size hb12)
          have HN12 : Aside0 (W.heap.size ≤ x12.heap.size) := ⟨Nat.le_trans HN1.out hz12⟩
          have hf12_1 := Kd.S_below hf1 hb12
          clear hf1
          clear hb12
          have HS : (fun _ : World => True) x12 := trivial
          refine Za.takeL 3 (v := ?vp123) rfl (by kernel_rfl) (by kernel_rfl) (by kernel_rfl) (by kernel_rfl) (fun _ _ _ h => absurd h.1 (by simp)) (Or.inl ⟨by rfl, ?hyp123⟩) HS ?restp123
          case hyp123 => (intro w hSw; (try dsimp only at hSw); go_simp; try with_reducible rfl)
          (try simp only [Act.put, List.setIfInBounds_toArray, List.set_cons_zero, List.set_cons_succ])
          clear HS
          refine Go.Proofs.Ytckblabkapeigaa.Zb.nextsL [4] (by kernel_rfl) (by simp) (fun i hi oo ho K' hK => ?_)
          simp only [List.mem_cons, List.not_mem_nil, or_false] at hi
          subst hi
          · obtain rfl := Option.some.inj ho
            go_simp
            refine hK.out _ _ ⟨fun _ => trivial, ?_⟩
            clear hK K' ho
            (try simp only [Act.put, List.setIfInBounds_toArray, List.set_cons_zero, List.set_cons_succ])
            have hb124 := below_alloc (Below.refl x12.heap.size x12) (.cells #[.slice none 0 0, .slice none 0 0, .slice none 0 0, .slice none 0 0, .slice none 0 0] 30)
            have hf124 := blk_new x12 (.cells #[.slice none 0 0, .slice none 0 0, .slice none 0 0, .slice none 0 0, .slice none 0 0] 30)
            have hq124 : (x12.alloc (.cells #[.slice none 0 0, .slice none 0 0, .slice none 0 0, .slice none 0 0, .slice none 0 0] 30)).heap.size = x12.heap.size + 1 := by simp
            generalize x12.alloc (.cells #[.slice none 0 0, .slice none 0 0, .slice none 0 0, .slice none 0 0, .slice none 0 0] 30) = x124 at hb124 hf124 hq124 ⊢
            have hz124 := hb124.size
            have HB124 := Aside0.mk (below_then HB12.out HB12.out.size hb124)
            have HB0124 := Aside0.mk (below_then HB012.out HB012.out.size hb124)
            have HN124 : Aside0 (W.heap.size ≤ x124.heap.size) := ⟨Nat.le_trans HN12.out hz124⟩
            have hf124_1 := Kd.S_below hf12_1 hb124
            clear hf12_1
            have hf124_2 := Kd.S_below hf12 hb124
            clear hf12
            clear hb124
            have r0 := (blk_cell hf124 0).trans rfl
            have z0 := blk_frozen hf124 0
            have r1 := (blk_cell hf124 1).trans rfl
            have z1 := blk_frozen hf124 1
            have r2 := (blk_cell hf124 2).trans rfl
            have z2 := blk_frozen hf124 2
            have r3 := (blk_cell hf124 3).trans rfl
            have z3 := blk_frozen hf124 3
            have r4 := (blk_cell hf124 4).trans rfl
            have z4 := blk_frozen hf124 4
            refine Za.nextL 5 (by kernel_rfl) rfl (fun K' hK => ?_)
            go_simp
            refine hK.out _ _ ⟨fun _ => trivial, ?_⟩
            clear hK K'
            (try simp only [Act.put, List.setIfInBounds_toArray, List.set_cons_zero, List.set_cons_succ])
            refine Za.Walk.done (by kernel_rfl) ⟨rfl, _, _, _, _, _, rfl, OpnMem.make (N := W.heap.size) (e := x12.heap.size) (s1 := wd.heap.size) (t1 := x1.heap.size) (s2 := x1.heap.size) (t2 := x12.heap.size) HB124.out hf124 hf124_1 hf124_2 (by omega) (by omega) HN12.out (Nat.le_refl _) (by omega) (by omega) (by omega) rfl⟩
        · obtain rfl := Option.some.inj ho
          go_simp
          refine hK.out _ _ ⟨fun _ => trivial, ?_⟩
          clear hK K' ho
          (try simp only [Act.put, List.setIfInBounds_toArray, List.set_cons_zero, List.set_cons_succ])
          have hb14 := below_alloc (Below.refl x1.heap.size x1) (.cells #[.slice none 0 0, .slice none 0 0, .slice none 0 0, .slice none 0 0, .slice none 0 0] 30)
          have hf14 := blk_new x1 (.cells #[.slice none 0 0, .slice none 0 0, .slice none 0 0, .slice none 0 0, .slice none 0 0] 30)
          have hq14 : (x1.alloc (.cells #[.slice none 0 0, .slice none 0 0, .slice none 0 0, .slice none 0 0, .slice none 0 0] 30)).heap.size = x1.heap.size + 1 := by simp
          generalize x1.alloc (.cells #[.slice none 0 0, .slice none 0 0, .slice none 0 0, .slice none 0 0, .slice none 0 0] 30) = x14 at hb14 hf14 hq14 ⊢
          have hz14 := hb14.size
          have HB14 := Aside0.mk (below_then HB1.out HB1.out.size hb14)
          have HB014 := Aside0.mk (below_then HB01.out HB01.out.size hb14)
          have HN14 : Aside0 (W.heap.size ≤ x14.heap.size) := ⟨Nat.le_trans HN1.out hz14⟩
          have hf14_1 := Kd.S_below hf1 hb14
          clear hf1
          clear hb14
          refine Go.Proofs.Ytckblabkapeigaa.Zb.nextsL [2] (by kernel_rfl) (by simp) (fun i hi oo ho K' hK => ?_)
          simp only [List.mem_cons, List.not_mem_nil, or_false] at hi
          subst hi
          · obtain rfl := Option.some.inj ho
            refine Kd.S_make_step (Kd.int .i64) (w0 := x14) (W := x14) W.heap.size 3 (by rfl) (N := 11) rfl 27 _ _ rfl (4 : Int) rfl rfl Try.underlying27 (.int .i64 0) 8 infoI rfl (by decide) (by decide) 0 (ok := fun k => x14.heap.size ≤ k) (okp := fun _ => False) rfl (fun _ h => h.elim) (Nat.le_refl _) (by decide) (by decide) (below_mono2 (Below.refl _ _) HN14.out) HN14.out ?_
            intro v3 x142 hs142 _ hg142 _
            obtain ⟨P3, c3, rfl⟩ := Kd.S_slice hs142
            have hb142 := grown_none hg142
            clear hg142
            refine hK.out _ _ ⟨fun _ => trivial, ?_⟩
            clear hK K' ho
            (try simp only [Act.put, List.setIfInBounds_toArray, List.set_cons_zero, List.set_cons_succ])
            have hf142 := Kd.S_mono (Kd.S_bound hs142) (ok' := fun k => x14.heap.size ≤ k ∧ k < x142.heap.size) (fun k hk => ⟨hk.1, hk.2.2.1⟩)
            clear hs142
            have hz142 := hb142.size
            have HB142 := Aside0.mk (below_then HB14.out HB14.out.size hb142)
            have HB0142 := Aside0.mk (below_then HB014.out HB014.out.size hb142)
            have HN142 : Aside0 (W.heap.size ≤ x142.heap.size) := ⟨Nat.le_trans HN14.out hz142⟩
            have hf142_1 := Kd.S_below hf14_1 hb142
            clear hf14_1
            have hf142_4 := blk_below hf14 hb142
            clear hf14
            clear hb142
            have HS : (fun _ : World => True) x142 := trivial
            refine Za.takeL 3 (v := ?vp1423) rfl (by kernel_rfl) (by kernel_rfl) (by kernel_rfl) (by kernel_rfl) (fun _ _ _ h => absurd h.1 (by simp)) (Or.inl ⟨by rfl, ?hyp1423⟩) HS ?restp1423
            case hyp1423 => (intro w hSw; (try dsimp only at hSw); go_simp; try with_reducible rfl)
            (try simp only [Act.put, List.setIfInBounds_toArray, List.set_cons_zero, List.set_cons_succ])
            clear HS
            have r0 := (blk_cell hf142_4 0).trans rfl
            have z0 := blk_frozen hf142_4 0
            have r1 := (blk_cell hf142_4 1).trans rfl
            have z1 := blk_frozen hf142_4 1
            have r2 := (blk_cell hf142_4 2).trans rfl
            have z2 := blk_frozen hf142_4 2
            have r3 := (blk_cell hf142_4 3).trans rfl
            have z3 := blk_frozen hf142_4 3
            have r4 := (blk_cell hf142_4 4).trans rfl
            have z4 := blk_frozen hf142_4 4
            refine Za.nextL 5 (by kernel_rfl) rfl (fun K' hK => ?_)
            go_simp
            refine hK.out _ _ ⟨fun _ => trivial, ?_⟩
            clear hK K'
            (try simp only [Act.put, List.setIfInBounds_toArray, List.set_cons_zero, List.set_cons_succ])
            refine Za.Walk.done (by kernel_rfl) ⟨rfl, _, _, _, _, _, rfl, OpnMem.make (N := W.heap.size) (e := x1.heap.size) (s1 := wd.heap.size) (t1 := x1.heap.size) (s2 := x14.heap.size) (t2 := x142.heap.size) HB142.out hf142_4 hf142_1 hf142 (by omega) (by omega) HN1.out (Nat.le_refl _) (by omega) (by omega) (by omega) rfl⟩
      · obtain rfl := Option.some.inj ho
        refine Kd.S_make_step (Kd.int .i64) (w0 := wd) (W := wd) W.heap.size 3 (by rfl) (N := 11) rfl 27 _ _ rfl (4 : Int) rfl rfl Try.underlying27 (.int .i64 0) 8 infoI rfl (by decide) (by decide) 0 (ok := fun k => wd.heap.size ≤ k) (okp := fun _ => False) rfl (fun _ h => h.elim) (Nat.le_refl _) (by decide) (by decide) (below_mono2 (Below.refl _ _) HN.out) HN.out ?_
        intro v3 x2 hs2 _ hg2 _
        obtain ⟨P3, c3, rfl⟩ := Kd.S_slice hs2
        have hb2 := grown_none hg2
        clear hg2
        refine hK.out _ _ ⟨fun _ => trivial, ?_⟩
        clear hK K' ho
        (try simp only [Act.put, List.setIfInBounds_toArray, List.set_cons_zero, List.set_cons_succ])
        have hf2 := Kd.S_mono (Kd.S_bound hs2) (ok' := fun k => wd.heap.size ≤ k ∧ k < x2.heap.size) (fun k hk => ⟨hk.1, hk.2.2.1⟩)
        clear hs2
        have hz2 := hb2.size
        have HB2 := Aside0.mk (below_then HB.out HB.out.size hb2)
        have HB02 := Aside0.mk (below_then HB0.out HB0.out.size hb2)
        have HN2 : Aside0 (W.heap.size ≤ x2.heap.size) := ⟨Nat.le_trans HN.out hz2⟩
        clear hb2
        refine Go.Proofs.Ytckblabkapeigaa.Zb.nextsL [1, 4] (by kernel_rfl) (by simp) (fun i hi oo ho K' hK => ?_)
        simp only [List.mem_cons, List.not_mem_nil, or_false] at hi
        rcases hi with rfl | rfl
        · obtain rfl := Option.some.inj ho
          go_simp
          (go_at_call 15; refine (l8Copy_any A c l _ (by omega) HC.out (HL.out.below HB02.out)).mono ?_; rintro e x21 ⟨vr, rfl, hs21, hb21⟩; obtain ⟨Pr, cr, rfl⟩ := Kd.S_slice hs21)
          go_wp2_with fail
          refine hK.out _ _ ⟨fun _ => trivial, ?_⟩
          clear hK K' ho
          (try simp only [Act.put, List.setIfInBounds_toArray, List.set_cons_zero, List.set_cons_succ])
          have hf21 := Kd.S_lower (Kd.S_mono (Kd.S_bound hs21) (ok' := fun k => x2.heap.size ≤ k ∧ k < x21.heap.size) (fun k hk => ⟨hk.2.1, hk.2.2.1⟩)) HN2.out
          clear hs21
          have hz21 := hb21.size
          have HB21 := Aside0.mk (below_then HB2.out HB2.out.size hb21)
          have HB021 := Aside0.mk (below_then HB02.out HB02.out.size hb21)
          have HN21 : Aside0 (W.heap.size ≤ x21.heap.size) := ⟨Nat.le_trans HN2.out hz21⟩
          have hf21_2 := Kd.S_below hf2 hb21
          clear hf2
          clear hb21
          have HS : (fun _ : World => True) x21 := trivial
          refine Za.takeL 3 (v := ?vp213) rfl (by kernel_rfl) (by kernel_rfl) (by kernel_rfl) (by kernel_rfl) (fun _ _ _ h => absurd h.1 (by simp)) (Or.inl ⟨by rfl, ?hyp213⟩) HS ?restp213
          case hyp213 => (intro w hSw; (try dsimp only at hSw); go_simp; try with_reducible rfl)
          (try simp only [Act.put, List.setIfInBounds_toArray, List.set_cons_zero, List.set_cons_succ])
          clear HS
          refine Go.Proofs.Ytckblabkapeigaa.Zb.nextsL [4] (by kernel_rfl) (by simp) (fun i hi oo ho K' hK => ?_)
          simp only [List.mem_cons, List.not_mem_nil, or_false] at hi
          subst hi
          · obtain rfl := Option.some.inj ho
            go_simp
            refine hK.out _ _ ⟨fun _ => trivial, ?_⟩
            clear hK K' ho
            (try simp only [Act.put, List.setIfInBounds_toArray, List.set_cons_zero, List.set_cons_succ])
            have hb214 := below_alloc (Below.refl x21.heap.size x21) (.cells #[.slice none 0 0, .slice none 0 0, .slice none 0 0, .slice none 0 0, .slice none 0 0] 30)
            have hf214 := blk_new x21 (.cells #[.slice none 0 0, .slice none 0 0, .slice none 0 0, .slice none 0 0, .slice none 0 0] 30)
            have hq214 : (x21.alloc (.cells #[.slice none 0 0, .slice none 0 0, .slice none 0 0, .slice none 0 0, .slice none 0 0] 30)).heap.size = x21.heap.size + 1 := by simp
            generalize x21.alloc (.cells #[.slice none 0 0, .slice none 0 0, .slice none 0 0, .slice none 0 0, .slice none 0 0] 30) = x214 at hb214 hf214 hq214 ⊢
            have hz214 := hb214.size
            have HB214 := Aside0.mk (below_then HB21.out HB21.out.size hb214)
            have HB0214 := Aside0.mk (below_then HB021.out HB021.out.size hb214)
            have HN214 : Aside0 (W.heap.size ≤ x214.heap.size) := ⟨Nat.le_trans HN21.out hz214⟩
            have hf214_2 := Kd.S_below hf21_2 hb214
            clear hf21_2
            have hf214_1 := Kd.S_below hf21 hb214
            clear hf21
            clear hb214
            have r0 := (blk_cell hf214 0).trans rfl
            have z0 := blk_frozen hf214 0
            have r1 := (blk_cell hf214 1).trans rfl
            have z1 := blk_frozen hf214 1
            have r2 := (blk_cell hf214 2).trans rfl
            have z2 := blk_frozen hf214 2
            have r3 := (blk_cell hf214 3).trans rfl
            have z3 := blk_frozen hf214 3
            have r4 := (blk_cell hf214 4).trans rfl
            have z4 := blk_frozen hf214 4
            refine Za.nextL 5 (by kernel_rfl) rfl (fun K' hK => ?_)
            go_simp
            refine hK.out _ _ ⟨fun _ => trivial, ?_⟩
            clear hK K'
            (try simp only [Act.put, List.setIfInBounds_toArray, List.set_cons_zero, List.set_cons_succ])
            refine Za.Walk.done (by kernel_rfl) ⟨rfl, _, _, _, _, _, rfl, OpnMem.make (N := W.heap.size) (e := x21.heap.size) (s1 := x2.heap.size) (t1 := x21.heap.size) (s2 := wd.heap.size) (t2 := x2.heap.size) HB214.out hf214 hf214_1 hf214_2 (by omega) (by omega) HN21.out (Nat.le_refl _) (by omega) (by omega) (by omega) rfl⟩
        · obtain rfl := Option.some.inj ho
          go_simp
          refine hK.out _ _ ⟨fun _ => trivial, ?_⟩
          clear hK K' ho
          (try simp only [Act.put, List.setIfInBounds_toArray, List.set_cons_zero, List.set_cons_succ])
          have hb24 := below_alloc (Below.refl x2.heap.size x2) (.cells #[.slice none 0 0, .slice none 0 0, .slice none 0 0, .slice none 0 0, .slice none 0 0] 30)
          have hf24 := blk_new x2 (.cells #[.slice none 0 0, .slice none 0 0, .slice none 0 0, .slice none 0 0, .slice none 0 0] 30)
          have hq24 : (x2.alloc (.cells #[.slice none 0 0, .slice none 0 0, .slice none 0 0, .slice none 0 0, .slice none 0 0] 30)).heap.size = x2.heap.size + 1 := by simp
          generalize x2.alloc (.cells #[.slice none 0 0, .slice none 0 0, .slice none 0 0, .slice none 0 0, .slice none 0 0] 30) = x24 at hb24 hf24 hq24 ⊢
          have hz24 := hb24.size
          have HB24 := Aside0.mk (below_then HB2.out HB2.out.size hb24)
          have HB024 := Aside0.mk (below_then HB02.out HB02.out.size hb24)
          have HN24 : Aside0 (W.heap.size ≤ x24.heap.size) := ⟨Nat.le_trans HN2.out hz24⟩
          have hf24_2 := Kd.S_below hf2 hb24
          clear hf2
          clear hb24
          refine Go.Proofs.Ytckblabkapeigaa.Zb.nextsL [1] (by kernel_rfl) (by simp) (fun i hi oo ho K' hK => ?_)
          simp only [List.mem_cons, List.not_mem_nil, or_false] at hi
          subst hi
          · obtain rfl := Option.some.inj ho
            go_simp
            (go_at_call 15; refine (l8Copy_any A c l _ (by omega) HC.out (HL.out.below HB024.out)).mono ?_; rintro e x241 ⟨vr, rfl, hs241, hb241⟩; obtain ⟨Pr, cr, rfl⟩ := Kd.S_slice hs241)
            go_wp2_with fail
            refine hK.out _ _ ⟨fun _ => trivial, ?_⟩
            clear hK K' ho
            (try simp only [Act.put, List.setIfInBounds_toArray, List.set_cons_zero, List.set_cons_succ])
            have hf241 := Kd.S_lower (Kd.S_mono (Kd.S_bound hs241) (ok' := fun k => x24.heap.size ≤ k ∧ k < x241.heap.size) (fun k hk => ⟨hk.2.1, hk.2.2.1⟩)) HN24.out
            clear hs241
            have hz241 := hb241.size
            have HB241 := Aside0.mk (below_then HB24.out HB24.out.size hb241)
            have HB0241 := Aside0.mk (below_then HB024.out HB024.out.size hb241)
            have HN241 : Aside0 (W.heap.size ≤ x241.heap.size) := ⟨Nat.le_trans HN24.out hz241⟩
            have hf241_2 := Kd.S_below hf24_2 hb241
            clear hf24_2
            have hf241_4 := blk_below hf24 hb241
            clear hf24
            clear hb241
            have HS : (fun _ : World => True) x241 := trivial
            refine Za.takeL 3 (v := ?vp2413) rfl (by kernel_rfl) (by kernel_rfl) (by kernel_rfl) (by kernel_rfl) (fun _ _ _ h => absurd h.1 (by simp)) (Or.inl ⟨by rfl, ?hyp2413⟩) HS ?restp2413
            case hyp2413 => (intro w hSw; (try dsimp only at hSw); go_simp; try with_reducible rfl)
            (try simp only [Act.put, List.setIfInBounds_toArray, List.set_cons_zero, List.set_cons_succ])
            clear HS
            have r0 := (blk_cell hf241_4 0).trans rfl
            have z0 := blk_frozen hf241_4 0
            have r1 := (blk_cell hf241_4 1).trans rfl
            have z1 := blk_frozen hf241_4 1
            have r2 := (blk_cell hf241_4 2).trans rfl
            have z2 := blk_frozen hf241_4 2
            have r3 := (blk_cell hf241_4 3).trans rfl
            have z3 := blk_frozen hf241_4 3
            have r4 := (blk_cell hf241_4 4).trans rfl
            have z4 := blk_frozen hf241_4 4
            refine Za.nextL 5 (by kernel_rfl) rfl (fun K' hK => ?_)
            go_simp
            refine hK.out _ _ ⟨fun _ => trivial, ?_⟩
            clear hK K'
            (try simp only [Act.put, List.setIfInBounds_toArray, List.set_cons_zero, List.set_cons_succ])
            refine Za.Walk.done (by kernel_rfl) ⟨rfl, _, _, _, _, _, rfl, OpnMem.make (N := W.heap.size) (e := x2.heap.size) (s1 := x24.heap.size) (t1 := x241.heap.size) (s2 := wd.heap.size) (t2 := x2.heap.size) HB241.out hf241_4 hf241 hf241_2 (by omega) (by omega) HN2.out (Nat.le_refl _) (by omega) (by omega) (by omega) rfl⟩
      · obtain rfl := Option.some.inj ho
        go_simp
        refine hK.out _ _ ⟨fun _ => trivial, ?_⟩
        clear hK K' ho
        (try simp only [Act.put, List.setIfInBounds_toArray, List.set_cons_zero, List.set_cons_succ])
        have hb4 := below_alloc (Below.refl wd.heap.size wd) (.cells #[.slice none 0 0, .slice none 0 0, .slice none 0 0, .slice none 0 0, .slice none 0 0] 30)
        have hf4 := blk_new wd (.cells #[.slice none 0 0, .slice none 0 0, .slice none 0 0, .slice none 0 0, .slice none 0 0] 30)
        have hq4 : (wd.alloc (.cells #[.slice none 0 0, .slice none 0 0, .slice none 0 0, .slice none 0 0, .slice none 0 0] 30)).heap.size = wd.heap.size + 1 := by simp
        generalize wd.alloc (.cells #[.slice none 0 0, .slice none 0 0, .slice none 0 0, .slice none 0 0, .slice none 0 0] 30) = x4 at hb4 hf4 hq4 ⊢
        have hz4 := hb4.size
        have HB4 := Aside0.mk (below_then HB.out HB.out.size hb4)
        have HB04 := Aside0.mk (below_then HB0.out HB0.out.size hb4)
        have HN4 : Aside0 (W.heap.size ≤ x4.heap.size) := ⟨Nat.le_trans HN.out hz4⟩
        clear hb4
        refine Go.Proofs.Ytckblabkapeigaa.Zb.nextsL [1, 2] (by kernel_rfl) (by simp) (fun i hi oo ho K' hK => ?_)
        simp only [List.mem_cons, List.not_mem_nil, or_false] at hi
        rcases hi with rfl | rfl
        · obtain rfl := Option.some.inj ho
          go_simp
          (go_at_call 15; refine (l8Copy_any A c l _ (by omega) HC.out (HL.out.below HB04.out)).mono ?_; rintro e x41 ⟨vr, rfl, hs41, hb41⟩; obtain ⟨Pr, cr, rfl⟩ := Kd.S_slice hs41)
          go_wp2_with fail
          refine hK.out _ _ ⟨fun _ => trivial, ?_⟩
          clear hK K' ho
          (try simp only [Act.put, List.setIfInBounds_toArray, List.set_cons_zero, List.set_cons_succ])
          have hf41 := Kd.S_lower (Kd.S_mono (Kd.S_bound hs41) (ok' := fun k => x4.heap.size ≤ k ∧ k < x41.heap.size) (fun k hk => ⟨hk.2.1, hk.2.2.1⟩)) HN4.out
          clear hs41
          have hz41 := hb41.size
          have HB41 := Aside0.mk (below_then HB4.out HB4.out.size hb41)
          have HB041 := Aside0.mk (below_then HB04.out HB04.out.size hb41)
          have HN41 : Aside0 (W.heap.size ≤ x41.heap.size) := ⟨Nat.le_trans HN4.out hz41⟩
          have hf41_4 := blk_below hf4 hb41
          clear hf4
          clear hb41
          refine Go.Proofs.Ytckblabkapeigaa.Zb.nextsL [2] (by kernel_rfl) (by simp) (fun i hi oo ho K' hK => ?_)
          simp only [List.mem_cons, List.not_mem_nil, or_false] at hi
          subst hi
          · obtain rfl := Option.some.inj ho
            refine Kd.S_make_step (Kd.int .i64) (w0 := x41) (W := x41) W.heap.size 3 (by rfl) (N := 11) rfl 27 _ _ rfl (4 : Int) rfl rfl Try.underlying27 (.int .i64 0) 8 infoI rfl (by decide) (by decide) 0 (ok := fun k => x41.heap.size ≤ k) (okp := fun _ => False) rfl (fun _ h => h.elim) (Nat.le_refl _) (by decide) (by decide) (below_mono2 (Below.refl _ _) HN41.out) HN41.out ?_
            intro v3 x412 hs412 _ hg412 _
            obtain ⟨P3, c3, rfl⟩ := Kd.S_slice hs412
            have hb412 := grown_none hg412
            clear hg412
            refine hK.out _ _ ⟨fun _ => trivial, ?_⟩
            clear hK K' ho
            (try simp only [Act.put, List.setIfInBounds_toArray, List.set_cons_zero, List.set_cons_succ])
            have hf412 := Kd.S_mono (Kd.S_bound hs412) (ok' := fun k => x41.heap.size ≤ k ∧ k < x412.heap.size) (fun k hk => ⟨hk.1, hk.2.2.1⟩)
            clear hs412
            have hz412 := hb412.size
            have HB412 := Aside0.mk (below_then HB41.out HB41.out.size hb412)
            have HB0412 := Aside0.mk (below_then HB041.out HB041.out.size hb412)
            have HN412 : Aside0 (W.heap.size ≤ x412.heap.size) := ⟨Nat.le_trans HN41.out hz412⟩
            have hf412_4 := blk_below hf41_4 hb412
            clear hf41_4
            have hf412_1 := Kd.S_below hf41 hb412
            clear hf41
            clear hb412
            have HS : (fun _ : World => True) x412 := trivial
            refine Za.takeL 3 (v := ?vp4123) rfl (by kernel_rfl) (by kernel_rfl) (by kernel_rfl) (by kernel_rfl) (fun _ _ _ h => absurd h.1 (by simp)) (Or.inl ⟨by rfl, ?hyp4123⟩) HS ?restp4123
            case hyp4123 => (intro w hSw; (try dsimp only at hSw); go_simp; try with_reducible rfl)
            (try simp only [Act.put, List.setIfInBounds_toArray, List.set_cons_zero, List.set_cons_succ])
            clear HS
            have r0 := (blk_cell hf412_4 0).trans rfl
            have z0 := blk_frozen hf412_4 0
            have r1 := (blk_cell hf412_4 1).trans rfl
            have z1 := blk_frozen hf412_4 1
            have r2 := (blk_cell hf412_4 2).trans rfl
            have z2 := blk_frozen hf412_4 2
            have r3 := (blk_cell hf412_4 3).trans rfl
            have z3 := blk_frozen hf412_4 3
            have r4 := (blk_cell hf412_4 4).trans rfl
            have z4 := blk_frozen hf412_4 4
            refine Za.nextL 5 (by kernel_rfl) rfl (fun K' hK => ?_)
            go_simp
            refine hK.out _ _ ⟨fun _ => trivial, ?_⟩
            clear hK K'
            (try simp only [Act.put, List.setIfInBounds_toArray, List.set_cons_zero, List.set_cons_succ])
            refine Za.Walk.done (by kernel_rfl) ⟨rfl, _, _, _, _, _, rfl, OpnMem.make (N := W.heap.size) (e := wd.heap.size) (s1 := x4.heap.size) (t1 := x41.heap.size) (s2 := x41.heap.size) (t2 := x412.heap.size) HB412.out hf412_4 hf412_1 hf412 (by omega) (by omega) HN.out (Nat.le_refl _) (by omega) (by omega) (by omega) rfl⟩
        · obtain rfl := Option.some.inj ho
          refine Kd.S_make_step (Kd.int .i64) (w0 := x4) (W := x4) W.heap.size 3 (by rfl) (N := 11) rfl 27 _ _ rfl (4 : Int) rfl rfl Try.underlying27 (.int .i64 0) 8 infoI rfl (by decide) (by decide) 0 (ok := fun k => x4.heap.size ≤ k) (okp := fun _ => False) rfl (fun _ h => h.elim) (Nat.le_refl _) (by decide) (by decide) (below_mono2 (Below.refl _ _) HN4.out) HN4.out ?_
          intro v3 x42 hs42 _ hg42 _
          obtain ⟨P3, c3, rfl⟩ := Kd.S_slice hs42
          have hb42 := grown_none hg42
          clear hg42
          refine hK.out _ _ ⟨fun _ => trivial, ?_⟩
          clear hK K' ho
          (try simp only [Act.put, List.setIfInBounds_toArray, List.set_cons_zero, List.set_cons_succ])
          have hf42 := Kd.S_mono (Kd.S_bound hs42) (ok' := fun k => x4.heap.size ≤ k ∧ k < x42.heap.size) (fun k hk => ⟨hk.1, hk.2.2.1⟩)
          clear hs42
          have hz42 := hb42.size
          have HB42 := Aside0.mk (below_then HB4.out HB4.out.size hb42)
          have HB042 := Aside0.mk (below_then HB04.out HB04.out.size hb42)
          have HN42 : Aside0 (W.heap.size ≤ x42.heap.size) := ⟨Nat.le_trans HN4.out hz42⟩
          have hf42_4 := blk_below hf4 hb42
          clear hf4
          clear hb42
          refine Go.Proofs.Ytckblabkapeigaa.Zb.nextsL [1] (by kernel_rfl) (by simp) (fun i hi oo ho K' hK => ?_)
          simp only [List.mem_cons, List.not_mem_nil, or_false] at hi
          subst hi
          · obtain rfl := Option.some.inj ho
            go_simp
            (go_at_call 15; refine (l8Copy_any A c l _ (by omega) HC.out (HL.out.below HB042.out)).mono ?_; rintro e x421 ⟨vr, rfl, hs421, hb421⟩; obtain ⟨Pr, cr, rfl⟩ := Kd.S_slice hs421)
            go_wp2_with fail
            refine hK.out _ _ ⟨fun _ => trivial, ?_⟩
            clear hK K' ho
            (try simp only [Act.put, List.setIfInBounds_toArray, List.set_cons_zero, List.set_cons_succ])
            have hf421 := Kd.S_lower (Kd.S_mono (Kd.S_bound hs421) (ok' := fun k => x42.heap.size ≤ k ∧ k < x421.heap.size) (fun k hk => ⟨hk.2.1, hk.2.2.1⟩)) HN42.out
            clear hs421
            have hz421 := hb421.size
            have HB421 := Aside0.mk (below_then HB42.out HB42.out.size hb421)
            have HB0421 := Aside0.mk (below_then HB042.out HB042.out.size hb421)
            have HN421 : Aside0 (W.heap.size ≤ x421.heap.size) := ⟨Nat.le_trans HN42.out hz421⟩
            have hf421_4 := blk_below hf42_4 hb421
            clear hf42_4
            have hf421_2 := Kd.S_below hf42 hb421
            clear hf42
            clear hb421
            have HS : (fun _ : World => True) x421 := trivial
            refine Za.takeL 3 (v := ?vp4213) rfl (by kernel_rfl) (by kernel_rfl) (by kernel_rfl) (by kernel_rfl) (fun _ _ _ h => absurd h.1 (by simp)) (Or.inl ⟨by rfl, ?hyp4213⟩) HS ?restp4213
            case hyp4213 => (intro w hSw; (try dsimp only at hSw); go_simp; try with_reducible rfl)
            (try simp only [Act.put, List.setIfInBounds_toArray, List.set_cons_zero, List.set_cons_succ])
            clear HS
            have r0 := (blk_cell hf421_4 0).trans rfl
            have z0 := blk_frozen hf421_4 0
            have r1 := (blk_cell hf421_4 1).trans rfl
            have z1 := blk_frozen hf421_4 1
            have r2 := (blk_cell hf421_4 2).trans rfl
            have z2 := blk_frozen hf421_4 2
            have r3 := (blk_cell hf421_4 3).trans rfl
            have z3 := blk_frozen hf421_4 3
            have r4 := (blk_cell hf421_4 4).trans rfl
            have z4 := blk_frozen hf421_4 4
            refine Za.nextL 5 (by kernel_rfl) rfl (fun K' hK => ?_)
            go_simp
            refine hK.out _ _ ⟨fun _ => trivial, ?_⟩
            clear hK K'
            (try simp only [Act.put, List.setIfInBounds_toArray, List.set_cons_zero, List.set_cons_succ])
            refine Za.Walk.done (by kernel_rfl) ⟨rfl, _, _, _, _, _, rfl, OpnMem.make (N := W.heap.size) (e := wd.heap.size) (s1 := x42.heap.size) (t1 := x421.heap.size) (s2 := x4.heap.size) (t2 := x42.heap.size) HB421.out hf421_4 hf421 hf421_2 (by omega) (by omega) HN.out (Nat.le_refl _) (by omega) (by omega) (by omega) rfl⟩

    · rintro a' w4 ⟨vr, v3, P1, P3, e, rfl, hm⟩
      (try simp only [Act.put, List.setIfInBounds_toArray, List.set_cons_zero, List.set_cons_succ])
      have HM4 := Aside0.mk hm
      clear hm HDD HB2
      go_upto_region 5 with fail
      go_loopw [4] (fun vi wr => ∃ (k : Nat) (vg : Value), k ≤ l.length ∧ vi = .int .i64 k ∧ Aside0 (OpnMem W wr W.heap.size e vr v3 P1 P3 l vg ((l.take k).map grR))) (fun vi _ => l.length - (intOf vi).toNat)
      case atStart => exact ⟨0, _, Nat.zero_le _, rfl, ⟨by simpa using HM4.out⟩⟩
      case round =>
        clear HM4
        obtain ⟨k, vg, hk, rfl, HM⟩ := hrel
        by_cases hlt : k < l.length
        · obtain ⟨ad, A2, c3, rfl, y0, y1, y2, y3, y4, y5, y6, y7, y8, y9, y10, y11, hIs⟩ := atRule HL.out k hlt
          have hmem : l.getD k zRule ∈ l := by rw [List.getD_eq_getElem?_getD, List.getElem?_eq_getElem hlt]; exact List.getElem_mem hlt
          have HQ := Aside0.mk (HC.out _ hmem)
          have hT : (l.take (k + 1)).map grR = (l.take k).map grR ++ [grO (l.getD k zRule).f3 (l.getD k zRule).f2] := by
            rw [take_succ_getD l k zRule hlt, List.map_append]; rfl
          have HT := Aside0.mk hT
          have hgl : ((l.take k).map grR).length ≤ 1048576 := by rw [List.length_map, List.length_take]; omega
          have HGL := Aside0.mk hgl
          have g1 : decide (k < l.length) = true := decide_eq_true hlt
          have i1 : (k : Int) < l.length := by omega
          generalize l.getD k zRule = o at y0 y1 y2 y3 y4 y5 y6 y7 y8 y9 y10 y11 hIs HT HQ
          generalize (l.take k).map grR = gs at HM HT HGL
          have HYW := Aside0.mk (And.intro y2 (And.intro y3 (And.intro y4 (And.intro y5 y6))))
          replace y0 := pw_cell_below HM.out.below y0
          replace y1 := pw_cell_below HM.out.below y1
          replace y2 := pw_cell_below HM.out.below y2
          replace y3 := pw_cell_below HM.out.below y3
          replace y4 := pw_cell_below HM.out.below y4
          replace y5 := pw_cell_below HM.out.below y5
          replace y6 := pw_cell_below HM.out.below y6
          replace y7 := pw_cell_below HM.out.below y7
          replace y8 := pw_cell_below HM.out.below y8
          replace y9 := pw_cell_below HM.out.below y9
          replace y10 := pw_cell_below HM.out.below y10
          replace y11 := pw_cell_below HM.out.below y11
          have HIS := Aside0.mk (hIs.below HM.out.below)
          clear hT hIs hmem hgl
          go_upto_region 7 with fail
          have HM7 := HM
          have HIS7 := HIS
          clear HM HIS y0 y1 y2 y3 y4 y5 y6 y7 y8 y9 y10 y11
          obtain ⟨W7, hW7⟩ : ∃ W7, W7 = wr := ⟨_, rfl⟩
          rw [← hW7] at HM7 HIS7 ⊢
          clear hW7
          have HDD : Below W7.heap.size W7 W7.drew := below_drew (Below.refl _ _)
          obtain ⟨V, nv, cv, rfl⟩ : ∃ V n c, vg = .slice V n c := by obtain ⟨V, c, h⟩ := Kd.S_slice HM7.out.graphs; exact ⟨V, _, c, h⟩
          have FF : Aside0 (∀ w' : World, OpnMem W w' W.heap.size e vr v3 P1 P3 l (.slice V nv cv) gs → True → (fun w' => w'.cell? ⟨e, 1, none⟩ = some (.slice V nv cv) ∧ (w'.cell? ⟨(ad.add (k * 12)).block, (ad.add (k * 12)).off + 2, none⟩ = some (.int .i64 o.f2) ∧ w'.cell? ⟨(ad.add (k * 12)).block, (ad.add (k * 12)).off + 3, none⟩ = some (.int .i64 o.f3.f0) ∧ w'.cell? ⟨(ad.add (k * 12)).block, (ad.add (k * 12)).off + 4, none⟩ = some (.int .i64 o.f3.f1) ∧ w'.cell? ⟨(ad.add (k * 12)).block, (ad.add (k * 12)).off + 5, none⟩ = some (.int .i64 o.f3.f2) ∧ w'.cell? ⟨(ad.add (k * 12)).block, (ad.add (k * 12)).off + 6, none⟩ = some (.slice A2 o.f3.f3.length c3))) w') := ⟨fun w' h hx => ⟨(blk_cell h.box 1).trans rfl, ⟨pw_cell_below h.below HYW.out.1, pw_cell_below h.below HYW.out.2.1, pw_cell_below h.below HYW.out.2.2.1, pw_cell_below h.below HYW.out.2.2.2.1, pw_cell_below h.below HYW.out.2.2.2.2⟩⟩⟩
          refine Za.regionL (fun w' => w'.cell? ⟨e, 1, none⟩ = some (.slice V nv cv) ∧ (w'.cell? ⟨(ad.add (k * 12)).block, (ad.add (k * 12)).off + 2, none⟩ = some (.int .i64 o.f2) ∧ w'.cell? ⟨(ad.add (k * 12)).block, (ad.add (k * 12)).off + 3, none⟩ = some (.int .i64 o.f3.f0) ∧ w'.cell? ⟨(ad.add (k * 12)).block, (ad.add (k * 12)).off + 4, none⟩ = some (.int .i64 o.f3.f1) ∧ w'.cell? ⟨(ad.add (k * 12)).block, (ad.add (k * 12)).off + 5, none⟩ = some (.int .i64 o.f3.f2) ∧ w'.cell? ⟨(ad.add (k * 12)).block, (ad.add (k * 12)).off + 6, none⟩ = some (.slice A2 o.f3.f3.length c3))) [16] (by kernel_rfl) ?_
          have HMD := Aside0.mk (HM7.out.grow HDD)
          have HID := Aside0.mk (HIS7.out.below HDD)
          have HXD := Aside0.mk (True.intro)
          clear HM7 HIS7 HDD
          generalize W7.drew = wd at HMD HID HXD ⊢
          have HS : (fun w' => w'.cell? ⟨e, 1, none⟩ = some (.slice V nv cv) ∧ (w'.cell? ⟨(ad.add (k * 12)).block, (ad.add (k * 12)).off + 2, none⟩ = some (.int .i64 o.f2) ∧ w'.cell? ⟨(ad.add (k * 12)).block, (ad.add (k * 12)).off + 3, none⟩ = some (.int .i64 o.f3.f0) ∧ w'.cell? ⟨(ad.add (k * 12)).block, (ad.add (k * 12)).off + 4, none⟩ = some (.int .i64 o.f3.f1) ∧ w'.cell? ⟨(ad.add (k * 12)).block, (ad.add (k * 12)).off + 5, none⟩ = some (.int .i64 o.f3.f2) ∧ w'.cell? ⟨(ad.add (k * 12)).block, (ad.add (k * 12)).off + 6, none⟩ = some (.slice A2 o.f3.f3.length c3))) wd := FF.out _ HMD.out HXD.out
          refine Za.takeL 0 (v := ?vg0) rfl (by kernel_rfl) (by kernel_rfl) (by kernel_rfl) (by kernel_rfl) (fun _ _ _ h => h) (Or.inl ⟨by rfl, ?hyg0⟩) HS ?restg0
          case hyg0 => (intro w hSw; (try dsimp only at hSw); go_simp; try with_reducible rfl)
          (try simp only [Act.put, List.setIfInBounds_toArray, List.set_cons_zero, List.set_cons_succ])
          refine Za.takeL 1 (v := ?vg1) rfl (by kernel_rfl) (by kernel_rfl) (by kernel_rfl) (by kernel_rfl) (fun _ _ _ h => h) (Or.inl ⟨by rfl, ?hyg1⟩) HS ?restg1
          case hyg1 => (intro w hSw; (try dsimp only at hSw); go_simp; try with_reducible rfl)
          (try simp only [Act.put, List.setIfInBounds_toArray, List.set_cons_zero, List.set_cons_succ])
          refine Za.takeL 2 (v := ?vg2) rfl (by kernel_rfl) (by kernel_rfl) (by kernel_rfl) (by kernel_rfl) (fun _ _ _ h => h) (Or.inl ⟨by rfl, ?hyg2⟩) HS ?restg2
          case hyg2 => (intro w hSw; (try dsimp only at hSw); go_simp; try with_reducible rfl)
          (try simp only [Act.put, List.setIfInBounds_toArray, List.set_cons_zero, List.set_cons_succ])
          refine Za.takeL 3 (v := ?vg3) rfl (by kernel_rfl) (by kernel_rfl) (by kernel_rfl) (by kernel_rfl) (fun _ _ _ h => h) (Or.inl ⟨by rfl, ?hyg3⟩) HS ?restg3
          case hyg3 => (intro w hSw; (try dsimp only at hSw); go_simp; try with_reducible rfl)
          (try simp only [Act.put, List.setIfInBounds_toArray, List.set_cons_zero, List.set_cons_succ])
          refine Za.takeL 4 (v := ?vg4) rfl (by kernel_rfl) (by kernel_rfl) (by kernel_rfl) (by kernel_rfl) (fun _ _ _ h => h) (Or.inl ⟨by rfl, ?hyg4⟩) HS ?restg4
          case hyg4 => (intro w hSw; (try dsimp only at hSw); go_simp; try with_reducible rfl)
          (try simp only [Act.put, List.setIfInBounds_toArray, List.set_cons_zero, List.set_cons_succ])
          refine Za.takeL 5 (v := ?vg5) rfl (by kernel_rfl) (by kernel_rfl) (by kernel_rfl) (by kernel_rfl) (fun _ _ _ h => h) (Or.inl ⟨by rfl, ?hyg5⟩) HS ?restg5
          case hyg5 => (intro w hSw; (try dsimp only at hSw); go_simp; try with_reducible rfl)
          (try simp only [Act.put, List.setIfInBounds_toArray, List.set_cons_zero, List.set_cons_succ])
          refine Za.takeL 6 (v := ?vg6) rfl (by kernel_rfl) (by kernel_rfl) (by kernel_rfl) (by kernel_rfl) (fun _ _ _ h => h) (Or.inl ⟨by rfl, ?hyg6⟩) HS ?restg6
          case hyg6 => (intro w hSw; (try dsimp only at hSw); go_simp; try with_reducible rfl)
          (try simp only [Act.put, List.setIfInBounds_toArray, List.set_cons_zero, List.set_cons_succ])
          refine Za.takeL 7 (v := ?vg7) rfl (by kernel_rfl) (by kernel_rfl) (by kernel_rfl) (by kernel_rfl) (fun _ _ _ h => h) (Or.inl ⟨by rfl, ?hyg7⟩) HS ?restg7
          case hyg7 => (intro w hSw; (try dsimp only at hSw); go_simp; try with_reducible rfl)
          (try simp only [Act.put, List.setIfInBounds_toArray, List.set_cons_zero, List.set_cons_succ])
          refine Za.takeL 8 (v := ?vg8) rfl (by kernel_rfl) (by kernel_rfl) (by kernel_rfl) (by kernel_rfl) (fun _ _ _ h => h) (Or.inl ⟨by rfl, ?hyg8⟩) HS ?restg8
          case hyg8 => (intro w hSw; (try dsimp only at hSw); go_simp; try with_reducible rfl)
          (try simp only [Act.put, List.setIfInBounds_toArray, List.set_cons_zero, List.set_cons_succ])
          refine Za.takeL 9 (v := ?vg9) rfl (by kernel_rfl) (by kernel_rfl) (by kernel_rfl) (by kernel_rfl) (fun _ _ _ h => h) (Or.inl ⟨by rfl, ?hyg9⟩) HS ?restg9
          case hyg9 => (intro w hSw; (try dsimp only at hSw); go_simp; try with_reducible rfl)
          (try simp only [Act.put, List.setIfInBounds_toArray, List.set_cons_zero, List.set_cons_succ])
          refine Za.takeL 10 (v := ?vg10) rfl (by kernel_rfl) (by kernel_rfl) (by kernel_rfl) (by kernel_rfl) (fun _ _ _ h => h) (Or.inl ⟨by rfl, ?hyg10⟩) HS ?restg10
          case hyg10 => (intro w hSw; (try dsimp only at hSw); go_simp; try with_reducible rfl)
          (try simp only [Act.put, List.setIfInBounds_toArray, List.set_cons_zero, List.set_cons_succ])
          refine Za.takeL 11 (v := ?vg11) rfl (by kernel_rfl) (by kernel_rfl) (by kernel_rfl) (by kernel_rfl) (fun _ _ _ h => h) (Or.inl ⟨by rfl, ?hyg11⟩) HS ?restg11
          case hyg11 => (intro w hSw; (try dsimp only at hSw); go_simp; try with_reducible rfl)
          (try simp only [Act.put, List.setIfInBounds_toArray, List.set_cons_zero, List.set_cons_succ])
          clear HS
          refine Za.nextL 12 (by kernel_rfl) rfl (fun K' hK => ?_)
          go_simp
          (go_at_call 16; refine (sGraphOf_any o.f3 o.f2 A2 c3 _ HQ.out HID.out).mono ?_; rintro e6 w6 ⟨v6, rfl, hs6, hb6⟩)
          generalize grO o.f3 o.f2 = gr at hs6 HT ⊢
          obtain ⟨VG, cg, rfl⟩ := Kd.S_slice hs6
          go_wp2_with fail
          have HM6 := Aside0.mk (HMD.out.grow hb6)
          have HX6 := Aside0.mk (True.intro)
          have HG6 := Aside0.mk (Kd.S_lower (Kd.S_mono (Kd.S_bound hs6) (ok' := fun k => wd.heap.size ≤ k ∧ k < w6.heap.size) (fun k hk => ⟨hk.2.1, hk.2.2.1⟩)) HMD.out.below.size)
          have HO6 := Aside0.mk (Kd.S_below (Kd.S_mono (Kd.S_bound HMD.out.graphs) (ok' := fun k => (¬ P1 k ∧ k ≠ e ∧ ¬ P3 k) ∧ ¬ (wd.heap.size ≤ k ∧ k < w6.heap.size)) (fun k hk => ⟨hk.1, fun h => by have := hk.2.2.1; omega⟩)) hb6)
          refine hK.out _ _ ⟨fun _ => FF.out _ HM6.out HX6.out, ?_⟩
          clear hK K' hs6 hb6
          (try simp only [Act.put, List.setIfInBounds_toArray, List.set_cons_zero, List.set_cons_succ])
          have hbb := below_alloc (Below.refl w6.heap.size w6) (.cells #[.int .i64 gr.f0, .slice VG gr.f1.length cg, .int .i64 gr.f2, .int .i64 gr.f3, .bool gr.f4] 48)
          have hS7 := FF.out _ (HM6.out.grow hbb) (True.intro)
          refine Za.nextL 13 (by kernel_rfl) rfl (fun K' hK => ?_)
          go_simp
          refine hK.out _ _ ⟨fun _ => hS7, ?_⟩
          clear hK K' hbb hS7
          (try simp only [Act.put, List.setIfInBounds_toArray, List.set_cons_zero, List.set_cons_succ])
          have HLT := Aside0.mk (Kd.S_lt HMD.out.graphs)
          refine Za.nextL 14 (by kernel_rfl) rfl (fun K' hK => ?_)
          refine Kd.S_append_step kGraph (w0 := w6) (W := w6) W.heap.size (by rfl) _ _ 25 48 (.agg #[.int .i64 0, .slice none 0 0, .int .i64 0, .int .i64 0, .bool false]) 56 rfl Try.underlying25 infoGraph rfl (by decide) (by decide) (.slice V nv cv) gs gr [.int .i64 gr.f0, .slice VG gr.f1.length cg, .int .i64 gr.f2, .int .i64 gr.f3, .bool gr.f4] (fun k => ¬ P1 k ∧ k ≠ e ∧ ¬ P3 k) (fun k => wd.heap.size ≤ k ∧ k < w6.heap.size) rfl rfl (kGraph_mkM w6 W.heap.size _ gr HG6.out) (fun k hk => ⟨HMD.out.fresh k hk.1, fun h => by have h1 := HLT.out k h.symm; have h2 := hk.1; omega⟩) (fun k hk => HM6.out.fresh k hk) HO6.out (below_mono2 (Below.refl _ _) HM6.out.below.size) HM6.out.below.size (by have := HGL.out; omega) ?_
          intro v9 w9 hs9 hb9 hg9 hat9
          obtain ⟨V9, n9, c9, rfl⟩ : ∃ V n c, v9 = .slice V n c := by obtain ⟨V, c, h⟩ := Kd.S_slice hs9; exact ⟨V, _, c, h⟩
          have HM9 := Aside0.mk (HM6.out.store (Nat.le_refl _) hs9 hg9)
          have own6 := HM6.out.own
          have b9 := blk_grown HM6.out.box hg9 (fun h => (own6 e h.symm).2.1 rfl)
          have hbl9 := below_trans8 HM6.out.below hb9
          refine hK.out _ _ ⟨fun _ => ⟨(blk_cell b9 1).trans rfl, ⟨pw_cell_below hbl9 HYW.out.1, pw_cell_below hbl9 HYW.out.2.1, pw_cell_below hbl9 HYW.out.2.2.1, pw_cell_below hbl9 HYW.out.2.2.2.1, pw_cell_below hbl9 HYW.out.2.2.2.2⟩⟩, ?_⟩
          clear hK K'
          (try simp only [Act.put, List.setIfInBounds_toArray, List.set_cons_zero, List.set_cons_succ])
          have q1 := (blk_cell b9 1).trans rfl
          have z1 := blk_frozen b9 1
          have HS : (fun w' => w'.cell? ⟨e, 1, none⟩ = some (.slice V nv cv) ∧ (w'.cell? ⟨(ad.add (k * 12)).block, (ad.add (k * 12)).off + 2, none⟩ = some (.int .i64 o.f2) ∧ w'.cell? ⟨(ad.add (k * 12)).block, (ad.add (k * 12)).off + 3, none⟩ = some (.int .i64 o.f3.f0) ∧ w'.cell? ⟨(ad.add (k * 12)).block, (ad.add (k * 12)).off + 4, none⟩ = some (.int .i64 o.f3.f1) ∧ w'.cell? ⟨(ad.add (k * 12)).block, (ad.add (k * 12)).off + 5, none⟩ = some (.int .i64 o.f3.f2) ∧ w'.cell? ⟨(ad.add (k * 12)).block, (ad.add (k * 12)).off + 6, none⟩ = some (.slice A2 o.f3.f3.length c3))) w9 := ⟨(blk_cell b9 1).trans rfl, ⟨pw_cell_below hbl9 HYW.out.1, pw_cell_below hbl9 HYW.out.2.1, pw_cell_below hbl9 HYW.out.2.2.1, pw_cell_below hbl9 HYW.out.2.2.2.1, pw_cell_below hbl9 HYW.out.2.2.2.2⟩⟩
          refine Za.takeL 15 (v := ?vh15) rfl (by kernel_rfl) (by kernel_rfl) (by kernel_rfl) (by kernel_rfl) (fun _ _ _ h => h) (Or.inl ⟨by rfl, ?hyh15⟩) HS ?resth15
          case hyh15 => (intro w hSw; (try dsimp only at hSw); go_simp; try with_reducible rfl)
          (try simp only [Act.put, List.setIfInBounds_toArray, List.set_cons_zero, List.set_cons_succ])
          clear HS
          refine Za.nextL 16 (by kernel_rfl) rfl (fun K' hK => ?_)
          go_simp
          refine hK.out _ _ ⟨fun h => absurd (by simp) h, ?_⟩
          clear hK K'
          (try simp only [Act.put, List.setIfInBounds_toArray, List.set_cons_zero, List.set_cons_succ])
          refine Za.Walk.done (by kernel_rfl) ?_
          clear q1 z1 b9 hbl9 own6 hs9 hb9 hg9 hat9
          go_wp2
          go_roundw
          case rel => exact ⟨k + 1, _, by omega, by go_num, ⟨by rw [HT.out]; exact HM9.out⟩⟩
          case measure => simp [intOf]; omega
        · have hke : k = l.length := by omega
          subst hke
          have g1 : decide (l.length < l.length) = false := decide_eq_false (by omega)
          rw [List.take_length] at HM
          have b0 := HM.out.box
          obtain ⟨V, nv, cv, rfl⟩ : ∃ V n c, vg = .slice V n c := by obtain ⟨V, c, h⟩ := Kd.S_slice HM.out.graphs; exact ⟨V, _, c, h⟩
          obtain ⟨Vr, nr, cr, rfl⟩ : ∃ V n c, vr = .slice V n c := by obtain ⟨V, c, h⟩ := Kd.S_slice HM.out.rules; exact ⟨V, _, c, h⟩
          obtain ⟨V3, n3, c3, rfl⟩ : ∃ V n c, v3 = .slice V n c := by obtain ⟨V, c, h⟩ := Kd.R_slice HM.out.keys; exact ⟨V, _, c, h⟩
          have p0 := (blk_cell b0 0).trans rfl
          have p1 := (blk_cell b0 1).trans rfl
          have p2 := (blk_cell b0 2).trans rfl
          have p3 := (blk_cell b0 3).trans rfl
          have p4 := (blk_cell b0 4).trans rfl
          have bR := blk_below BB0.out HM.out.below
          have s0 := (blk_cell bR 0).trans rfl
          have s1 := (blk_cell bR 1).trans rfl
          have s2 := (blk_cell bR 2).trans rfl
          have s3 := (blk_cell bR 3).trans rfl
          have s4 := (blk_cell bR 4).trans rfl
          have t0 := blk_frozen bR 0
          have t1 := blk_frozen bR 1
          have t2 := blk_frozen bR 2
          have t3 := blk_frozen bR 3
          have t4 := blk_frozen bR 4
          clear b0
          go_wp2
          refine bodyPost_ret (results_cell_row rfl _ _ w.heap.size 30 #[.slice Vr nr cr, .slice V nv cv, .slice none 0 0, .slice V3 n3 c3, .slice none 0 0] (0, 0) _ rfl (blk_put (cs := #[.slice Vr nr cr, .slice V nv cv, .slice none 0 0, .slice V3 n3 c3, .slice none 0 0]) (blk_put (cs := #[.slice Vr nr cr, .slice V nv cv, .slice none 0 0, .slice none 0 0, .slice none 0 0]) (blk_put (cs := #[.slice Vr nr cr, .slice V nv cv, .slice none 0 0, .slice none 0 0, .slice none 0 0]) (blk_put (cs := #[.slice Vr nr cr, .slice none 0 0, .slice none 0 0, .slice none 0 0, .slice none 0 0]) (blk_put (cs := #[.slice none 0 0, .slice none 0 0, .slice none 0 0, .slice none 0 0, .slice none 0 0]) bR 0 _ rfl) 1 _ rfl) 2 _ rfl) 3 _ rfl) 4 _ rfl) Try.underlying30 rfl (by kernel_rfl)) rfl ?_
          rw [HO.out]
          exact OpnMem.out HM.out HBW.out HSZ.out (Fr.set (Fr.set (Fr.set (Fr.set (Fr.set (Fr.refl _ _) (fun _ => rfl)) (fun _ => rfl)) (fun _ => rfl)) (fun _ => rfl)) (fun _ => rfl))
end Go.Proofs.Ytckblabkapeigaa.Es8
