
/- A part put into a graph: the reference's l7Add. -/
import Derived.Test.YtckblabkapeigaaEp8
import Derived.Test.YtckblabkapeigaaZa
set_option linter.unusedVariables false
set_option linter.unusedSimpArgs false
namespace Go.Proofs.Ytckblabkapeigaa.Eq8
open Go.RowKit Go.Proofs.YtckblabkapeigaaW.PrintWords Go.Proofs.Ytckblabkapeigaa.Ja Go.Proofs.Ytckblabkapeigaa.Jb Go.Proofs.Ytckblabkapeigaa.Jc Go.Proofs.Ytckblabkapeigaa.Jd Go.Proofs.Ytckblabkapeigaa.Jg Go.Proofs.Ytckblabkapeigaa.Ka Go.Proofs.Ytckblabkapeigaa.Kd2 Go.Proofs.Ytckblabkapeigaa.Kf Go.Proofs.Ytckblabkapeigaa.Na Go.Proofs.Ytckblabkapeigaa.Nb Go.Proofs.Ytckblabkapeigaa.Nd Go.Proofs.Ytckblabkapeigaa.Ne Go.Proofs.Ytckblabkapeigaa.Eg8 Go.Proofs.Ytckblabkapeigaa.Eh8 Go.Proofs.Ytckblabkapeigaa.El8 Go.Proofs.Ytckblabkapeigaa.Em8 Go.Proofs.Ytckblabkapeigaa.En8 Go.Proofs.Ytckblabkapeigaa.Ep8

theorem infoStr : (Try.prog.info? 9).map (fun i => (i.zero, i.size, i.bytes)) = some (some (.string ByteArray.empty), 1, 16) := by kernel_rfl
abbrev AddSCall (x : Ex) : Prop := ∀ (Wz : World) base P Q m v vt es A c (w : World), Below Wz.heap.size Wz w → Wz.heap.size ≤ base → base ≤ w.heap.size → Closed es → es.Nodup → AllF es → formB x = true → (adX x es).length ≤ 1000 → SMem w base P Q v vt es → IsEL 52 Wz x.f3 A c →
    Calls Try.prog 42 #[.agg (gC m v), vt, .agg #[.int .i64 x.f0, .int .i64 x.f1, .int .i64 x.f2, .slice A x.f3.length c]] w fun e w' => AddSOut w w' base P Q m v vt (adX x es) (at_ (adX x es) x) e
theorem adL_append : ∀ (l k : List Ex) (es : List Ex), adL (l ++ k) es = adL k (adL l es)
  | [], k, es => by simp [adL]
  | x :: xs, k, es => by rw [List.cons_append, adL, adL, adL_append xs k]
theorem adL_snoc (l : List Ex) (j : Nat) (h : j < l.length) (es : List Ex) : adL (l.take (j + 1)) es = adX (l.getD j zE) (adL (l.take j) es) := by
  rw [take_snoc l j zE h, adL_append, adL, adL]
theorem atS_snoc (l : List Ex) (j : Nat) (h : j < l.length) {es : List Ex} (hc : Closed es) :
    (l.take (j + 1)).map (fun y => (at_ (adL (l.take (j + 1)) es) y : Int)) = (l.take j).map (fun y => (at_ (adL (l.take j) es) y : Int)) ++ [(at_ (adX (l.getD j zE) (adL (l.take j) es)) (l.getD j zE) : Int)] := by
  have h1 := at_snoc l j h hc
  rw [adL_aiL _ _ hc, adL_aiL _ _ hc, ad_ai _ _ (adL_closed _ _ hc)] at h1
  exact h1
theorem adL_le_take {l : List Ex} {es : List Ex} (j : Nat) : (adL (l.take j) es).length ≤ (adL l es).length := by
  have e : adL l es = adL (l.drop j) (adL (l.take j) es) := by rw [← adL_append, List.take_append_drop]
  rw [e]
  obtain ⟨t, h1, _⟩ := adL_pre (l.drop j) (adL (l.take j) es)
  rw [h1, List.length_append]; omega
mutual
theorem adX_allF : ∀ (x : Ex) (es : List Ex), formB x = true → AllF es → AllF (adX x es)
  | .mk a b c l, es, hx, h => by
    unfold adX
    split
    · exact h
    · have h2 := adL_allF l es (form_head hx).2 h
      intro z hz
      rcases List.mem_append.1 hz with hz | hz
      · exact h2 z hz
      · simp at hz; subst hz; exact hx
theorem adL_allF : ∀ (l : List Ex) (es : List Ex), formL l = true → AllF es → AllF (adL l es)
  | [], es, _, h => by rw [adL]; exact h
  | x :: xs, es, hl, h => by
    rw [formL_cons, Bool.and_eq_true] at hl
    rw [adL]
    exact adL_allF xs _ hl.2 (adX_allF x es hl.1 h)
end
theorem formL_take {l : List Ex} (h : formL l = true) (j : Nat) : formL (l.take j) = true := by
  rw [formL_all, List.all_eq_true] at *
  exact fun z hz => h z (List.mem_of_mem_take hz)
theorem txs_texts {w : World} {base : Nat} {Q : Nat → Prop} {T : Option Addr} {n tc : Nat} {es : List Ex} (h : Kd.string.R 9 w base Q (.slice T n tc) (txs es)) : Texts w T (es.map textB) := fun k s hk => by
  have hl : k < es.length := by have := (List.getElem?_eq_some_iff.1 hk).1; simpa using this
  obtain ⟨hn, _, hC⟩ := Kd.R_reads' h
  obtain ⟨ad, e, hc⟩ := Kd.at_string hC (k : Int) (by omega) (by rw [txs_len]; omega)
  refine ⟨ad, e, ?_⟩
  rw [Int.toNat_natCast] at hc
  rw [hc]
  unfold rdOf txs
  rw [Int.toNat_natCast, List.getD_eq_getElem?_getD, List.getElem?_map]
  rw [List.getElem?_map] at hk
  cases h2 : es[k]? with
  | none => rw [h2] at hk; cases hk
  | some z => rw [h2] at hk; injection hk with hk; simp [hk]
theorem l7AtE (T : Option Addr) (tc : Nat) (es : List Ex) (s : List UInt8) (w : World) (h : es.length ≤ 1000) (hT : Texts w T (es.map textB)) :
    Calls Try.prog 63 #[.slice T es.length tc, .string (bs s)] w fun e w' => (∃ r : Int, e = .returned (.int .i64 r) ∧ FoundS (es.map textB) s r) ∧ w' = w := by
  have := l7At_any T tc (es.map textB) s w (by rw [List.length_map]; omega) hT
  rwa [List.length_map] at this
/-- x's own memory stands still -/
theorem addZs {Wz w wr : World} {x : Ex} {A : Option Addr} {c NB base : Nat} {m : Int} {v vt v' vt' u : Value} {P Q P' Q' : Nat → Prop} {es es' : List Ex} {ks : List Int} (h : AddS w wr x A c NB base m v vt v' vt' P Q P' Q' es' u ks) (hg : SMem w base P Q v vt es) (hz : Below Wz.heap.size Wz w) (hb : Wz.heap.size ≤ base) : Below Wz.heap.size Wz wr := by
  have h1 : Below Wz.heap.size w wr := h.fr.below hz.size (fun k hk => by
    rcases hk with h2 | h2
    · have := Kd.R_base (Kd.S_R hg.row) k h2.symm; omega
    · have := Kd.R_base hg.txt k h2.symm; omega)
  exact ⟨h1.os.trans hz.os, h1.tape.trans hz.tape, h1.output.trans hz.output, Nat.le_trans hz.size h1.size, fun k hk => (h1.block k hk).trans (hz.block k hk)⟩
/-- the start of the loop: three boxes, the text's memory, the node's box -/
theorem AddS.start {w W : World} {x : Ex} {A : Option Addr} {c base : Nat} {m : Int} {v vt : Value} {P Q : Nat → Prop} {es : List Ex} (hg : SMem w base P Q v vt es) (hX : Below w.heap.size w W) (hs : w.heap.size + 3 ≤ W.heap.size)
    (g0 : W.heap[w.heap.size]? = some (.cells (gC m v) 48 (0, 0))) (g1 : W.heap[w.heap.size + 1]? = some (.cells #[.int .i64 x.f0, .int .i64 x.f1, .int .i64 x.f2, .slice A x.f3.length c] 52 (0, 0))) (g2 : W.heap[w.heap.size + 2]? = some (.cells (gC 0 (.slice none 0 0)) 48 (0, 0))) :
    AddS w (W.alloc (.cells (nC x (.slice none 0 0)) 103)) x A c W.heap.size base m v vt v vt P Q (fun j => P j ∧ j < w.heap.size) (fun j => Q j ∧ j < w.heap.size) es (.slice none 0 0) [] := by
  have ha := below_alloc (Below.refl W.heap.size W) (.cells (nC x (.slice none 0 0)) 103)
  have hb := below_then hX hX.size ha
  have hsz : (W.alloc (.cells (nC x (.slice none 0 0)) 103)).heap.size = W.heap.size + 1 := by simp
  exact ⟨⟨Kd.S_below (Kd.S_mono (Kd.S_bound hg.row) (fun k hk => ⟨hk.1, hk.2.2.1⟩)) hb, Kd.R_below (Kd.R_mono (Kd.R_bound hg.txt) (fun k hk => ⟨hk.1, hk.2.2.1⟩)) hb, fun i h1 h2 => hg.pq i h1.1 h2.1⟩, blk_below g0 ha, blk_below g1 ha, blk_below g2 ha, blk_new _ _, Kd.R_nil _ _ _ _ _, fun i hi => by simp [Value.ownBlock] at hi, fun i hi => ⟨.inl hi, by have := hi.2; omega⟩, fun i hi => ⟨.inl hi, by have := hi.2; omega⟩, Fr.of_below hb, fun j hj => .inl hj.symm, fun j hj => .inl hj.symm, hs, by omega⟩
set_option maxHeartbeats 2000000 in
set_option maxRecDepth 100000 in
theorem AddS.fin {w W8 w9 w10 : World} {base : Nat} {P Q P2 Q' : Nat → Prop} {m r : Int} {v vt v2 vt' v9 : Value} {es2 : List Ex} (h8 : Kd.S kNode 103 W8 base P2 v2 (ndsT es2)) (pq : ∀ i, P2 i → Q' i → False)
    (hp : ∀ i, P2 i → ((P i ∧ i < w.heap.size) ∨ w.heap.size + 3 ≤ i) ∧ i < W8.heap.size) (hq : ∀ i, Q' i → ((Q i ∧ i < w.heap.size) ∨ w.heap.size + 3 ≤ i) ∧ i < W8.heap.size) (fr : Fr (Own2 v vt) w W8)
    (ov : ∀ j, v2.ownBlock = some j → some j = v.ownBlock ∨ w.heap.size ≤ j) (ot : ∀ j, vt'.ownBlock = some j → some j = vt.ownBlock ∨ w.heap.size ≤ j) (hr9 : Kd.string.R 9 w9 base (fun i => Q' i ∨ W8.heap.size ≤ i) v9 (txs es2))
    (hg9 : W8.grownBy w9 vt'.ownBlock) (hat : v9.ownBlock = vt'.ownBlock ∨ ∃ b, v9.ownBlock = some b ∧ W8.heap.size ≤ b) (f10 : Fr (fun k => k = w.heap.size + 2) w9 w10) (hbig : w.heap.size + 3 ≤ W8.heap.size) (hTQ : ∀ j, vt'.ownBlock = some j → Q' j) :
    AddSOut w w10 base P Q m v vt es2 r (.returned (.tuple #[.agg (gC m v2), v9, .int .i64 r])) := by
  have s1 := fr.size
  have s2 := hg9.size
  have s3 := f10.size
  have all : Fr (fun k => k = w.heap.size + 2 ∨ some k = vt'.ownBlock) W8 w10 := Fr.trans (Fr.of_grown (S := fun k => k = w.heap.size + 2 ∨ some k = vt'.ownBlock) hg9 (fun k hk => .inr hk)) f10 (fun k hk _ => .inl hk)
  refine ⟨v2, v9, P2, fun i => (Q' i ∨ W8.heap.size ≤ i) ∧ i < w9.heap.size, rfl, ⟨Kd.S_step h8 (fun k hk hk2 => all.block k hk2 ?_), Kd.R_step (Kd.R_mono (Kd.R_bound hr9) (fun k hk => ⟨hk.1, hk.2.2.1⟩)) (fun k hk hk2 => f10.block k hk2 ?_), ?_⟩, ?_, ?_, ?_, ?_, ?_⟩
  · rintro (h1 | h1)
    · rcases (hp k hk).1 with h2 | h2 <;> omega
    · exact pq k hk (hTQ k h1.symm)
  · intro h1
    rcases hk.1 with h2 | h2
    · rcases (hq k h2).1 with h3 | h3 <;> omega
    · omega
  · intro i hi hq2
    rcases hq2.1 with h1 | h1
    · exact pq i hi h1
    · have := (hp i hi).2; omega
  · intro i hi
    refine ⟨?_, by have := (hp i hi).2; omega⟩
    rcases (hp i hi).1 with h1 | h1
    · exact .inl h1
    · exact .inr (by omega)
  · intro i hi
    refine ⟨?_, by have := hi.2; omega⟩
    rcases hi.1 with h1 | h1
    · rcases (hq i h1).1 with h2 | h2
      · exact .inl h2
      · exact .inr (by omega)
    · exact .inr (by omega)
  · refine Fr.trans fr all (fun k hk hk2 => ?_)
    rcases hk with h1 | h1
    · omega
    · rcases ot k h1.symm with h2 | h2
      · exact .inr h2
      · omega
  · exact ov
  · intro j hj
    rcases hat with h1 | ⟨b, h1, h2⟩
    · exact ot j (h1.symm.trans hj)
    · rw [h1] at hj; injection hj with hj; subst hj
      exact .inr (by omega)
theorem old_out {w w' : World} {base : Nat} {P Q : Nat → Prop} {m : Int} {v vt : Value} {es : List Ex} {r : Int} (hg : SMem w base P Q v vt es) (hf : Fr (fun _ => False) w w') : AddSOut w w' base P Q m v vt es r (.returned (.tuple #[.agg (gC m v), vt, .int .i64 r])) := by
  have hb : Below w.heap.size w w' := hf.below (Nat.le_refl _) (fun _ h => h.elim)
  exact ⟨v, vt, fun i => P i ∧ i < w.heap.size, fun i => Q i ∧ i < w.heap.size, rfl, ⟨Kd.S_below (Kd.S_mono (Kd.S_bound hg.row) (fun k hk => ⟨hk.1, hk.2.2.1⟩)) hb, Kd.R_below (Kd.R_mono (Kd.R_bound hg.txt) (fun k hk => ⟨hk.1, hk.2.2.1⟩)) hb, fun i h1 h2 => hg.pq i h1.1 h2.1⟩, fun i hi => ⟨.inl hi, Nat.lt_of_lt_of_le hi.2 hf.size⟩, fun i hi => ⟨.inl hi, Nat.lt_of_lt_of_le hi.2 hf.size⟩, hf.mono (fun _ h => h.elim), fun j hj => .inl hj.symm, fun j hj => .inl hj.symm⟩
set_option maxHeartbeats 2000000 in
set_option maxRecDepth 100000 in
theorem add_of (x : Ex) (hE : ∀ y, y ∈ x.f3 → AddSCall y) (hcl3 : cntL x.f3 ≤ 1000) : AddSCall x := fun Wz base P Q m v vt es A c w hz hGz hbw hcl hnd haf hfx hln hg hL => by
  obtain ⟨V, vc, rfl⟩ := Kd.S_slice hg.row
  obtain ⟨T, tc, rfl⟩ := Kd.R_slice hg.txt
  rw [ndsT_len, txs_len] at hg ⊢
  obtain ⟨hb0, b0, b1, b2⟩ := boxes3 w #[.int .i64 m, .slice V es.length vc, .int .i64 0, .int .i64 0, .bool false] #[.int .i64 x.f0, .int .i64 x.f1, .int .i64 x.f2, .slice A x.f3.length c] #[.int .i64 0, .slice none 0 0, .int .i64 0, .int .i64 0, .bool false] 48 52 48
  have hs3 : (((w.alloc (.cells #[.int .i64 m, .slice V es.length vc, .int .i64 0, .int .i64 0, .bool false] 48)).alloc (.cells #[.int .i64 x.f0, .int .i64 x.f1, .int .i64 x.f2, .slice A x.f3.length c] 52)).alloc (.cells #[.int .i64 0, .slice none 0 0, .int .i64 0, .int .i64 0, .bool false] 48)).heap.size = w.heap.size + 1 + 1 + 1 := by simp
  obtain ⟨W0, hW0⟩ : ∃ W0, W0 = ((w.alloc (.cells #[.int .i64 m, .slice V es.length vc, .int .i64 0, .int .i64 0, .bool false] 48)).alloc (.cells #[.int .i64 x.f0, .int .i64 x.f1, .int .i64 x.f2, .slice A x.f3.length c] 52)).alloc (.cells #[.int .i64 0, .slice none 0 0, .int .i64 0, .int .i64 0, .bool false] 48) := ⟨_, rfl⟩
  rw [← hW0] at hb0 b0 b1 b2 hs3
  have HW0 := Aside0.mk hW0
  have hl3 : x.f3.length ≤ 1000 := Nat.le_trans (len_le_cnt x.f3) hcl3
  have HB0 := Aside0.mk hb0
  have BG := Aside0.mk b0
  have BX := Aside0.mk b1
  have BR := Aside0.mk b2
  have HS3 := Aside0.mk hs3
  have HZ := Aside0.mk hz
  have HG := Aside0.mk hg
  have HL := Aside0.mk hL
  have HE := Aside0.mk hE
  have HCL := Aside0.mk hcl
  have HND := Aside0.mk hnd
  have HAF := Aside0.mk haf
  have HFX := Aside0.mk hfx
  have HFL := Aside0.mk (form_head hfx).2
  have HLN := Aside0.mk hln
  have HGZ := Aside0.mk hGz
  have HBW := Aside0.mk hbw
  have HC3 := Aside0.mk hcl3
  have HESL : Aside0 (es.length ≤ 1000) := ⟨by
    obtain ⟨t, h1, _⟩ := adX_pre x es
    rw [h1, List.length_append] at hln; omega⟩
  have hLW : Aside0 (IsEL 52 W0 x.f3 A c) := ⟨hL.below ⟨hb0.os.trans hz.os, hb0.tape.trans hz.tape, hb0.output.trans hz.output, Nat.le_trans hz.size hb0.size, fun k hk => (hb0.block k (Nat.lt_of_lt_of_le hk hz.size)).trans (hz.block k hk)⟩⟩
  clear hW0 hb0 b0 b1 b2 hs3 hz hg hL hE hcl hnd haf hfx hln hGz hbw hcl3
  have p0 := (blk_cell BX.out 0).trans rfl
  have p1 := (blk_cell BX.out 1).trans rfl
  have p2 := (blk_cell BX.out 2).trans rfl
  have p3 := (blk_cell BX.out 3).trans rfl
  have HTX : ∀ w2, Below W0.heap.size W0 w2 → Texts w2 T (es.map textB) := fun w2 hb2 => (txs_texts HG.out.txt).below (below_then HB0.out HB0.out.size hb2)
  have HTXS := Aside0.mk HTX
  clear HTX
  by_cases hx : x ∈ es
  · have HE2 : Aside0 (adX x es = es) := ⟨by rw [adX_eq, if_pos (has_iff.2 hx)]⟩
    have HX2 := Aside0.mk hx
    clear hx
    obtain ⟨a, hat⟩ : ∃ a : Nat, a = at_ es x := ⟨_, rfl⟩
    have HATX := Aside0.mk hat
    clear hat
    have d0 : decide ((a : Int) ≥ 0) = true := decide_eq_true (by omega)
    go_enter Try.func42, Try.ntmps42
    go_upto_region 1 with fail
    rw [← HW0.out]
    go_upto_region 2 with (go_at_call 62; refine (l2Text_any x HFX.out (by have := HC3.out; omega) A c _ hLW.out).mono ?_; rintro e w2 ⟨rfl, hb2⟩; have HB2 := Aside0.mk hb2; clear hb2)
    clear p0 p1 p2 p3
    go_upto_region 3 with (go_at_call 63; refine (l7AtE T tc es (textB x) _ HESL.out (HTXS.out _ HB2.out)).mono ?_; rintro e w3 ⟨⟨r, rfl, hr⟩, hw3⟩; have hw3' := hw3.symm; subst hw3'; obtain ⟨_, rfl⟩ := (foundS_at HAF.out HFX.out HND.out hr).resolve_right (fun h => h.1 HX2.out); rw [← HATX.out]; clear hr hw3)
    go_upto_region 4 with fail
    have HG2 := Aside0.mk (blk_below BG.out HB2.out)
    have HR2 := Aside0.mk (blk_below BR.out HB2.out)
    have HM2 : Aside0 (Below w.heap.size w w2) := ⟨below_then HB0.out HB0.out.size HB2.out⟩
    have g0 := (blk_cell HG2.out 0).trans rfl
    have g1 := (blk_cell HG2.out 1).trans rfl
    have g2 := (blk_cell HG2.out 2).trans rfl
    have g3 := (blk_cell HG2.out 3).trans rfl
    have g4 := (blk_cell HG2.out 4).trans rfl
    have r0 := (blk_cell HR2.out 0).trans rfl; have z0 := blk_frozen HR2.out 0
    have r1 := (blk_cell HR2.out 1).trans rfl; have z1 := blk_frozen HR2.out 1
    have r2 := (blk_cell HR2.out 2).trans rfl; have z2 := blk_frozen HR2.out 2
    have r3 := (blk_cell HR2.out 3).trans rfl; have z3 := blk_frozen HR2.out 3
    have r4 := (blk_cell HR2.out 4).trans rfl; have z4 := blk_frozen HR2.out 4
    go_wp2
    refine bodyPost_ret (results_ctt rfl _ _ (w.heap.size + 2) 48 #[.int .i64 m, .slice V es.length vc, .int .i64 0, .int .i64 0, .bool false] (0, 0) _ rfl (blk_put (cs := #[.int .i64 m, .slice V es.length vc, .int .i64 0, .int .i64 0, .bool false]) (blk_put (cs := #[.int .i64 m, .slice V es.length vc, .int .i64 0, .int .i64 0, .bool false]) (blk_put (cs := #[.int .i64 m, .slice V es.length vc, .int .i64 0, .int .i64 0, .bool false]) (blk_put (cs := #[.int .i64 m, .slice none 0 0, .int .i64 0, .int .i64 0, .bool false]) (blk_put (cs := #[.int .i64 0, .slice none 0 0, .int .i64 0, .int .i64 0, .bool false]) HR2.out 0 _ rfl) 1 _ rfl) 2 _ rfl) 3 _ rfl) 4 _ rfl) Try.underlying48 rfl (by kernel_rfl)) rfl ?_
    rw [HE2.out, ← HATX.out]
    have frx : Fr (fun _ => False) w (((((w2.setCell ⟨w.heap.size + 2, 0, none⟩ (.int .i64 m)).setCell ⟨w.heap.size + 2, 1, none⟩ (.slice V es.length vc)).setCell ⟨w.heap.size + 2, 2, none⟩ (.int .i64 0)).setCell ⟨w.heap.size + 2, 3, none⟩ (.int .i64 0)).setCell ⟨w.heap.size + 2, 4, none⟩ (.bool false)) := Fr.set (Fr.set (Fr.set (Fr.set (Fr.set (Fr.of_below HM2.out) (by omega)) (by omega)) (by omega)) (by omega)) (by omega)
    exact old_out HG.out frx
  · have HE2 : Aside0 (adX x es = adL x.f3 es ++ [x]) := ⟨by rw [adX_eq, if_neg (fun h => hx (has_iff.1 h))]⟩
    have HX2 := Aside0.mk hx
    have HLE := Aside0.mk (show (adL x.f3 es).length + 1 ≤ 1000 by have h1 := HLN.out; rw [HE2.out, List.length_append, List.length_singleton] at h1; exact h1)
    have HNX := Aside0.mk (adX_new hx)
    clear hx
    have d0 : decide ((-1 : Int) ≥ 0) = false := by decide
    go_enter Try.func42, Try.ntmps42
    go_upto_region 1 with fail
    rw [← HW0.out]
    go_upto_region 2 with (go_at_call 62; refine (l2Text_any x HFX.out (by have := HC3.out; omega) A c _ hLW.out).mono ?_; rintro e w2 ⟨rfl, hb2⟩; have HB2 := Aside0.mk hb2; clear hb2)
    clear p0 p1 p2 p3
    go_upto_region 3 with (go_at_call 63; refine (l7AtE T tc es (textB x) _ HESL.out (HTXS.out _ HB2.out)).mono ?_; rintro e w3 ⟨⟨r, rfl, hr⟩, hw3⟩; have hw3' := hw3.symm; subst hw3'; obtain ⟨_, rfl⟩ := (foundS_at HAF.out HFX.out HND.out hr).resolve_left (fun h => HX2.out h.1); clear hr hw3)
    have HX3 := Aside0.mk (blk_below BX.out HB2.out)
    have p0 := (blk_cell HX3.out 0).trans rfl
    have p1 := (blk_cell HX3.out 1).trans rfl
    have p2 := (blk_cell HX3.out 2).trans rfl
    have p3 := (blk_cell HX3.out 3).trans rfl
    go_upto_region 6 with fail
    have HM0 := Aside0.mk (AddS.start HG.out (below_then HB0.out HB0.out.size HB2.out) (by have h1 := HB2.out.size; have h2 := HS3.out; omega) (blk_below BG.out HB2.out) HX3.out (blk_below BR.out HB2.out))
    unfold nC at HM0
    generalize w2.alloc (.cells #[.int .i64 x.f0, .int .i64 x.f1, .int .i64 x.f2, .slice none 0 0, .slice none 0 0, .slice none 0 0, .slice none 0 0, .slice none 0 0, .slice none 0 0, .int .i64 0] 103) = W at HM0 ⊢
    obtain ⟨NB, hNB⟩ : ∃ NB, NB = w2.heap.size := ⟨_, rfl⟩
    rw [← hNB] at HM0 ⊢
    clear hNB p0 p1 p2 p3 HX3
    go_upto_region 7 with fail
    go_loopw [1, 12] (fun v1 vi wr => ∃ (j : Nat) (v' vt' u : Value) (P' Q' : Nat → Prop), j ≤ x.f3.length ∧ vi = .int .i64 j ∧ vt' = v1 ∧ Aside0 (AddS w wr x A c NB base m (.slice V es.length vc) (.slice T es.length tc) v' vt' P Q P' Q' (adL (x.f3.take j) es) u ((x.f3.take j).map (fun y => (at_ (adL (x.f3.take j) es) y : Int))))) (fun _ vi _ => x.f3.length - (intOf vi).toNat)
    case atStart => exact ⟨0, _, _, _, _, _, Nat.zero_le _, rfl, rfl, ⟨by simpa [adL] using HM0.out⟩⟩
    case round =>
      clear HM0
      obtain ⟨j, v', vt', u, P', Q', hj, rfl, rfl, HM⟩ := hrel
      have q3 := (blk_cell HM.out.xb 3).trans rfl
      by_cases hlt : j < x.f3.length
      · have g1 : decide (j < x.f3.length) = true := decide_eq_true hlt
        have i1 : (j : Int) < x.f3.length := by omega
        have HZR := Aside0.mk (addZs HM.out HG.out HZ.out HGZ.out)
        obtain ⟨ad, A2, c3, rfl, ha, hb, hc, hd, hIs⟩ := atE HL.out j hlt
        have hmem : x.f3.getD j zE ∈ x.f3 := getE_mem hlt
        have HQ := Aside0.mk (HE.out _ hmem)
        have HFO := Aside0.mk (form_at HFL.out j hlt)
        have HSN := Aside0.mk (adL_snoc x.f3 j hlt es)
        have HAT := Aside0.mk (atS_snoc x.f3 j hlt HCL.out)
        have HLE2 := Aside0.mk (show (adX (x.f3.getD j zE) (adL (x.f3.take j) es)).length ≤ 1000 by rw [← HSN.out]; exact Nat.le_trans (adL_le_take (j + 1)) (by have := HLE.out; omega))
        generalize x.f3.getD j zE = o at ha hb hc hd hIs HQ HFO HSN HAT HLE2
        have HIS := Aside0.mk hIs
        have HO0 := Aside0.mk (And.intro ha (And.intro hb (And.intro hc hd)))
        replace ha := pw_cell_below HZR.out ha
        replace hb := pw_cell_below HZR.out hb
        replace hc := pw_cell_below HZR.out hc
        replace hd := pw_cell_below HZR.out hd
        obtain ⟨n, hn⟩ : ∃ n, n = (ndsT (adL (x.f3.take j) es)).length := ⟨_, rfl⟩
        obtain ⟨V1, vc1, rfl⟩ := Kd.S_slice HM.out.mem.row
        obtain ⟨U, uc, rfl⟩ := Kd.R_slice HM.out.kid
        rw [← hn] at HM
        have hkl : ((x.f3.take j).map (fun y => (at_ (adL (x.f3.take j) es) y : Int))).length = j := by rw [List.length_map, List.length_take]; omega
        have HKL := Aside0.mk hkl
        generalize ((x.f3.take j).map (fun y => (at_ (adL (x.f3.take j) es) y : Int))) = ks at HM HAT HKL ⊢
        clear hIs hmem hkl hn
        go_upto_region 10 with fail
        have HDD : Below wr.heap.size wr wr.drew := below_drew (Below.refl _ _)
        refine Za.regionL (fun w' => (w'.cell? ⟨w.heap.size, 0, none⟩ = some (.int .i64 m) ∧ w'.cell? ⟨w.heap.size, 1, none⟩ = some (.slice V1 n vc1) ∧ w'.cell? ⟨w.heap.size, 2, none⟩ = some (.int .i64 0) ∧ w'.cell? ⟨w.heap.size, 3, none⟩ = some (.int .i64 0) ∧ w'.cell? ⟨w.heap.size, 4, none⟩ = some (.bool false)) ∧ w'.cell? ⟨w.heap.size + 1, 3, none⟩ = some (.slice (some ad) x.f3.length c) ∧ (w'.cell? (ad.add (j * 4)) = some (.int .i64 o.f0) ∧ w'.cell? ⟨(ad.add (j * 4)).block, (ad.add (j * 4)).off + 1, none⟩ = some (.int .i64 o.f1) ∧ w'.cell? ⟨(ad.add (j * 4)).block, (ad.add (j * 4)).off + 2, none⟩ = some (.int .i64 o.f2) ∧ w'.cell? ⟨(ad.add (j * 4)).block, (ad.add (j * 4)).off + 3, none⟩ = some (.slice A2 o.f3.length c3))) [9, 10, 11, 12, 13, 14] (by kernel_rfl) ?_
        have HMD := Aside0.mk (HM.out.below HDD)
        replace ha := pw_cell_below HDD ha
        replace hb := pw_cell_below HDD hb
        replace hc := pw_cell_below HDD hc
        replace hd := pw_cell_below HDD hd
        clear HM HZR q3 HDD
        generalize wr.drew = wd at HMD ha hb hc hd ⊢
        have HS : (fun w' => (w'.cell? ⟨w.heap.size, 0, none⟩ = some (.int .i64 m) ∧ w'.cell? ⟨w.heap.size, 1, none⟩ = some (.slice V1 n vc1) ∧ w'.cell? ⟨w.heap.size, 2, none⟩ = some (.int .i64 0) ∧ w'.cell? ⟨w.heap.size, 3, none⟩ = some (.int .i64 0) ∧ w'.cell? ⟨w.heap.size, 4, none⟩ = some (.bool false)) ∧ w'.cell? ⟨w.heap.size + 1, 3, none⟩ = some (.slice (some ad) x.f3.length c) ∧ (w'.cell? (ad.add (j * 4)) = some (.int .i64 o.f0) ∧ w'.cell? ⟨(ad.add (j * 4)).block, (ad.add (j * 4)).off + 1, none⟩ = some (.int .i64 o.f1) ∧ w'.cell? ⟨(ad.add (j * 4)).block, (ad.add (j * 4)).off + 2, none⟩ = some (.int .i64 o.f2) ∧ w'.cell? ⟨(ad.add (j * 4)).block, (ad.add (j * 4)).off + 3, none⟩ = some (.slice A2 o.f3.length c3))) wd := ⟨⟨(blk_cell HMD.out.gb 0).trans rfl, (blk_cell HMD.out.gb 1).trans rfl, (blk_cell HMD.out.gb 2).trans rfl, (blk_cell HMD.out.gb 3).trans rfl, (blk_cell HMD.out.gb 4).trans rfl⟩, (blk_cell HMD.out.xb 3).trans rfl, ha, hb, hc, hd⟩
        have HZD := Aside0.mk (addZs HMD.out HG.out HZ.out HGZ.out)
        refine Za.takeL 0 (v := ?va0) rfl (by kernel_rfl) (by kernel_rfl) (by kernel_rfl) (by kernel_rfl) (fun _ _ _ h => h) (Or.inl ⟨by rfl, ?hya0⟩) HS ?resta0
        case hya0 => (intro w hSw; (try dsimp only at hSw); go_simp; try with_reducible rfl)
        (try simp only [Act.put, List.setIfInBounds_toArray, List.set_cons_zero, List.set_cons_succ])
        refine Za.takeL 1 (v := ?va1) rfl (by kernel_rfl) (by kernel_rfl) (by kernel_rfl) (by kernel_rfl) (fun _ _ _ h => h) (Or.inl ⟨by rfl, ?hya1⟩) HS ?resta1
        case hya1 => (intro w hSw; (try dsimp only at hSw); go_simp; try with_reducible rfl)
        (try simp only [Act.put, List.setIfInBounds_toArray, List.set_cons_zero, List.set_cons_succ])
        refine Za.takeL 2 (v := ?va2) rfl (by kernel_rfl) (by kernel_rfl) (by kernel_rfl) (by kernel_rfl) (fun _ _ _ h => h) (Or.inl ⟨by rfl, ?hya2⟩) HS ?resta2
        case hya2 => (intro w hSw; (try dsimp only at hSw); go_simp; try with_reducible rfl)
        (try simp only [Act.put, List.setIfInBounds_toArray, List.set_cons_zero, List.set_cons_succ])
        refine Za.takeL 3 (v := ?va3) rfl (by kernel_rfl) (by kernel_rfl) (by kernel_rfl) (by kernel_rfl) (fun _ _ _ h => h) (Or.inl ⟨by rfl, ?hya3⟩) HS ?resta3
        case hya3 => (intro w hSw; (try dsimp only at hSw); go_simp; try with_reducible rfl)
        (try simp only [Act.put, List.setIfInBounds_toArray, List.set_cons_zero, List.set_cons_succ])
        refine Za.takeL 4 (v := ?va4) rfl (by kernel_rfl) (by kernel_rfl) (by kernel_rfl) (by kernel_rfl) (fun _ _ _ h => h) (Or.inl ⟨by rfl, ?hya4⟩) HS ?resta4
        case hya4 => (intro w hSw; (try dsimp only at hSw); go_simp; try with_reducible rfl)
        (try simp only [Act.put, List.setIfInBounds_toArray, List.set_cons_zero, List.set_cons_succ])
        refine Za.takeL 5 (v := ?va5) rfl (by kernel_rfl) (by kernel_rfl) (by kernel_rfl) (by kernel_rfl) (fun _ _ _ h => h) (Or.inl ⟨by rfl, ?hya5⟩) HS ?resta5
        case hya5 => (intro w hSw; (try dsimp only at hSw); go_simp; try with_reducible rfl)
        (try simp only [Act.put, List.setIfInBounds_toArray, List.set_cons_zero, List.set_cons_succ])
        refine Za.takeL 6 (v := ?va6) rfl (by kernel_rfl) (by kernel_rfl) (by kernel_rfl) (by kernel_rfl) (fun _ _ _ h => h) (Or.inl ⟨by rfl, ?hya6⟩) HS ?resta6
        case hya6 => (intro w hSw; (try dsimp only at hSw); go_simp; try with_reducible rfl)
        (try simp only [Act.put, List.setIfInBounds_toArray, List.set_cons_zero, List.set_cons_succ])
        clear HS ha hb hc hd
        have HCALL := Aside0.mk (HQ.out Wz base P' Q' m (.slice V1 n vc1) vt' (adL (x.f3.take j) es) A2 c3 wd HZD.out HGZ.out (by have h1 := HBW.out; have h2 := HMD.out.i1; have h3 := HMD.out.i2; omega) (adL_closed _ _ HCL.out) (adL_nodup _ _ HND.out) (adL_allF _ _ (formL_take HFL.out j) HAF.out) HFO.out HLE2.out HMD.out.mem HIS.out)
        refine Za.nextL 7 (by kernel_rfl) rfl (fun K' hK => ?_)
        go_simp
        (go_at_call 42; refine HCALL.out.mono ?_; rintro e w6 ho)
        obtain ⟨v2, vt2, P2, Q2, rfl, hst, hb60, hb61, hr6, ht6⟩ := AddS.call HMD.out ho
        obtain ⟨V2, vc2, rfl⟩ := Kd.S_slice hr6
        obtain ⟨T2, tc2, rfl⟩ := Kd.R_slice ht6
        have HST := Aside0.mk (hst _ rfl)
        have HZ6 : Below Wz.heap.size Wz w6 := by
          obtain ⟨_, _, _, _, _, _, _, _, hf, _, _⟩ := ho
          have h1 : Below Wz.heap.size wd w6 := hf.below HZD.out.size (fun k hk => by
            rcases hk with h2 | h2
            · have := Kd.R_base (Kd.S_R HMD.out.mem.row) k h2.symm; have := HGZ.out; omega
            · have := Kd.R_base HMD.out.mem.txt k h2.symm; have := HGZ.out; omega)
          exact ⟨h1.os.trans HZD.out.os, h1.tape.trans HZD.out.tape, h1.output.trans HZD.out.output, Nat.le_trans HZD.out.size h1.size, fun k hk => (h1.block k hk).trans (HZD.out.block k hk)⟩
        have hS6 : (fun w' => (w'.cell? ⟨w.heap.size, 0, none⟩ = some (.int .i64 m) ∧ w'.cell? ⟨w.heap.size, 1, none⟩ = some (.slice V1 n vc1) ∧ w'.cell? ⟨w.heap.size, 2, none⟩ = some (.int .i64 0) ∧ w'.cell? ⟨w.heap.size, 3, none⟩ = some (.int .i64 0) ∧ w'.cell? ⟨w.heap.size, 4, none⟩ = some (.bool false)) ∧ w'.cell? ⟨w.heap.size + 1, 3, none⟩ = some (.slice (some ad) x.f3.length c) ∧ (w'.cell? (ad.add (j * 4)) = some (.int .i64 o.f0) ∧ w'.cell? ⟨(ad.add (j * 4)).block, (ad.add (j * 4)).off + 1, none⟩ = some (.int .i64 o.f1) ∧ w'.cell? ⟨(ad.add (j * 4)).block, (ad.add (j * 4)).off + 2, none⟩ = some (.int .i64 o.f2) ∧ w'.cell? ⟨(ad.add (j * 4)).block, (ad.add (j * 4)).off + 3, none⟩ = some (.slice A2 o.f3.length c3))) w6 := ⟨⟨(blk_cell hb60 0).trans rfl, (blk_cell hb60 1).trans rfl, (blk_cell hb60 2).trans rfl, (blk_cell hb60 3).trans rfl, (blk_cell hb60 4).trans rfl⟩, (blk_cell hb61 3).trans rfl, pw_cell_below HZ6 HO0.out.1, pw_cell_below HZ6 HO0.out.2.1, pw_cell_below HZ6 HO0.out.2.2.1, pw_cell_below HZ6 HO0.out.2.2.2⟩
        clear HCALL ho hst
        go_wp2_with fail
        refine hK.out _ _ ⟨fun _ => hS6, ?_⟩
        clear hK K'
        (try simp only [Act.put, List.setIfInBounds_toArray, List.set_cons_zero, List.set_cons_succ])
        have HS : (fun w' => (w'.cell? ⟨w.heap.size, 0, none⟩ = some (.int .i64 m) ∧ w'.cell? ⟨w.heap.size, 1, none⟩ = some (.slice V1 n vc1) ∧ w'.cell? ⟨w.heap.size, 2, none⟩ = some (.int .i64 0) ∧ w'.cell? ⟨w.heap.size, 3, none⟩ = some (.int .i64 0) ∧ w'.cell? ⟨w.heap.size, 4, none⟩ = some (.bool false)) ∧ w'.cell? ⟨w.heap.size + 1, 3, none⟩ = some (.slice (some ad) x.f3.length c) ∧ (w'.cell? (ad.add (j * 4)) = some (.int .i64 o.f0) ∧ w'.cell? ⟨(ad.add (j * 4)).block, (ad.add (j * 4)).off + 1, none⟩ = some (.int .i64 o.f1) ∧ w'.cell? ⟨(ad.add (j * 4)).block, (ad.add (j * 4)).off + 2, none⟩ = some (.int .i64 o.f2) ∧ w'.cell? ⟨(ad.add (j * 4)).block, (ad.add (j * 4)).off + 3, none⟩ = some (.slice A2 o.f3.length c3))) w6 := hS6
        clear hS6
        refine Za.takeL 8 (v := ?vb8) rfl (by kernel_rfl) (by kernel_rfl) (by kernel_rfl) (by kernel_rfl) (fun _ _ _ h => h) (Or.inl ⟨by rfl, ?hyb8⟩) HS ?restb8
        case hyb8 => (intro w hSw; (try dsimp only at hSw); go_simp; try with_reducible rfl)
        (try simp only [Act.put, List.setIfInBounds_toArray, List.set_cons_zero, List.set_cons_succ])
        clear HS
        refine Za.pureL 9 (v := ?vc9) rfl (by kernel_rfl) (by kernel_rfl) (by kernel_rfl) (by kernel_rfl) (fun _ _ _ h => h) (Or.inl ⟨by rfl, ?hyc9⟩) ?restc9
        case hyc9 => (intro w hSw; go_simp; try with_reducible rfl)
        (try simp only [Act.put, List.setIfInBounds_toArray, List.set_cons_zero, List.set_cons_succ])
        refine Za.pureL 10 (v := ?vc10) rfl (by kernel_rfl) (by kernel_rfl) (by kernel_rfl) (by kernel_rfl) (fun _ _ _ h => h) (Or.inl ⟨by rfl, ?hyc10⟩) ?restc10
        case hyc10 => (intro w hSw; go_simp; try with_reducible rfl)
        (try simp only [Act.put, List.setIfInBounds_toArray, List.set_cons_zero, List.set_cons_succ])
        refine Za.pureL 11 (v := ?vc11) rfl (by kernel_rfl) (by kernel_rfl) (by kernel_rfl) (by kernel_rfl) (fun _ _ _ h => h) (Or.inl ⟨by rfl, ?hyc11⟩) ?restc11
        case hyc11 => (intro w hSw; go_simp; try with_reducible rfl)
        (try simp only [Act.put, List.setIfInBounds_toArray, List.set_cons_zero, List.set_cons_succ])
        have r0 := (blk_cell hb60 0).trans rfl
        have r1 := (blk_cell hb60 1).trans rfl
        have r2 := (blk_cell hb60 2).trans rfl
        have r3 := (blk_cell hb60 3).trans rfl
        have r4 := (blk_cell hb60 4).trans rfl
        have z0 := blk_frozen hb60 0
        have z1 := blk_frozen hb60 1
        have z2 := blk_frozen hb60 2
        have z3 := blk_frozen hb60 3
        have z4 := blk_frozen hb60 4
        clear hr6 ht6 hb61 HZ6
        refine Za.nextL 12 (by kernel_rfl) rfl (fun K' hK => ?_)
        go_simp
        refine hK.out _ _ ⟨fun h => absurd (by simp) h, ?_⟩
        clear hK K'
        (try simp only [Act.put, List.setIfInBounds_toArray, List.set_cons_zero, List.set_cons_succ])
        refine Za.nextL 13 (by kernel_rfl) rfl (fun K' hK => ?_)
        go_simp
        refine hK.out _ _ ⟨fun h => absurd (by simp) h, ?_⟩
        clear hK K'
        (try simp only [Act.put, List.setIfInBounds_toArray, List.set_cons_zero, List.set_cons_succ])
        refine Za.nextL 14 (by kernel_rfl) rfl (fun K' hK => ?_)
        go_simp
        refine hK.out _ _ ⟨fun h => absurd (by simp) h, ?_⟩
        clear hK K'
        (try simp only [Act.put, List.setIfInBounds_toArray, List.set_cons_zero, List.set_cons_succ])
        refine Za.Walk.done (by kernel_rfl) ?_
        clear r0 r1 r2 r3 r4 z0 z1 z2 z3 z4 hb60
        generalize (((((w6.setCell ⟨w.heap.size, 0, none⟩ (.int .i64 m)).setCell ⟨w.heap.size, 1, none⟩ (.slice V2 (ndsT (adX o (adL (x.f3.take j) es))).length vc2)).setCell ⟨w.heap.size, 2, none⟩ (.int .i64 0)).setCell ⟨w.heap.size, 3, none⟩ (.int .i64 0)).setCell ⟨w.heap.size, 4, none⟩ (.bool false)) = w7 at HST ⊢
        have HBA := Aside0.mk (below_alloc (Below.refl w7.heap.size w7) (.cells #[.int .i64 (at_ (adX o (adL (x.f3.take j) es)) o : Int)] 3))
        have HKB := Aside0.mk (Kd.R_base HST.out.kid)
        have n3 := (blk_cell HST.out.nb 3).trans rfl
        go_wp2_with ((with_reducible refine gate_dst (N := 54) rfl ?_); refine Kd.R_append (Kd.int .i64) (w0 := w7) (W := w7) (NB + 1) rfl _ _ 27 3 (.int .i64 0) 8 rfl Try.underlying27 infoI rfl (by decide) (by decide) (.slice U ks.length uc) ks (at_ (adX o (adL (x.f3.take j) es)) o : Int) [.int .i64 (at_ (adX o (adL (x.f3.take j) es)) o : Int)] (fun _ => True) (fun _ => False) rfl rfl rfl (fun _ h => h.elim) (fun _ _ => trivial) HST.out.kid (below_mono2 (Below.refl _ _) HST.out.i2) HST.out.i2 (by have h1 := HKL.out; have h2 := HC3.out; have h3 := len_le_cnt x.f3; omega) ?_; intro v8 w8 hr8 hb8 hg8 hat8; obtain ⟨U8, c8, rfl⟩ := Kd.R_slice hr8; have hk1 : (ks ++ [(at_ (adX o (adL (x.f3.take j) es)) o : Int)]).length = ks.length + 1 := (by simp); rw [hk1] at hr8 hat8; (try rw [hk1]); have HM8 := Aside0.mk (AddS.store HST.out hr8 hg8 hat8); have nb8 := blk_grown HST.out.nb hg8 (fun h => by have := HKB.out _ h.symm; omega); have q3 := (blk_cell nb8 3).trans rfl; have z3 := blk_frozen nb8 3; clear hr8 hb8 hg8 hat8 hk1 nb8)
        go_roundw
        case rel => exact ⟨j + 1, _, _, _, P2, Q2, by omega, by go_num, rfl, ⟨by rw [HAT.out, HSN.out]; exact HM8.out⟩⟩
        case measure => simp [intOf]; omega
      · have hje : j = x.f3.length := by omega
        subst hje
        have g1 : decide (x.f3.length < x.f3.length) = false := decide_eq_false (by omega)
        rw [List.take_length] at HM
        have HC2 := Aside0.mk (adL_closed x.f3 es HCL.out)
        have HK2 : Aside0 (∀ z ∈ x.f3, z ∈ adL x.f3 es) := ⟨fun z hz => adL_all _ _ z hz⟩
        generalize adL x.f3 es = es2 at HM HC2 HK2 HE2 HLE HNX
        have hkl : (x.f3.map (fun y => (at_ es2 y : Int))).length = x.f3.length := List.length_map _
        obtain ⟨ks, hks⟩ : ∃ ks, ks = x.f3.map (fun y => (at_ es2 y : Int)) := ⟨_, rfl⟩
        have HKQ := Aside0.mk hks
        rw [← hks] at HM hkl
        clear hks hkl
        obtain ⟨n, hn⟩ : ∃ n, n = (ndsT es2).length := ⟨_, rfl⟩
        have HNL := Aside0.mk hn
        have HNL2 := Aside0.mk (hn.trans (ndsT_len es2))
        obtain ⟨V1, vc1, rfl⟩ := Kd.S_slice HM.out.mem.row
        obtain ⟨U, uc, rfl⟩ := Kd.R_slice HM.out.kid
        obtain ⟨T1, tc1, rfl⟩ := Kd.R_slice HM.out.mem.txt
        rw [← hn] at HM
        have e1 : (txs es2).length = n := by rw [txs_len, HNL2.out]
        rw [e1] at HM ⊢
        clear hn e1
        have HOV := Aside0.mk HM.out.ovP
        have HI1 := Aside0.mk HM.out.i1
        have HI2 := Aside0.mk HM.out.i2
        have HKI : Aside0 (Kd.S (Kd.int .i64) 3 wr base (fun i => some i = (Value.slice U ks.length uc).ownBlock) (.slice U ks.length uc) ks) := ⟨Kd.S_lower (S_ints (Kd.R_tight rfl HM.out.kid)) (by have h1 := HBW.out; have h2 := HI1.out; omega)⟩
        have HSNT : Aside0 (ndsT es2 ++ [mkN ⟨x.f0, x.f1, x.f2, ks⟩] = ndsT (es2 ++ [x])) := ⟨by rw [ndsT_snoc HC2.out HK2.out]; unfold ndOf; rw [HKQ.out]⟩
        go_upto_region 12 with fail
        clear q3
        have g1 := (blk_cell HM.out.gb 1).trans rfl
        have n0 := (blk_cell HM.out.nb 0).trans rfl
        have n1 := (blk_cell HM.out.nb 1).trans rfl
        have n2 := (blk_cell HM.out.nb 2).trans rfl
        have n3 := (blk_cell HM.out.nb 3).trans rfl
        have n4 := (blk_cell HM.out.nb 4).trans rfl
        have n5 := (blk_cell HM.out.nb 5).trans rfl
        have n6 := (blk_cell HM.out.nb 6).trans rfl
        have n7 := (blk_cell HM.out.nb 7).trans rfl
        have n8 := (blk_cell HM.out.nb 8).trans rfl
        have n9 := (blk_cell HM.out.nb 9).trans rfl
        go_upto_region 13 with ((with_reducible refine gate_dst (N := 60) rfl ?_); refine Kd.S_append kNode (w0 := wr) (W := wr) base rfl _ _ 46 103 (.agg #[.int .i64 0, .int .i64 0, .int .i64 0, .slice none 0 0, .slice none 0 0, .slice none 0 0, .slice none 0 0, .slice none 0 0, .slice none 0 0, .int .i64 0]) 176 rfl Try.underlying46 infoNode rfl (by decide) (by decide) (.slice V1 n vc1) (ndsT es2) (mkN ⟨x.f0, x.f1, x.f2, ks⟩) [.int .i64 x.f0, .int .i64 x.f1, .int .i64 x.f2, .slice U ks.length uc, .slice none 0 0, .slice none 0 0, .slice none 0 0, .slice none 0 0, .slice none 0 0, .int .i64 0] (fun i => P' i ∨ some i = (Value.slice U ks.length uc).ownBlock ∨ wr.heap.size ≤ i) (fun i => some i = (Value.slice U ks.length uc).ownBlock) rfl rfl (mkN_M wr base _ ⟨x.f0, x.f1, x.f2, ks⟩ HKI.out) (fun i hi => ⟨.inr (.inl hi), fun h => (HM.out.kP i hi.symm).1 (HOV.out i h.symm)⟩) (fun i hi => .inr (.inr hi)) (Kd.S_mono HM.out.mem.row (fun i hi => ⟨.inl hi, fun h => (HM.out.kP i h.symm).1 hi⟩)) (below_mono2 (Below.refl _ _) (by have h1 := HBW.out; have h2 := HI1.out; have h3 := HI2.out; omega)) (by have h1 := HBW.out; have h2 := HI1.out; have h3 := HI2.out; omega) (by have := HLE.out; rw [ndsT_len]; omega) ?_; intro v9 w9 hs9 hb9 hg9 hat9; obtain ⟨V9, c9, rfl⟩ := Kd.S_slice hs9; rw [HSNT.out, ndsT_len, List.length_append, List.length_singleton, ← HNL2.out] at hs9 hat9; (try rw [HSNT.out, ndsT_len, List.length_append, List.length_singleton, ← HNL2.out]); obtain ⟨P2, nd⟩ := AddS.node HM.out hs9 hg9 hat9; have HND9 := Aside0.mk nd; have gb9 := blk_grown HM.out.gb hg9 (fun h => (HM.out.far (Nat.le_refl _) (by have := HI1.out; omega)).1 (HOV.out _ h.symm)); have q1 := (blk_cell gb9 1).trans rfl; have z1 := blk_frozen gb9 1; clear hs9 hb9 hg9 hat9 nd gb9)
        obtain ⟨hs8, ht8, pq8, hp8, fr8, ov8, gb8, rb8, hq8, sz8⟩ := HND9.out
        have HOT := Aside0.mk HM.out.ot
        have e8 : w9.heap.size = (w9.setCell ⟨w.heap.size, 1, none⟩ (.slice V9 (n + 1) c9)).heap.size := by simp [World.setCell]
        rw [e8] at hp8 sz8
        have HP8 := Aside0.mk hp8
        have HQ8 := Aside0.mk hq8
        have HSZ8 := Aside0.mk sz8
        have HS8 := Aside0.mk hs8
        have HT8 := Aside0.mk ht8
        have HPQ8 := Aside0.mk pq8
        have HFR8 := Aside0.mk fr8
        have HOV8 := Aside0.mk ov8
        have HGB8 := Aside0.mk gb8
        have HRB8 := Aside0.mk rb8
        clear hs8 ht8 pq8 hp8 fr8 ov8 gb8 rb8 hq8 sz8 e8 HND9 q1 z1 g1 n0 n1 n2 n3 n4 n5 n6 n7 n8 n9
        generalize w9.setCell ⟨w.heap.size, 1, none⟩ (.slice V9 (n + 1) c9) = W8 at HP8 HQ8 HSZ8 HS8 HT8 HPQ8 HFR8 HOV8 HGB8 HRB8 ⊢
        have HDD : Below W8.heap.size W8 W8.drew := below_drew (Below.refl _ _)
        refine Za.regionL (fun w' => w'.cell? ⟨w.heap.size, 0, none⟩ = some (.int .i64 m) ∧ w'.cell? ⟨w.heap.size, 1, none⟩ = some (.slice V9 (n + 1) c9) ∧ w'.cell? ⟨w.heap.size, 2, none⟩ = some (.int .i64 0) ∧ w'.cell? ⟨w.heap.size, 3, none⟩ = some (.int .i64 0) ∧ w'.cell? ⟨w.heap.size, 4, none⟩ = some (.bool false)) [] (by kernel_rfl) ?_
        replace HP8 : Aside0 (∀ i, P2 i → ((P i ∧ i < w.heap.size) ∨ w.heap.size + 3 ≤ i) ∧ i < W8.drew.heap.size) := ⟨fun i hi => ⟨(HP8.out i hi).1, Nat.lt_of_lt_of_le (HP8.out i hi).2 HDD.size⟩⟩
        replace HQ8 : Aside0 (∀ i, Q' i → ((Q i ∧ i < w.heap.size) ∨ w.heap.size + 3 ≤ i) ∧ i < W8.drew.heap.size) := ⟨fun i hi => ⟨(HQ8.out i hi).1, by have h1 := (HQ8.out i hi).2; have h2 := HSZ8.out; have h3 := HDD.size; omega⟩⟩
        replace HS8 := Aside0.mk (Kd.S_below HS8.out HDD)
        replace HT8 := Aside0.mk (Kd.R_below HT8.out HDD)
        replace HFR8 := Aside0.mk (Fr.trans HFR8.out (Fr.of_below (S := fun _ => False) HDD) (fun _ hk => hk.elim))
        replace HGB8 := Aside0.mk (blk_below HGB8.out HDD)
        replace HRB8 := Aside0.mk (blk_below HRB8.out HDD)
        clear HSZ8 HDD HM HOV
        generalize W8.drew = wd at HP8 HQ8 HS8 HT8 HFR8 HGB8 HRB8 ⊢
        have F13 : Aside0 (∀ w' : World, w'.heap[w.heap.size]? = some (.cells (gC m (.slice V9 (n + 1) c9)) 48 (0, 0)) → (fun w' => w'.cell? ⟨w.heap.size, 0, none⟩ = some (.int .i64 m) ∧ w'.cell? ⟨w.heap.size, 1, none⟩ = some (.slice V9 (n + 1) c9) ∧ w'.cell? ⟨w.heap.size, 2, none⟩ = some (.int .i64 0) ∧ w'.cell? ⟨w.heap.size, 3, none⟩ = some (.int .i64 0) ∧ w'.cell? ⟨w.heap.size, 4, none⟩ = some (.bool false)) w') := ⟨fun w' h => ⟨(blk_cell h 0).trans rfl, (blk_cell h 1).trans rfl, (blk_cell h 2).trans rfl, (blk_cell h 3).trans rfl, (blk_cell h 4).trans rfl⟩⟩
        have hwr : IntKind.i64.wrap (n : Int) = n := by have h1 := HLE.out; have h2 := HNL2.out; rw [IntKind.wrap_i64]; omega
        have HS : (fun w' => w'.cell? ⟨w.heap.size, 0, none⟩ = some (.int .i64 m) ∧ w'.cell? ⟨w.heap.size, 1, none⟩ = some (.slice V9 (n + 1) c9) ∧ w'.cell? ⟨w.heap.size, 2, none⟩ = some (.int .i64 0) ∧ w'.cell? ⟨w.heap.size, 3, none⟩ = some (.int .i64 0) ∧ w'.cell? ⟨w.heap.size, 4, none⟩ = some (.bool false)) wd := F13.out _ HGB8.out
        refine Za.takeL 0 (v := ?vd0) rfl (by kernel_rfl) (by kernel_rfl) (by kernel_rfl) (by kernel_rfl) (fun _ _ _ h => h) (Or.inl ⟨by rfl, ?hyd0⟩) HS ?restd0
        case hyd0 => (intro w hSw; (try dsimp only at hSw); go_simp; try with_reducible rfl)
        (try simp only [Act.put, List.setIfInBounds_toArray, List.set_cons_zero, List.set_cons_succ])
        refine Za.takeL 1 (v := ?vd1) rfl (by kernel_rfl) (by kernel_rfl) (by kernel_rfl) (by kernel_rfl) (fun _ _ _ h => h) (Or.inl ⟨by rfl, ?hyd1⟩) HS ?restd1
        case hyd1 => (intro w hSw; (try dsimp only at hSw); go_simp; try with_reducible rfl)
        (try simp only [Act.put, List.setIfInBounds_toArray, List.set_cons_zero, List.set_cons_succ])
        refine Za.takeL 2 (v := ?vd2) rfl (by kernel_rfl) (by kernel_rfl) (by kernel_rfl) (by kernel_rfl) (fun _ _ _ h => h) (Or.inl ⟨by rfl, ?hyd2⟩) HS ?restd2
        case hyd2 => (intro w hSw; (try dsimp only at hSw); go_simp; try with_reducible rfl)
        (try simp only [Act.put, List.setIfInBounds_toArray, List.set_cons_zero, List.set_cons_succ])
        refine Za.takeL 5 (v := ?vd5) rfl (by kernel_rfl) (by kernel_rfl) (by kernel_rfl) (by kernel_rfl) (fun _ _ _ h => h) (Or.inl ⟨by rfl, ?hyd5⟩) HS ?restd5
        case hyd5 => (intro w hSw; (try dsimp only at hSw); go_simp; try with_reducible rfl)
        (try simp only [Act.put, List.setIfInBounds_toArray, List.set_cons_zero, List.set_cons_succ])
        refine Za.takeL 6 (v := ?vd6) rfl (by kernel_rfl) (by kernel_rfl) (by kernel_rfl) (by kernel_rfl) (fun _ _ _ h => h) (Or.inl ⟨by rfl, ?hyd6⟩) HS ?restd6
        case hyd6 => (intro w hSw; (try dsimp only at hSw); go_simp; try with_reducible rfl)
        (try simp only [Act.put, List.setIfInBounds_toArray, List.set_cons_zero, List.set_cons_succ])
        refine Za.takeL 7 (v := ?vd7) rfl (by kernel_rfl) (by kernel_rfl) (by kernel_rfl) (by kernel_rfl) (fun _ _ _ h => h) (Or.inl ⟨by rfl, ?hyd7⟩) HS ?restd7
        case hyd7 => (intro w hSw; (try dsimp only at hSw); go_simp; try with_reducible rfl)
        (try simp only [Act.put, List.setIfInBounds_toArray, List.set_cons_zero, List.set_cons_succ])
        refine Za.takeL 8 (v := ?vd8) rfl (by kernel_rfl) (by kernel_rfl) (by kernel_rfl) (by kernel_rfl) (fun _ _ _ h => h) (Or.inl ⟨by rfl, ?hyd8⟩) HS ?restd8
        case hyd8 => (intro w hSw; (try dsimp only at hSw); go_simp; try with_reducible rfl)
        (try simp only [Act.put, List.setIfInBounds_toArray, List.set_cons_zero, List.set_cons_succ])
        clear HS
        have hb3 := below_alloc (Below.refl wd.heap.size wd) (.cells #[.string (bs (textB x))] 9)
        have hg3 := blk_below HGB8.out hb3
        refine Za.nextL 3 (by kernel_rfl) rfl (fun K' hK => ?_)
        go_simp
        refine hK.out _ _ ⟨fun _ => F13.out _ hg3, ?_⟩
        clear hK K' hb3 hg3
        (try simp only [Act.put, List.setIfInBounds_toArray, List.set_cons_zero, List.set_cons_succ])
        have hwl : base ≤ wd.heap.size := by have h1 := HFR8.out.size; have h2 := HBW.out; omega
        refine Za.nextL 4 (by kernel_rfl) rfl (fun K' hK => ?_)
        refine Kd.R_append_step Kd.string (w0 := wd) (W := wd) base (by rfl) _ _ 72 9 (.string ByteArray.empty) 16 rfl Try.underlying72 infoStr rfl (by decide) (by decide) (.slice T1 n tc1) (txs es2) (bs (textB x)) [.string (bs (textB x))] (fun i => Q' i ∨ wd.heap.size ≤ i) (fun _ => False) rfl rfl rfl (fun _ h => h.elim) (fun _ hk => .inr hk) (Kd.R_mono HT8.out (fun _ h => .inl h)) (below_mono2 (Below.refl _ _) hwl) hwl (by rw [txs_len]; have := HLE.out; omega) ?_
        intro v11 w11 hr11 hb11 hg11 hat11
        obtain ⟨T11, c11, rfl⟩ := Kd.R_slice hr11
        rw [← txs_snoc, txs_len, List.length_append, List.length_singleton, ← HNL2.out] at hr11 hat11
        try rw [← txs_snoc, txs_len, List.length_append, List.length_singleton, ← HNL2.out]
        have hTQ : ∀ j, (Value.slice T1 n tc1).ownBlock = some j → Q' j := HT8.out.1
        have far11 : ∀ j, (Value.slice T1 n tc1).ownBlock = some j → j ≠ w.heap.size ∧ j ≠ w.heap.size + 2 := fun j hj => by
          rcases (HQ8.out j (hTQ j hj)).1 with h1 | h1
          · have := h1.2; omega
          · omega
        have gb11 := blk_grown HGB8.out hg11 (fun h => (far11 _ h.symm).1 rfl)
        have rb11 := blk_grown HRB8.out hg11 (fun h => (far11 _ h.symm).2 rfl)
        refine hK.out _ _ ⟨fun _ => F13.out _ gb11, ?_⟩
        clear hK K'
        (try simp only [Act.put, List.setIfInBounds_toArray, List.set_cons_zero, List.set_cons_succ])
        have r0 := (blk_cell rb11 0).trans rfl
        have r1 := (blk_cell rb11 1).trans rfl
        have r2 := (blk_cell rb11 2).trans rfl
        have r3 := (blk_cell rb11 3).trans rfl
        have r4 := (blk_cell rb11 4).trans rfl
        have z0 := blk_frozen rb11 0
        have z1 := blk_frozen rb11 1
        have z2 := blk_frozen rb11 2
        have z3 := blk_frozen rb11 3
        have z4 := blk_frozen rb11 4
        have fr13 : Aside0 (Fr (fun k => k = w.heap.size + 2) w11 ((((((w11.setCell ⟨w.heap.size + 2, 0, none⟩ (.int .i64 m)).setCell ⟨w.heap.size + 2, 1, none⟩ (.slice V9 (n + 1) c9)).setCell ⟨w.heap.size + 2, 2, none⟩ (.int .i64 0)).setCell ⟨w.heap.size + 2, 3, none⟩ (.int .i64 0)).setCell ⟨w.heap.size + 2, 4, none⟩ (.bool false)))) := ⟨Fr.set (Fr.set (Fr.set (Fr.set (Fr.set (Fr.refl _ _) (fun _ => rfl)) (fun _ => rfl)) (fun _ => rfl)) (fun _ => rfl)) (fun _ => rfl)⟩
        have HR13 : Aside0 (((((((w11.setCell ⟨w.heap.size + 2, 0, none⟩ (.int .i64 m)).setCell ⟨w.heap.size + 2, 1, none⟩ (.slice V9 (n + 1) c9)).setCell ⟨w.heap.size + 2, 2, none⟩ (.int .i64 0)).setCell ⟨w.heap.size + 2, 3, none⟩ (.int .i64 0)).setCell ⟨w.heap.size + 2, 4, none⟩ (.bool false))).heap[w.heap.size + 2]? = some (.cells (gC m (.slice V9 (n + 1) c9)) 48 (0, 0))) := ⟨blk_put (cs := gC m (.slice V9 (n + 1) c9)) (blk_put (cs := gC m (.slice V9 (n + 1) c9)) (blk_put (cs := gC m (.slice V9 (n + 1) c9)) (blk_put (cs := gC m (.slice none 0 0)) (blk_put (cs := gC 0 (.slice none 0 0)) rb11 0 _ rfl) 1 _ rfl) 2 _ rfl) 3 _ rfl) 4 _ rfl⟩
        have gb13 : ((((((w11.setCell ⟨w.heap.size + 2, 0, none⟩ (.int .i64 m)).setCell ⟨w.heap.size + 2, 1, none⟩ (.slice V9 (n + 1) c9)).setCell ⟨w.heap.size + 2, 2, none⟩ (.int .i64 0)).setCell ⟨w.heap.size + 2, 3, none⟩ (.int .i64 0)).setCell ⟨w.heap.size + 2, 4, none⟩ (.bool false))).heap[w.heap.size]? = some (.cells (gC m (.slice V9 (n + 1) c9)) 48 (0, 0)) := (fr13.out.block _ (blk_lt gb11) (by omega)).trans gb11
        have HFIN := Aside0.mk (AddS.fin (r := (n : Int)) (m := m) HS8.out HPQ8.out HP8.out HQ8.out HFR8.out HOV8.out HOT.out hr11 hg11 hat11 fr13.out (blk_lt HRB8.out) hTQ)
        refine Za.nextL 9 (by kernel_rfl) rfl (fun K' hK => ?_)
        go_simp
        refine hK.out _ _ ⟨fun _ => F13.out _ gb13, ?_⟩
        clear hK K' r0 r1 r2 r3 r4 z0 z1 z2 z3 z4 fr13 gb11 rb11 hr11 hb11 hg11 hat11 hTQ far11
        (try simp only [Act.put, List.setIfInBounds_toArray, List.set_cons_zero, List.set_cons_succ])
        generalize (((((w11.setCell ⟨w.heap.size + 2, 0, none⟩ (.int .i64 m)).setCell ⟨w.heap.size + 2, 1, none⟩ (.slice V9 (n + 1) c9)).setCell ⟨w.heap.size + 2, 2, none⟩ (.int .i64 0)).setCell ⟨w.heap.size + 2, 3, none⟩ (.int .i64 0)).setCell ⟨w.heap.size + 2, 4, none⟩ (.bool false)) = w13 at HR13 HFIN gb13 ⊢
        have HG13 := Aside0.mk gb13
        clear gb13
        refine Za.nextL 10 (by kernel_rfl) rfl (fun K' hK => ?_)
        go_simp
        refine hK.out _ _ ⟨fun _ => F13.out _ HG13.out, ?_⟩
        clear hK K'
        (try simp only [Act.put, List.setIfInBounds_toArray, List.set_cons_zero, List.set_cons_succ])
        refine Za.nextL 11 (by kernel_rfl) rfl (fun K' hK => ?_)
        go_simp
        refine hK.out _ _ ⟨fun _ => F13.out _ HG13.out, ?_⟩
        clear hK K'
        (try simp only [Act.put, List.setIfInBounds_toArray, List.set_cons_zero, List.set_cons_succ])
        refine Za.Walk.done (by kernel_rfl) ?_
        go_wp2
        refine bodyPost_ret (results_ctt rfl _ _ (w.heap.size + 2) 48 (gC m (.slice V9 (n + 1) c9)) (0, 0) _ rfl HR13.out Try.underlying48 rfl (by kernel_rfl)) rfl ?_
        have HAT2 : Aside0 (at_ (adX x es) x = n) := ⟨by rw [HE2.out, HNL2.out]; exact at_new HNX.out⟩
        rw [HAT2.out, HE2.out]
        exact HFIN.out
theorem l7Add_any (x : Ex) (hc : cntL x.f3 ≤ 1000) : AddSCall x := add_of x (fun y hy =>
  have := cnt_mem hy
  l7Add_any y (by omega)) hc
termination_by cntL x.f3
end Go.Proofs.Ytckblabkapeigaa.Eq8
