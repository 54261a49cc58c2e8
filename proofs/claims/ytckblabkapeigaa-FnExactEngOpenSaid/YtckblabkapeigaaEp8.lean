
/- A part put into a graph by the reference: what lies in memory while its kids are put in. -/
import Derived.Test.YtckblabkapeigaaEm8
import Derived.Test.YtckblabkapeigaaEn8
import Derived.Test.YtckblabkapeigaaNe
set_option linter.unusedVariables false
set_option linter.unusedSimpArgs false
namespace Go.Proofs.Ytckblabkapeigaa.Ep8
open Go.RowKit Go.Proofs.YtckblabkapeigaaW.PrintWords Go.Proofs.Ytckblabkapeigaa.Ja Go.Proofs.Ytckblabkapeigaa.Jb Go.Proofs.Ytckblabkapeigaa.Jc Go.Proofs.Ytckblabkapeigaa.Jd Go.Proofs.Ytckblabkapeigaa.Jg Go.Proofs.Ytckblabkapeigaa.Ka Go.Proofs.Ytckblabkapeigaa.Kd2 Go.Proofs.Ytckblabkapeigaa.Na Go.Proofs.Ytckblabkapeigaa.Nd Go.Proofs.Ytckblabkapeigaa.Eg8 Go.Proofs.Ytckblabkapeigaa.Eh8 Go.Proofs.Ytckblabkapeigaa.El8 Go.Proofs.Ytckblabkapeigaa.Em8 Go.Proofs.Ytckblabkapeigaa.En8

/-- the parts' texts -/
def txs (es : List Ex) : List ByteArray := es.map (fun z => bs (textB z))
theorem txs_len (es : List Ex) : (txs es).length = es.length := by simp [txs]
theorem txs_snoc (es : List Ex) (x : Ex) : txs (es ++ [x]) = txs es ++ [bs (textB x)] := by simp [txs]
/-- rows of a graph's nodes (blocks of P) and of its parts' texts (blocks of Q) -/
structure SMem (w : World) (base : Nat) (P Q : Nat → Prop) (v vt : Value) (es : List Ex) : Prop where
  row : Kd.S kNode 103 w base P v (ndsT es)
  txt : Kd.string.R 9 w base Q vt (txs es)
  pq : ∀ i, P i → Q i → False
abbrev Own2 (v vt : Value) : Nat → Prop := fun j => some j = v.ownBlock ∨ some j = vt.ownBlock
def AddSOut (w w' : World) (base : Nat) (P Q : Nat → Prop) (m : Int) (v vt : Value) (es' : List Ex) (r : Int) (e : Ending) : Prop :=
  ∃ v' vt' P' Q', e = .returned (.tuple #[.agg (gC m v'), vt', .int .i64 r]) ∧ SMem w' base P' Q' v' vt' es' ∧ (∀ i, P' i → ((P i ∧ i < w.heap.size) ∨ w.heap.size ≤ i) ∧ i < w'.heap.size) ∧ (∀ i, Q' i → ((Q i ∧ i < w.heap.size) ∨ w.heap.size ≤ i) ∧ i < w'.heap.size) ∧
    Fr (Own2 v vt) w w' ∧ (∀ j, v'.ownBlock = some j → some j = v.ownBlock ∨ w.heap.size ≤ j) ∧ (∀ j, vt'.ownBlock = some j → some j = vt.ownBlock ∨ w.heap.size ≤ j)
structure AddS (w wr : World) (x : Ex) (A : Option Addr) (c NB base : Nat) (m : Int) (v vt v' vt' : Value) (P Q P' Q' : Nat → Prop) (es' : List Ex) (u : Value) (ks : List Int) : Prop where
  mem : SMem wr base P' Q' v' vt' es'
  gb : wr.heap[w.heap.size]? = some (.cells (gC m v') 48 (0, 0))
  xb : wr.heap[w.heap.size + 1]? = some (.cells #[.int .i64 x.f0, .int .i64 x.f1, .int .i64 x.f2, .slice A x.f3.length c] 52 (0, 0))
  rb : wr.heap[w.heap.size + 2]? = some (.cells (gC 0 (.slice none 0 0)) 48 (0, 0))
  nb : wr.heap[NB]? = some (.cells (nC x u) 103 (0, 0))
  kid : (Kd.int .i64).R 3 wr (NB + 1) (fun _ => True) u ks
  kP : ∀ i, u.ownBlock = some i → ¬ P' i ∧ ¬ Q' i
  pP : ∀ i, P' i → ((P i ∧ i < w.heap.size) ∨ NB + 1 ≤ i) ∧ i < wr.heap.size
  pQ : ∀ i, Q' i → ((Q i ∧ i < w.heap.size) ∨ NB + 1 ≤ i) ∧ i < wr.heap.size
  fr : Fr (Own2 v vt) w wr
  ov : ∀ j, v'.ownBlock = some j → some j = v.ownBlock ∨ w.heap.size ≤ j
  ot : ∀ j, vt'.ownBlock = some j → some j = vt.ownBlock ∨ w.heap.size ≤ j
  i1 : w.heap.size + 3 ≤ NB
  i2 : NB + 1 ≤ wr.heap.size
section
variable {w wr W w6 : World} {x : Ex} {A : Option Addr} {c NB base : Nat} {m : Int} {v vt v' vt' u : Value} {P Q P' Q' : Nat → Prop} {es' : List Ex} {ks : List Int}
theorem SMem.below (h : SMem wr base P Q v vt es') (hb : Below wr.heap.size wr W) : SMem W base P Q v vt es' := ⟨Kd.S_below h.row hb, Kd.R_below h.txt hb, h.pq⟩
theorem AddS.below (h : AddS w wr x A c NB base m v vt v' vt' P Q P' Q' es' u ks) (hb : Below wr.heap.size wr W) : AddS w W x A c NB base m v vt v' vt' P Q P' Q' es' u ks :=
  ⟨h.mem.below hb, blk_below h.gb hb, blk_below h.xb hb, blk_below h.rb hb, blk_below h.nb hb, Kd.R_below h.kid hb, h.kP, fun i hi => ⟨(h.pP i hi).1, by have := (h.pP i hi).2; have := hb.size; omega⟩, fun i hi => ⟨(h.pQ i hi).1, by have := (h.pQ i hi).2; have := hb.size; omega⟩, Fr.trans h.fr (Fr.of_below (S := fun _ => False) hb) (fun _ hk => hk.elim), h.ov, h.ot, h.i1, Nat.le_trans h.i2 hb.size⟩
theorem AddS.ovP (h : AddS w wr x A c NB base m v vt v' vt' P Q P' Q' es' u ks) : ∀ j, v'.ownBlock = some j → P' j := (Kd.S_R h.mem.row).1
theorem AddS.otQ (h : AddS w wr x A c NB base m v vt v' vt' P Q P' Q' es' u ks) : ∀ j, vt'.ownBlock = some j → Q' j := h.mem.txt.1
/-- a box of the call's own is of neither row -/
theorem AddS.far (h : AddS w wr x A c NB base m v vt v' vt' P Q P' Q' es' u ks) {j : Nat} (h1 : w.heap.size ≤ j) (h2 : j ≤ NB) : ¬ P' j ∧ ¬ Q' j ∧ u.ownBlock ≠ some j := by
  refine ⟨fun hp => ?_, fun hp => ?_, fun hu => ?_⟩
  · rcases (h.pP j hp).1 with h3 | h3 <;> omega
  · rcases (h.pQ j hp).1 with h3 | h3 <;> omega
  · have := Kd.R_base h.kid j hu; omega
/-- a kid is put in -/
theorem AddS.call (h : AddS w wr x A c NB base m v vt v' vt' P Q P' Q' es' u ks) {es2 : List Ex} {r : Int} {e : Ending} (ho : AddSOut wr w6 base P' Q' m v' vt' es2 r e) :
    ∃ v2 vt2 P2 Q2, e = .returned (.tuple #[.agg (gC m v2), vt2, .int .i64 r]) ∧ (∀ w7, w7 = ((((w6.setCell ⟨w.heap.size, 0, none⟩ (.int .i64 m)).setCell ⟨w.heap.size, 1, none⟩ v2).setCell ⟨w.heap.size, 2, none⟩ (.int .i64 0)).setCell ⟨w.heap.size, 3, none⟩ (.int .i64 0)).setCell ⟨w.heap.size, 4, none⟩ (.bool false) →
      AddS w w7 x A c NB base m v vt v2 vt2 P Q P2 Q2 es2 u ks) ∧ w6.heap[w.heap.size]? = some (.cells (gC m v') 48 (0, 0)) ∧ w6.heap[w.heap.size + 1]? = some (.cells #[.int .i64 x.f0, .int .i64 x.f1, .int .i64 x.f2, .slice A x.f3.length c] 52 (0, 0)) ∧ Kd.S kNode 103 w6 base P2 v2 (ndsT es2) ∧ Kd.string.R 9 w6 base Q2 vt2 (txs es2) := by
  obtain ⟨v2, vt2, P2, Q2, he, hm, hP, hQ, hf, hov, hot⟩ := ho
  have i1 := h.i1
  have i2 := h.i2
  have hlt := Kd.R_lt h.kid
  have hbs := Kd.R_base h.kid
  have stand : ∀ j o, w.heap.size ≤ j → j ≤ NB → wr.heap[j]? = some o → w6.heap[j]? = some o := fun j o h1 h2 h3 => by
    obtain ⟨n1, n2, n3⟩ := h.far h1 h2
    refine (hf.block j (by omega) ?_).trans h3
    rintro (h4 | h4)
    · exact n1 (h.ovP j h4.symm)
    · exact n2 (h.otQ j h4.symm)
  have ne2 : ∀ i, P2 i ∨ Q2 i → i ≠ w.heap.size := fun i hi => by
    rcases hi with hi | hi
    · rcases (hP i hi).1 with h1 | h1
      · have := h.far (j := i) ; intro e; subst e; exact (h.far (Nat.le_refl _) (by omega)).1 h1.1
      · omega
    · rcases (hQ i hi).1 with h1 | h1
      · intro e; subst e; exact (h.far (Nat.le_refl _) (by omega)).2.1 h1.1
      · omega
  have hkid : (Kd.int .i64).R 3 w6 (NB + 1) (fun i => u.ownBlock = some i) u ks := by
    refine Kd.R_step (Kd.R_mono (Kd.R_tight rfl h.kid) (fun k hk => hk.symm)) (fun k hk hk2 => hf.block k hk2 ?_)
    rintro (h1 | h1)
    · exact (h.kP k hk).1 (h.ovP k h1.symm)
    · exact (h.kP k hk).2 (h.otQ k h1.symm)
  refine ⟨v2, vt2, P2, Q2, he, fun w7 e7 => ?_, stand _ _ (Nat.le_refl _) (by omega) h.gb, stand _ _ (by omega) (by omega) h.xb, hm.row, hm.txt⟩
  have fr5 : Fr (fun k => k = w.heap.size) w6 w7 := by
    rw [e7]
    exact Fr.set (Fr.set (Fr.set (Fr.set (Fr.set (Fr.refl _ _) (fun _ => rfl)) (fun _ => rfl)) (fun _ => rfl)) (fun _ => rfl)) (fun _ => rfl)
  have sz5 : w7.heap.size = w6.heap.size := by rw [e7]; simp [World.setCell]
  have far5 : ∀ j o, w.heap.size < j → w6.heap[j]? = some o → w7.heap[j]? = some o := fun j o h1 h2 => (fr5.block j (blk_lt h2) (by omega)).trans h2
  refine ⟨⟨Kd.S_step hm.row (fun k hk hk2 => fr5.block k hk2 (ne2 k (.inl hk))), Kd.R_step hm.txt (fun k hk hk2 => fr5.block k hk2 (ne2 k (.inr hk))), hm.pq⟩, ?_, far5 _ _ (by omega) (stand _ _ (by omega) (by omega) h.xb), far5 _ _ (by omega) (stand _ _ (by omega) (by omega) h.rb), far5 _ _ (by omega) (stand _ _ (by omega) (Nat.le_refl _) h.nb), ?_, ?_, ?_, ?_, ?_, ?_, ?_, i1, ?_⟩
  · rw [e7]
    exact blk_put (cs := gC m v2) (blk_put (cs := gC m v2) (blk_put (cs := gC m v2) (blk_put (cs := gC m v') (blk_put (cs := gC m v') (stand _ _ (Nat.le_refl _) (by omega) h.gb) 0 _ rfl) 1 _ rfl) 2 _ rfl) 3 _ rfl) 4 _ rfl
  · refine Kd.R_mono (Kd.R_step hkid (fun k hk hk2 => fr5.block k hk2 (fun e => ?_))) (fun _ _ => trivial)
    subst e
    exact (h.far (Nat.le_refl _) (by omega)).2.2 hk
  · intro i hi
    have hl := hlt i hi
    refine ⟨fun hp => ?_, fun hp => ?_⟩
    · rcases (hP i hp).1 with h1 | h1
      · exact (h.kP i hi).1 h1.1
      · omega
    · rcases (hQ i hp).1 with h1 | h1
      · exact (h.kP i hi).2 h1.1
      · omega
  · intro i hi
    refine ⟨?_, by rw [sz5]; exact (hP i hi).2⟩
    rcases (hP i hi).1 with h1 | h1
    · exact (h.pP i h1.1).1
    · exact .inr (by omega)
  · intro i hi
    refine ⟨?_, by rw [sz5]; exact (hQ i hi).2⟩
    rcases (hQ i hi).1 with h1 | h1
    · exact (h.pQ i h1.1).1
    · exact .inr (by omega)
  · refine Fr.trans (Fr.trans h.fr hf (fun k hk hk2 => ?_)) fr5 (fun k hk hk2 => by omega)
    rcases hk with h1 | h1
    · rcases h.ov k h1.symm with h2 | h2
      · exact .inl h2
      · omega
    · rcases h.ot k h1.symm with h2 | h2
      · exact .inr h2
      · omega
  · intro j hj
    rcases hov j hj with h1 | h1
    · exact h.ov j h1.symm
    · exact .inr (by omega)
  · intro j hj
    rcases hot j hj with h1 | h1
    · exact h.ot j h1.symm
    · exact .inr (by omega)
  · have := hf.size; omega
/-- a kid's place is stored: the row u2 (at w7), the node's box -/
theorem AddS.store (h : AddS w wr x A c NB base m v vt v' vt' P Q P' Q' es' u ks) {w7 : World} {u2 : Value} {ks2 : List Int} (hr : (Kd.int .i64).R 3 w7 (NB + 1) (fun _ => True) u2 ks2)
    (hg : wr.grownBy w7 u.ownBlock) (hat : u2.ownBlock = u.ownBlock ∨ ∃ b, u2.ownBlock = some b ∧ wr.heap.size ≤ b) : AddS w (w7.setCell ⟨NB, 3, none⟩ u2) x A c NB base m v vt v' vt' P Q P' Q' es' u2 ks2 := by
  have i1 := h.i1
  have i2 := h.i2
  have hbs := Kd.R_base h.kid
  have hb7 := Kd.R_base hr
  have fr : Fr (fun k => k = NB ∨ some k = u.ownBlock) wr (w7.setCell ⟨NB, 3, none⟩ u2) := Fr.set (Fr.of_grown (S := fun k => k = NB ∨ some k = u.ownBlock) hg (fun k hk => .inr hk)) (fun _ => .inl rfl)
  have stand : ∀ j o, w.heap.size ≤ j → j < NB → wr.heap[j]? = some o → (w7.setCell ⟨NB, 3, none⟩ u2).heap[j]? = some o := fun j o h1 h2 h3 => by
    obtain ⟨n1, n2, n3⟩ := h.far h1 (Nat.le_of_lt h2)
    refine (fr.block j (by omega) ?_).trans h3
    rintro (h4 | h4)
    · omega
    · exact n3 h4.symm
  have kq : ∀ k, P' k ∨ Q' k → ¬ (k = NB ∨ some k = u.ownBlock) := fun k hk => by
    rintro (h4 | h4)
    · subst h4
      rcases hk with hk | hk
      · exact (h.far (by omega) (Nat.le_refl _)).1 hk
      · exact (h.far (by omega) (Nat.le_refl _)).2.1 hk
    · rcases hk with hk | hk
      · exact (h.kP k h4.symm).1 hk
      · exact (h.kP k h4.symm).2 hk
  have hsz := fr.size
  refine ⟨⟨Kd.S_step h.mem.row (fun k hk hk2 => fr.block k hk2 (kq k (.inl hk))), Kd.R_step h.mem.txt (fun k hk hk2 => fr.block k hk2 (kq k (.inr hk))), h.mem.pq⟩, stand _ _ (Nat.le_refl _) (by omega) h.gb, stand _ _ (by omega) (by omega) h.xb, stand _ _ (by omega) (by omega) h.rb, ?_, ?_, ?_, ?_, ?_, ?_, h.ov, h.ot, i1, by omega⟩
  · have hn : w7.heap[NB]? = some (.cells (nC x u) 103 (0, 0)) := (hg.block NB (by omega) (fun e => by have := hbs NB e.symm; omega)).trans h.nb
    exact blk_put (cs := nC x u) hn 3 _ rfl
  · exact Kd.R_mono (Kd.R_far (p := ⟨NB, 3, none⟩) (Kd.R_mono (Kd.R_bound hr) (ok' := fun k => NB + 1 ≤ k) (fun k hk => hk.2.1)) (fun k hk => by show k ≠ NB; omega) u2) (fun _ _ => trivial)
  · intro i hi
    rcases hat with h1 | ⟨b, h1, h2⟩
    · exact h.kP i (h1.symm.trans hi)
    · rw [h1] at hi; injection hi with hi; subst hi
      exact ⟨fun hp => by have := (h.pP b hp).2; omega, fun hp => by have := (h.pQ b hp).2; omega⟩
  · intro i hi
    exact ⟨(h.pP i hi).1, by have := (h.pP i hi).2; omega⟩
  · intro i hi
    exact ⟨(h.pQ i hi).1, by have := (h.pQ i hi).2; omega⟩
  · refine Fr.trans h.fr fr (fun k hk hk2 => ?_)
    rcases hk with h1 | h1
    · omega
    · have := hbs k h1.symm; omega
/-- the node is put behind the others (v2, at w7), its row stored in the graph's box -/
theorem AddS.node (h : AddS w wr x A c NB base m v vt v' vt' P Q P' Q' es' u ks) {es2 : List Ex} {w7 : World} {v2 : Value} (hs : Kd.S kNode 103 w7 base (fun j => P' j ∨ some j = u.ownBlock ∨ wr.heap.size ≤ j) v2 (ndsT es2))
    (hg : wr.grownBy w7 v'.ownBlock) (hat : v2.ownBlock = v'.ownBlock ∨ ∃ b, v2.ownBlock = some b ∧ wr.heap.size ≤ b) :
    ∃ P2, Kd.S kNode 103 (w7.setCell ⟨w.heap.size, 1, none⟩ v2) base P2 v2 (ndsT es2) ∧ Kd.string.R 9 (w7.setCell ⟨w.heap.size, 1, none⟩ v2) base Q' vt' (txs es') ∧ (∀ i, P2 i → Q' i → False) ∧
      (∀ i, P2 i → ((P i ∧ i < w.heap.size) ∨ w.heap.size + 3 ≤ i) ∧ i < w7.heap.size) ∧ Fr (Own2 v vt) w (w7.setCell ⟨w.heap.size, 1, none⟩ v2) ∧ (∀ j, v2.ownBlock = some j → some j = v.ownBlock ∨ w.heap.size ≤ j) ∧
      (w7.setCell ⟨w.heap.size, 1, none⟩ v2).heap[w.heap.size]? = some (.cells (gC m v2) 48 (0, 0)) ∧ (w7.setCell ⟨w.heap.size, 1, none⟩ v2).heap[w.heap.size + 2]? = some (.cells (gC 0 (.slice none 0 0)) 48 (0, 0)) ∧ (∀ i, Q' i → ((Q i ∧ i < w.heap.size) ∨ w.heap.size + 3 ≤ i) ∧ i < wr.heap.size) ∧ wr.heap.size ≤ w7.heap.size := by
  have i1 := h.i1
  have i2 := h.i2
  have hbu := Kd.R_base h.kid
  have fr : Fr (fun k => k = w.heap.size ∨ some k = v'.ownBlock) wr (w7.setCell ⟨w.heap.size, 1, none⟩ v2) := Fr.set (Fr.of_grown (S := fun k => k = w.heap.size ∨ some k = v'.ownBlock) hg (fun k hk => .inr hk)) (fun _ => .inl rfl)
  have n0 := h.far (j := w.heap.size) (Nat.le_refl _) (by omega)
  have hpp : ∀ j, (P' j ∨ some j = u.ownBlock ∨ wr.heap.size ≤ j) → ((P j ∧ j < w.heap.size) ∨ w.heap.size + 3 ≤ j) := fun j hj => by
    rcases hj with h1 | h1 | h1
    · rcases (h.pP j h1).1 with h2 | h2
      · exact .inl h2
      · exact .inr (by omega)
    · exact .inr (by have := hbu j h1.symm; omega)
    · exact .inr (by omega)
  refine ⟨fun j => (P' j ∨ some j = u.ownBlock ∨ wr.heap.size ≤ j) ∧ j < w7.heap.size, ?_, ?_, ?_, ?_, ?_, ?_, ?_, ?_, ?_, hg.size⟩
  · refine Kd.S_far (Kd.S_mono (Kd.S_bound hs) (ok' := fun j => (P' j ∨ some j = u.ownBlock ∨ wr.heap.size ≤ j) ∧ j < w7.heap.size) (fun j hj => ⟨hj.1, hj.2.2.1⟩)) (fun j hj => ?_) v2
    show j ≠ w.heap.size
    rcases hpp j hj.1 with h1 | h1 <;> omega
  · refine Kd.R_step h.mem.txt (fun k hk hk2 => fr.block k hk2 ?_)
    rintro (h4 | h4)
    · subst h4; exact n0.2.1 hk
    · exact h.mem.pq k (h.ovP k h4.symm) hk
  · intro i hi hq
    rcases hi.1 with h1 | h1 | h1
    · exact h.mem.pq i h1 hq
    · exact (h.kP i h1.symm).2 hq
    · have := (h.pQ i hq).2; omega
  · intro i hi
    exact ⟨hpp i hi.1, hi.2⟩
  · refine Fr.trans h.fr fr (fun k hk hk2 => ?_)
    rcases hk with h1 | h1
    · omega
    · rcases h.ov k h1.symm with h2 | h2
      · exact .inl h2
      · omega
  · intro j hj
    rcases hat with h1 | ⟨b, h1, h2⟩
    · exact h.ov j (h1.symm.trans hj)
    · rw [h1] at hj; injection hj with hj; subst hj
      exact .inr (by omega)
  · have hn : w7.heap[w.heap.size]? = some (.cells (gC m v') 48 (0, 0)) := (hg.block _ (by omega) (fun e => n0.1 (h.ovP _ e.symm))).trans h.gb
    exact blk_put (cs := gC m v') hn 1 _ rfl
  · refine (fr.block _ (by omega) ?_).trans h.rb
    rintro (h4 | h4)
    · omega
    · exact (h.far (j := w.heap.size + 2) (by omega) (by omega)).1 (h.ovP _ h4.symm)
  · intro i hi
    refine ⟨?_, (h.pQ i hi).2⟩
    rcases (h.pQ i hi).1 with h2 | h2
    · exact .inl h2
    · exact .inr (by omega)
end
end Go.Proofs.Ytckblabkapeigaa.Ep8
