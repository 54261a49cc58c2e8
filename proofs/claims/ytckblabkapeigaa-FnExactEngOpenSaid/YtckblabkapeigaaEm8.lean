
/- A part put into a graph: what lies in memory while its kids are put in: the program's add. -/
import Derived.Test.YtckblabkapeigaaEl8
import Derived.Test.YtckblabkapeigaaKd2
set_option linter.unusedVariables false
set_option linter.unusedSimpArgs false
namespace Go.Proofs.Ytckblabkapeigaa.Em8
open Go.RowKit Go.Proofs.YtckblabkapeigaaW.PrintWords Go.Proofs.Ytckblabkapeigaa.Ja Go.Proofs.Ytckblabkapeigaa.Jb Go.Proofs.Ytckblabkapeigaa.Jc Go.Proofs.Ytckblabkapeigaa.Jd Go.Proofs.Ytckblabkapeigaa.Jg Go.Proofs.Ytckblabkapeigaa.Ka Go.Proofs.Ytckblabkapeigaa.Kd2 Go.Proofs.Ytckblabkapeigaa.Eg8 Go.Proofs.Ytckblabkapeigaa.Eh8 Go.Proofs.Ytckblabkapeigaa.El8

/-- a graph that has found nothing, in its box -/
abbrev gC (m : Int) (v : Value) : Array Value := #[.int .i64 m, v, .int .i64 0, .int .i64 0, .bool false]
/-- a fresh node in its box, its kids' places in u -/
abbrev nC (x : Ex) (u : Value) : Array Value := #[.int .i64 x.f0, .int .i64 x.f1, .int .i64 x.f2, u, .slice none 0 0, .slice none 0 0, .slice none 0 0, .slice none 0 0, .slice none 0 0, .int .i64 0]
/-- a graph's box G and its nodes' rows (in blocks of P, from base on) -/
structure GMem (w : World) (G base : Nat) (P : Nat → Prop) (m : Int) (v : Value) (es : List Ex) : Prop where
  box : w.heap[G]? = some (.cells (gC m v) 48 (0, 0))
  row : Kd.S kNode 103 w base P v (ndsT es)
/-- what a call of add leaves: the box and the row's own block are written, all else that stood stands -/
def AddOut (w w' : World) (G base : Nat) (P : Nat → Prop) (m : Int) (v : Value) (es' : List Ex) (r : Int) (e : Ending) : Prop :=
  e = .returned (.int .i64 r) ∧ ∃ v', GMem w' G base (fun j => P j ∨ w.heap.size ≤ j) m v' es' ∧ Fr (fun j => j = G ∨ some j = v.ownBlock) w w' ∧ ∀ j, v'.ownBlock = some j → some j = v.ownBlock ∨ w.heap.size ≤ j
structure AddMem (w wr : World) (x : Ex) (G base : Nat) (m : Int) (v v' : Value) (P P' : Nat → Prop) (es' : List Ex) (u : Value) (ks : List Int) : Prop where
  g : GMem wr G base P' m v' es'
  nb : wr.heap[w.heap.size + 1]? = some (.cells (nC x u) 103 (0, 0))
  kid : (Kd.int .i64).R 3 wr (w.heap.size + 2) (fun _ => True) u ks
  kP : ∀ i, u.ownBlock = some i → ¬ P' i
  pP : ∀ i, P' i → (P i ∧ i < w.heap.size) ∨ w.heap.size + 2 ≤ i
  fr : Fr (fun j => j = G ∨ some j = v.ownBlock) w wr
  own : ∀ j, v'.ownBlock = some j → some j = v.ownBlock ∨ w.heap.size ≤ j
  size : w.heap.size + 2 ≤ wr.heap.size
section
variable {w wr W w6 : World} {x : Ex} {G base : Nat} {m : Int} {v v' u : Value} {P P' : Nat → Prop} {es' : List Ex} {ks : List Int}
theorem GMem.below (h : GMem wr G base P m v es') (hb : Below wr.heap.size wr W) : GMem W G base P m v es' := ⟨blk_below h.box hb, Kd.S_below h.row hb⟩
theorem AddMem.below (h : AddMem w wr x G base m v v' P P' es' u ks) (hb : Below wr.heap.size wr W) : AddMem w W x G base m v v' P P' es' u ks :=
  ⟨h.g.below hb, blk_below h.nb hb, Kd.R_below h.kid hb, h.kP, h.pP, Fr.trans h.fr (Fr.of_below (S := fun _ => False) hb) (fun _ hk => hk.elim), h.own, Nat.le_trans h.size hb.size⟩
/-- a kid is put in -/
theorem AddMem.call (h : AddMem w wr x G base m v v' P P' es' u ks) (hG : G < w.heap.size) {es2 : List Ex} {r : Int} {e : Ending} (ho : AddOut wr w6 G base P' m v' es2 r e) :
    e = .returned (.int .i64 r) ∧ ∃ v2 P2, AddMem w w6 x G base m v v2 P P2 es2 u ks ∧ ∀ i, P2 i → i < w6.heap.size := by
  obtain ⟨he, v2, hg, hf, hown⟩ := ho
  have hsz := h.size
  have hv : ∀ j, v'.ownBlock = some j → P' j := (Kd.S_R h.g.row).1
  have hlt := Kd.R_lt h.kid
  have hbs := Kd.R_base h.kid
  refine ⟨he, v2, fun i => (P' i ∨ wr.heap.size ≤ i) ∧ i < w6.heap.size, ⟨⟨hg.box, Kd.S_mono (Kd.S_bound hg.row) (fun k hk => ⟨hk.1, hk.2.2.1⟩)⟩, ?_, ?_, ?_, ?_, ?_, ?_, Nat.le_trans hsz hf.size⟩, fun i hi => hi.2⟩
  · refine (hf.block _ (by omega) ?_).trans h.nb
    rintro (h1 | h1)
    · omega
    · rcases h.pP _ (hv _ h1.symm) with h2 | h2 <;> omega
  · refine Kd.R_mono (Kd.R_step (Kd.R_tight rfl h.kid) (fun k hk hk2 => hf.block k hk2 ?_)) (fun _ _ => trivial)
    rintro (h1 | h1)
    · have := hbs k hk.symm; omega
    · exact h.kP k hk.symm (hv _ h1.symm)
  · intro i hi h1
    rcases h1.1 with h2 | h2
    · exact h.kP i hi h2
    · have := hlt i hi; omega
  · intro i hi
    rcases hi.1 with h2 | h2
    · exact h.pP i h2
    · exact .inr (by omega)
  · refine Fr.trans h.fr hf (fun k hk hk2 => ?_)
    rcases hk with h1 | h1
    · exact .inl h1
    · rcases h.own k h1.symm with h2 | h2
      · exact .inr h2
      · omega
  · intro j hj
    rcases hown j hj with h1 | h1
    · exact h.own j h1.symm
    · exact .inr (by omega)
/-- a kid's place is put to the row of places (u2, at w7), and stored -/
theorem AddMem.store (h : AddMem w wr x G base m v v' P P' es' u ks) (hG : G < w.heap.size) (hlt : ∀ i, P' i → i < wr.heap.size) {w7 : World} {u2 : Value} {k : Int} (hr : (Kd.int .i64).R 3 w7 (w.heap.size + 2) (fun _ => True) u2 (ks ++ [k]))
    (hgr : wr.grownBy w7 u.ownBlock) (hat : u2.ownBlock = u.ownBlock ∨ ∃ b, u2.ownBlock = some b ∧ wr.heap.size ≤ b) :
    AddMem w (w7.setCell ⟨w.heap.size + 1, 3, none⟩ u2) x G base m v v' P P' es' u2 (ks ++ [k]) := by
  have hsz := h.size
  have hbu := Kd.R_base h.kid
  have hb2 := Kd.R_base hr
  have hs7 := hgr.size
  have hbox : w7.heap[G]? = some (.cells (gC m v') 48 (0, 0)) := (hgr.block G (by omega) (fun e => by have := hbu G e.symm; omega)).trans h.g.box
  have hnb : w7.heap[w.heap.size + 1]? = some (.cells (nC x u) 103 (0, 0)) := (hgr.block _ (by omega) (fun e => by have := hbu _ e.symm; omega)).trans h.nb
  have hrow : Kd.S kNode 103 w7 base P' v' (ndsT es') := Kd.S_step h.g.row (fun i hi hi2 => hgr.block i hi2 (fun e => h.kP i e.symm hi))
  have hne : ∀ i, P' i → i ≠ w.heap.size + 1 := fun i hi => by rcases h.pP i hi with h1 | h1 <;> omega
  refine ⟨⟨blk_far hbox (p := ⟨w.heap.size + 1, 3, none⟩) (by show G ≠ w.heap.size + 1; omega) u2, Kd.S_far (p := ⟨w.heap.size + 1, 3, none⟩) hrow hne u2⟩, blk_put (cs := nC x u) hnb 3 _ rfl, ?_, ?_, h.pP, ?_, h.own, ?_⟩
  · exact Kd.R_mono (Kd.R_far (p := ⟨w.heap.size + 1, 3, none⟩) (Kd.R_mono (Kd.R_bound hr) (ok' := fun i => w.heap.size + 2 ≤ i) (fun i hi => hi.2.1)) (fun i hi => by show i ≠ w.heap.size + 1; omega) u2) (fun _ _ => trivial)
  · intro i hi h1
    rcases hat with h2 | ⟨b, h2, h3⟩
    · exact h.kP i (h2.symm.trans hi) h1
    · rw [h2] at hi; injection hi with hi; subst hi
      have := hlt _ h1; omega
  · refine Fr.set (Fr.trans h.fr (Fr.of_grown (S := fun j => some j = u.ownBlock) hgr (fun _ hk => hk)) (fun k hk hk2 => by have := hbu k hk.symm; omega)) (fun hk => by omega)
  · simp [World.setCell]; omega
/-- the node is put behind the others (v2, at w7), and the row stored in the graph's box -/
theorem AddMem.fin (h : AddMem w wr x G base m v v' P P' es' u ks) (hG : G < w.heap.size) (hGb : G < base) {es2 : List Ex} {w7 : World} {v2 : Value} {r : Int} (hs : Kd.S kNode 103 w7 base (fun j => P' j ∨ some j = u.ownBlock ∨ wr.heap.size ≤ j) v2 (ndsT es2))
    (hgr : wr.grownBy w7 v'.ownBlock) (hat : v2.ownBlock = v'.ownBlock ∨ ∃ b, v2.ownBlock = some b ∧ wr.heap.size ≤ b) : AddOut w (w7.setCell ⟨G, 1, none⟩ v2) G base P m v es2 r (.returned (.int .i64 r)) := by
  have hsz := h.size
  have hbv := Kd.R_base (Kd.S_R h.g.row)
  have hbu := Kd.R_base h.kid
  have hbox : w7.heap[G]? = some (.cells (gC m v') 48 (0, 0)) := (hgr.block G (by omega) (fun e => by have := hbv G e.symm; omega)).trans h.g.box
  refine ⟨rfl, v2, ⟨blk_put (cs := gC m v') hbox 1 _ rfl, ?_⟩, ?_, ?_⟩
  · refine Kd.S_mono (Kd.S_far (p := ⟨G, 1, none⟩) (Kd.S_mono (Kd.S_bound hs) (ok' := fun j => (P' j ∨ some j = u.ownBlock ∨ wr.heap.size ≤ j) ∧ base ≤ j) (fun j hj => ⟨hj.1, hj.2.1⟩)) (fun j hj => by show j ≠ G; have := hj.2; omega) v2) (fun j hj => ?_)
    rcases hj.1 with h1 | h1 | h1
    · rcases h.pP j h1 with h2 | h2
      · exact .inl h2.1
      · exact .inr (by omega)
    · exact .inr (by have := hbu j h1.symm; omega)
    · exact .inr (by omega)
  · refine Fr.set (Fr.trans h.fr (Fr.of_grown (S := fun j => some j = v'.ownBlock) hgr (fun _ hk => hk)) (fun k hk hk2 => ?_)) (fun _ => .inl rfl)
    rcases h.own k hk.symm with h1 | h1
    · exact .inr h1
    · omega
  · intro j hj
    rcases hat with h1 | ⟨b, h1, h2⟩
    · exact h.own j (h1.symm.trans hj)
    · rw [h1] at hj; injection hj with hj; subst hj
      exact .inr (by omega)
/-- nothing is put in: the part stands there already -/
theorem AddMem.old (h : AddMem w wr x G base m v v' P P' es' u ks) {r : Int} : AddOut w wr G base P m v es' r (.returned (.int .i64 r)) := by
  have hsz := h.size
  refine ⟨rfl, v', ⟨h.g.box, Kd.S_mono h.g.row (fun j hj => ?_)⟩, h.fr, h.own⟩
  rcases h.pP j hj with h2 | h2
  · exact .inl h2.1
  · exact .inr (by omega)
/-- the start -/
theorem AddMem.start (hg : GMem w G base P m v es') (hX : Below w.heap.size w W) (hs : W.heap.size = w.heap.size + 1) :
    AddMem w (W.alloc (.cells (nC x (.slice none 0 0)) 103)) x G base m v v P (fun j => P j ∧ j < w.heap.size) es' (.slice none 0 0) [] := by
  have hb := below_then hX hX.size (below_alloc (Below.refl W.heap.size W) (.cells (nC x (.slice none 0 0)) 103))
  refine ⟨⟨blk_below hg.box hb, Kd.S_below (Kd.S_mono (Kd.S_bound hg.row) (fun k hk => ⟨hk.1, hk.2.2.1⟩)) hb⟩, by rw [← hs]; exact blk_new _ _, Kd.R_nil _ _ _ _ _, fun i hi => by simp [Value.ownBlock] at hi, fun i hi => .inl hi, Fr.of_below hb, fun j hj => .inl hj.symm, by simp [hs]⟩
end
/-! places of kids, one by one -/
theorem aiL_append : ∀ (l k : List Ex) (es : List Ex), aiL (l ++ k) es = aiL k (aiL l es)
  | [], k, es => by simp [aiL]
  | x :: xs, k, es => by rw [List.cons_append, aiL, aiL, aiL_append xs k]
theorem aiL_snoc (l : List Ex) (j : Nat) (h : j < l.length) (es : List Ex) : aiL (l.take (j + 1)) es = aiX (l.getD j zE) (aiL (l.take j) es) := by
  rw [take_snoc l j zE h, aiL_append, aiL, aiL]
theorem at_snoc (l : List Ex) (j : Nat) (h : j < l.length) {es : List Ex} (hc : Closed es) :
    (l.take (j + 1)).map (fun y => (at_ (aiL (l.take (j + 1)) es) y : Int)) = (l.take j).map (fun y => (at_ (aiL (l.take j) es) y : Int)) ++ [(at_ (aiX (l.getD j zE) (aiL (l.take j) es)) (l.getD j zE) : Int)] := by
  have e1 := aiL_snoc l j h es
  have hc2 : Closed (aiL (l.take j) es) := by rw [adL_aiL _ _ hc]; exact adL_closed _ _ hc
  rw [take_snoc l j zE h, List.map_append, List.map_cons, List.map_nil, ← take_snoc l j zE h, e1]
  congr 1
  refine List.map_congr_left (fun y hy => ?_)
  have hm : y ∈ aiL (l.take j) es := by rw [adL_aiL _ _ hc]; exact adL_all _ _ y hy
  rw [ad_ai _ _ hc2]
  obtain ⟨t, h1, _⟩ := adX_pre (l.getD j zE) (aiL (l.take j) es)
  rw [h1, at_app hm]
end Go.Proofs.Ytckblabkapeigaa.Em8
