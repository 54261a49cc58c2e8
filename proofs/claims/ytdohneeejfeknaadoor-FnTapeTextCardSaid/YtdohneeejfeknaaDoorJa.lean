
/- Words of no type of its own: worlds, boxes, frames, what is read of what came in, a list between two lists. Out of this proof's own texts. -/
import Derived.Test.YtdohneeejfeknaaDoorWWords
import Derived.Test.YtdohneeejfeknaaDoorWShare
import Derived.Test.YtdohneeejfeknaaDoorWApart
import Derived.Test.YtdohneeejfeknaaDoorProg
import Derived.Deep.Slices
import Derived.Deep.QuietTactic
import Derived.BigQuiet
import Derived.Deep.RegionHeld3
import Derived.Test.YtdohneeejfeknaaDoorZa
set_option linter.unusedVariables false
set_option linter.unusedSimpArgs false
namespace Go.Proofs.YtdohneeejfeknaaDoor.Ja
open Go.RowKit Go.Proofs.YtdohneeejfeknaaDoorW.PrintWords
theorem ret_bool {a b : Bool} (h : a = b) : Ending.returned (.bool a) = .returned (.bool b) := by rw [h]
theorem ret_int {k : IntKind} {a b : Int} (h : a = b) : Ending.returned (.int k a) = .returned (.int k b) := by rw [h]

theorem C_len {α : Type} {d : Kd α} {w : World} {A : Option Addr} {n : Nat} {xs : List α} (h : d.C w A n xs) : xs.length = n ∧ n ≤ 9223372036854775807 := ⟨h.1, h.2.1⟩
theorem drop_at {α : Type} (xs : List α) (z : α) (k : Nat) (h : k < xs.length) : xs.drop k = xs.getD k z :: xs.drop (k + 1) := by
  rw [List.drop_eq_getElem_cons h]
  simp [h]

theorem at1 {w : World} {A : Option Addr} {n : Nat} {xs : List Int} (h : (Kd.int .i64).C w A n xs) (k : Nat) (hk : k < n) : ∃ ad, A = some ad ∧ w.cell? (ad.add k) = some (.int .i64 (xs.getD k 0)) := by
  obtain ⟨ad, e, hc⟩ := Kd.at_int h (k : Int) (by omega) (by omega)
  exact ⟨ad, e, hc⟩

def Ext (W : World) : Type := { w' : World // Below W.heap.size W w' }
instance (W : World) : Nonempty (Ext W) := ⟨⟨W, Below.refl _ _⟩⟩
theorem cellE {W : World} {p : Addr} {v : Value} (h : W.cell? p = some v) (s : Ext W) : s.1.cell? p = some v := pw_cell_below s.2 h
theorem C_ext {α : Type} {d : Kd α} {W : World} {A : Option Addr} {n : Nat} {xs : List α} (h : d.C W A n xs) (s : Ext W) : d.C s.1 A n xs := Kd.C_below h s.2
section
variable {P : Program}
theorem calls_ext {f : FuncId} {args : Array Value} {W : World} {s : Ext W} {v : Value} (h : Calls P f args s.1 fun e w' => e = .returned v ∧ Below s.1.heap.size s.1 w') : Calls P f args s.1 fun e w'' => e = .returned v ∧ ∃ s' : Ext W, w'' = s'.1 :=
  h.mono fun _ w'' ⟨he, hb⟩ => ⟨he, ⟨w'', below_then s.2 s.2.size hb⟩, rfl⟩
theorem calls_ext_same {f : FuncId} {args : Array Value} {W : World} {s : Ext W} {v : Value} (h : Calls P f args s.1 fun e w' => e = .returned v ∧ w' = s.1) : Calls P f args s.1 fun e w'' => e = .returned v ∧ ∃ s' : Ext W, w'' = s'.1 :=
  h.mono fun _ w'' ⟨he, hb⟩ => ⟨he, s, hb⟩
/-- A region whose operations read what was, and whose calls leave it: one walk, in the order of the text. -/
theorem region_ext {id : Nat} {Q : Exit → Act → World → Prop} {a : Act} {w W : World} {l : List Oper} (hb : Below W.heap.size W w) (hm : P.follows .mixedOrders = true) (hB : Region.lexB .any l.toArray = true)
    (h : wpQuiet P l.toArray (fun w' => ∃ s : Ext W, w' = s.1) (fun a' => ∀ w', (∃ s : Ext W, w' = s.1) → Q .normal a' w') l a) : (Code.region id l.toArray true).wp P Q a w :=
  wp_region_quiet (C := fun w' => ∃ s : Ext W, w' = s.1) hm hB ⟨⟨w.drew, below_drew hb⟩, rfl⟩ (by simpa using h)
end
section
variable {H : Type} (enc : TypeId × Value → H) (P : Program) (w : World) (base : Nat) (spare : Nat → Bool) (held : Bool)
/-- whatever can be read at type t is of kind d, and ok -/
def Opn {α : Type} (t : TypeId) (d : Kd α) (ok : α → Prop) : Prop :=
  ∀ fuel cs x, DataW.trod enc P w base spare held fuel t cs = some x → ∃ a, d.K w a cs ∧ ok a
end
section
variable {H : Type} {enc : TypeId × Value → H} {P : Program} {w : World} {base : Nat} {spare : Nat → Bool} {held : Bool}
theorem opn_int {t : TypeId} {k : IntKind} (ht : P.underlying t = some (.int k)) : Opn enc P w base spare held t (Kd.int k) (fun n => (Lit.int k n).wf = true) := by
  intro fuel cs x h
  cases fuel with
  | zero => simp [DataW.trod] at h
  | succ f =>
    rw [DataW.trod_step] at h
    unfold DataW.trodStep at h
    rw [ht] at h
    split at h <;> simp_all
    rename_i heq
    obtain ⟨rfl⟩ := heq
    exact ⟨_, by rw [← h.1.1]; rfl, h.1.2⟩
theorem list_of {α : Type} {Q : Nat → α → Prop} : ∀ len, (∀ i, i < len → ∃ y, Q i y) → ∃ l : List α, l.length = len ∧ ∀ i y, l[i]? = some y → Q i y
  | 0, _ => ⟨[], rfl, fun i y h => by simp at h⟩
  | k + 1, hall => by
    obtain ⟨l, hll, hl2⟩ := list_of k (fun i hi => hall i (by omega))
    obtain ⟨y, hy⟩ := hall k (by omega)
    refine ⟨l ++ [y], by simp [hll], fun i z hz => ?_⟩
    by_cases hi : i < l.length
    · rw [List.getElem?_append_left hi] at hz
      exact hl2 i z hz
    · rw [List.getElem?_append_right (by omega)] at hz
      have hik : i = k := by
        have := (List.getElem?_eq_some_iff.1 hz).1
        simp at this
        omega
      subst hik
      have : y = z := by rw [hll] at hz; simpa using hz
      subst this
      exact hy
theorem opn_slice {α : Type} {t e e0 : TypeId} {d : Kd α} {ok : α → Prop} (ht : P.underlying t = some (.slice e)) (hc : P.cellsOf e = d.sz) (hd : Opn enc P w base spare held e d ok) :
    Opn enc P w base spare held t (Kd.slice e0 d) (fun l => ∀ x ∈ l, ok x) := by
  intro fuel cs x h
  rcases Go.Deep.open_slice ht h with ⟨rfl, _⟩ | ⟨a, len, cap, m, n, D, Pl, rfl, hb, hl, hm, hmm, _, hx⟩
  · exact ⟨[], ⟨none, 0, rfl, Nat.le_refl _, rfl, by simp, fun h => by simp at h⟩, by simp⟩
  · have hlm : len ≤ m := by subst hmm; split <;> omega
    have hall : ∀ i, i < len → ∃ (y : α) (c : List Value), d.K w y c ∧ ok y ∧ c.length = d.sz ∧ ∀ j u, c[j]? = some u → w.cell? (a.add (i * d.sz + j)) = some u := by
      intro i hi
      obtain ⟨c, h1, h2⟩ := hx i (by omega)
      obtain ⟨y, hK, hok⟩ := hd _ _ _ h2
      rw [hc] at h1
      obtain ⟨_, hlen, hcell⟩ := World.cells?_some h1
      refine ⟨y, c, hK, hok, hlen, fun j u hj => ?_⟩
      have hjl : j < c.length := (List.getElem?_eq_some_iff.1 hj).1
      have := hcell j (by omega)
      rw [← add_add]
      rw [hj] at this
      exact this
    obtain ⟨l, hll, hl2⟩ := list_of len hall
    refine ⟨l, ⟨some a, cap, by rw [hll], by omega, rfl, ?_, fun _ => ⟨a, rfl, fun i y hy => ?_⟩⟩, fun y hy => ?_⟩
    · unfold maxLen at hm; omega
    · obtain ⟨c, h1, _, h3, h4⟩ := hl2 i y hy
      exact ⟨c, h3, h1, h4⟩
    · obtain ⟨i, hi⟩ := List.getElem?_of_mem hy
      obtain ⟨c, _, h2, _⟩ := hl2 i y hi
      exact h2
/-- a struct's fields from cell 'off' on -/
def OpnF {H : Type} (enc : TypeId × Value → H) (P : Program) (w : World) (base : Nat) (spare : Nat → Bool) (held : Bool) {α : Type} (off : Nat) (fs : List Field) (d : Kd α) (ok : α → Prop) : Prop :=
  ∀ (fuel : Nat) (cs : List Value) (xs : List (DataW H × List MemPlace)), (fs.mapM fun f => DataW.trod enc P w base spare held fuel f.type ((cs.drop f.offset).take (P.cellsOf f.type))) = some xs → cs.length = off + d.sz → ∃ a, d.K w a (cs.drop off) ∧ ok a
theorem opn_last {α : Type} {off : Nat} {f : Field} {d : Kd α} {ok : α → Prop} (ho : f.offset = off) (hc : P.cellsOf f.type = d.sz) (hd : Opn enc P w base spare held f.type d ok) : OpnF enc P w base spare held off [f] d ok := by
  intro fuel cs xs h hlen
  rw [List.mapM_cons] at h
  obtain ⟨x, hx, _⟩ := Option.bind_eq_some_iff.1 h
  obtain ⟨a, hK, hok⟩ := hd _ _ _ hx
  rw [ho, hc, List.take_of_length_le (by rw [List.length_drop]; omega)] at hK
  exact ⟨a, hK, hok⟩
theorem opn_cons {α β : Type} {off : Nat} {f : Field} {fs : List Field} {d : Kd α} {d2 : Kd β} {ok : α → Prop} {ok2 : β → Prop} (ho : f.offset = off) (hc : P.cellsOf f.type = d.sz) (hd : Opn enc P w base spare held f.type d ok)
    (hr : OpnF enc P w base spare held (off + d.sz) fs d2 ok2) : OpnF enc P w base spare held off (f :: fs) (Kd.pair d d2) (fun x => ok x.1 ∧ ok2 x.2) := by
  intro fuel cs xs h hlen
  have hsz : (Kd.pair d d2).sz = d.sz + d2.sz := rfl
  rw [List.mapM_cons] at h
  obtain ⟨x, hx, h2⟩ := Option.bind_eq_some_iff.1 h
  obtain ⟨ys, hys, _⟩ := Option.bind_eq_some_iff.1 h2
  obtain ⟨a, hK, hok⟩ := hd _ _ _ hx
  obtain ⟨b, hK2, hok2⟩ := hr _ _ _ hys (by omega)
  rw [ho, hc] at hK
  refine ⟨(a, b), ⟨_, _, ?_, hK, hK2⟩, hok, hok2⟩
  rw [← List.drop_drop, List.take_append_drop]
theorem opn_struct {α : Type} {t : TypeId} {fs : Array Field} {d : Kd α} {ok : α → Prop} (ht : P.underlying t = some (.struct fs)) (hc : P.cellsOf t = d.sz) (hd : OpnF enc P w base spare held 0 fs.toList d ok) : Opn enc P w base spare held t d ok := by
  intro fuel cs x h
  cases fuel with
  | zero => simp [DataW.trod] at h
  | succ f =>
    rw [DataW.trod_step] at h
    unfold DataW.trodStep at h
    rw [ht] at h
    simp only at h
    split at h
    · rename_i hl
      obtain ⟨xs, hxs, _⟩ := Option.map_eq_some_iff.1 h
      obtain ⟨a, hK, hok⟩ := hd _ _ _ hxs (by omega)
      exact ⟨a, by simpa using hK, hok⟩
    · simp at h
theorem opn_iso {α β : Type} {t : TypeId} {d : Kd α} {ok : α → Prop} (f : β → α) (g : α → β) (hfg : ∀ x, f (g x) = x) (hd : Opn enc P w base spare held t d ok) : Opn enc P w base spare held t (Kd.iso d f) (fun y => ok (f y)) := by
  intro fuel cs x h
  obtain ⟨a, hK, hok⟩ := hd _ _ _ h
  exact ⟨g a, by show d.K w (f (g a)) cs; rw [hfg]; exact hK, by show ok (f (g a)); rw [hfg]; exact hok⟩
theorem opn_imp {α : Type} {t : TypeId} {d : Kd α} {ok ok' : α → Prop} (hd : Opn enc P w base spare held t d ok) (hk : ∀ x, ok x → ok' x) : Opn enc P w base spare held t d ok' := by
  intro fuel cs x h
  obtain ⟨a, hK, hok⟩ := hd _ _ _ h
  exact ⟨a, hK, hk _ hok⟩
end
def inb (n a b : Int) : Bool := decide (a ≤ n) && decide (n ≤ b)
theorem in_any (n a b : Int) (w : World) : Calls Tryd.prog 49 #[.int .i64 n, .int .i64 a, .int .i64 b] w fun e w' => e = .returned (.bool (inb n a b)) ∧ w' = w := by
  unfold inb
  by_cases h : a ≤ n
  · have h' : decide (a ≤ n) = true := decide_eq_true h
    go_enter Tryd.func49, Tryd.ntmps49
    go_wp2
    go_ret
    exact ⟨by simp [h], rfl⟩
  · have h' : decide (a ≤ n) = false := decide_eq_false h
    go_enter Tryd.func49, Tryd.ntmps49
    go_wp2
    go_ret
    exact ⟨by simp [h], rfl⟩

theorem keepD {W w3 : World} (h : Below W.drew.heap.size W.drew w3) : Below W.heap.size W w3 := ⟨h.os, h.tape, h.output, h.size, h.block⟩
theorem keepA {W w3 : World} {ob : Obj} (h : Below (W.alloc ob).drew.heap.size (W.alloc ob).drew w3) : Below W.heap.size W w3 := below_then (below_alloc (Below.refl _ _) ob) (by simp) (keepD h)

theorem take_succ_getD {α : Type} (l : List α) (k : Nat) (z : α) (h : k < l.length) : l.take (k + 1) = l.take k ++ [l.getD k z] := by
  rw [List.take_add_one, List.getD_eq_getElem?_getD, List.getElem?_eq_getElem h]; rfl
/-- an empty row, as it is laid -/
theorem R_empty {α : Type} (d : Kd α) {e : Nat} {w : World} {base : Nat} {g : Nat} (hg : w.heap[g]? = some (.cells #[] e (0, 0))) (hb : base ≤ g) : d.R e w base (fun _ => True) (.slice (some ⟨g, 0, none⟩) 0 0) [] :=
  ⟨fun _ _ => trivial, [], ⟨by simp, .inr ⟨g, 0, #[], rfl, hb, hg, Nat.le_refl _, by decide, by simp, by simp⟩⟩, Reps.none _ _⟩

theorem boxes2 (w : World) (cs0 cs1 : Array Value) (t0 t1 : TypeId) :
    Below w.heap.size w ((w.alloc (.cells cs0 t0)).alloc (.cells cs1 t1)) ∧ ((w.alloc (.cells cs0 t0)).alloc (.cells cs1 t1)).heap[w.heap.size]? = some (.cells cs0 t0 (0, 0)) ∧
    ((w.alloc (.cells cs0 t0)).alloc (.cells cs1 t1)).heap[w.heap.size + 1]? = some (.cells cs1 t1 (0, 0)) := by
  refine ⟨by repeat (first | exact Below.refl _ _ | apply below_alloc), blk_alloc (blk_new _ _) _, ?_⟩
  have := blk_new (w.alloc (.cells cs0 t0)) (.cells cs1 t1)
  simpa using this

theorem boxes3 (w : World) (cs0 cs1 cs2 : Array Value) (t0 t1 t2 : TypeId) :
    Below w.heap.size w (((w.alloc (.cells cs0 t0)).alloc (.cells cs1 t1)).alloc (.cells cs2 t2)) ∧
    (((w.alloc (.cells cs0 t0)).alloc (.cells cs1 t1)).alloc (.cells cs2 t2)).heap[w.heap.size]? = some (.cells cs0 t0 (0, 0)) ∧
    (((w.alloc (.cells cs0 t0)).alloc (.cells cs1 t1)).alloc (.cells cs2 t2)).heap[w.heap.size + 1]? = some (.cells cs1 t1 (0, 0)) ∧
    (((w.alloc (.cells cs0 t0)).alloc (.cells cs1 t1)).alloc (.cells cs2 t2)).heap[w.heap.size + 1 + 1]? = some (.cells cs2 t2 (0, 0)) := by
  refine ⟨by repeat (first | exact Below.refl _ _ | apply below_alloc), blk_alloc (blk_alloc (blk_new _ _) _) _, blk_alloc ?_ _, ?_⟩
  · have := blk_new (w.alloc (.cells cs0 t0)) (.cells cs1 t1)
    simpa using this
  · have := blk_new ((w.alloc (.cells cs0 t0)).alloc (.cells cs1 t1)) (.cells cs2 t2)
    simpa using this
/-- numbers that lie in a block -/
theorem blk_C {w : World} {B : Nat} {t : TypeId} {xs : List Int} (hB : w.heap[B]? = some (.cells (xs.map (Value.int .i64)).toArray t (0, 0))) (hl : xs.length ≤ 9223372036854775807) : (Kd.int .i64).C w (some ⟨B, 0, none⟩) xs.length xs := by
  refine ⟨rfl, hl, fun _ => ⟨_, rfl, fun j q hj => ⟨[.int .i64 q], rfl, rfl, fun i u hi => ?_⟩⟩⟩
  obtain ⟨rfl, rfl⟩ : i = 0 ∧ u = .int .i64 q := by
    rcases i with _ | i
    · exact ⟨rfl, by simpa using hi.symm⟩
    · simp at hi
  rw [add_plain, blk_cell hB]
  show (xs.map (Value.int .i64)).toArray[j * 1 + 0]? = _
  simp [hj]
theorem grown_alloc {w : World} (o : Obj) (row : Option Nat) : w.grownBy (w.alloc o) row := grown_of_below (below_alloc (Below.refl _ _) o) row
theorem grown_set {w : World} {H j : Nat} {u : Value} {n : Nat} {w1 : World} {row : Option Nat} (hg : w1.grownBy w row) (hH : w1.heap.size ≤ H) : w1.grownBy (w.setCell ⟨H, j, none⟩ u) row :=
  ⟨hg.os, hg.tape, hg.output, by simpa [World.setCell] using hg.size, fun k hk hne => (Below.heap_setCell w ⟨H, j, none⟩ u k (by simp; omega)).trans (hg.block k hk hne)⟩
/-- what an earlier memory held, but for one block, still stands though something newer than it was written -/
theorem grown_new {w w1 w2 : World} {r1 row : Option Nat} (h1 : w.grownBy w1 r1) (h2 : w1.grownBy w2 row) (hrow : ∀ k, row = some k → w.heap.size ≤ k ∨ some k = r1) : w.grownBy w2 r1 :=
  ⟨h2.os.trans h1.os, h2.tape.trans h1.tape, h2.output.trans h1.output, Nat.le_trans h1.size h2.size, fun k hk hne => (h2.block k (Nat.lt_of_lt_of_le hk h1.size) (fun e => by rcases hrow k e.symm with h | h; omega; exact hne h)).trans (h1.block k hk hne)⟩

theorem own_step {α : Type} {d : Kd α} {e : Nat} {w1 w2 : World} {base g : Nat} {v : Value} {xs : List α} (h : d.R e w1 base (fun _ => True) v xs) (hg : w1.grownBy w2 (some g)) (hb : g < base) : d.R e w2 base (fun _ => True) v xs :=
  Kd.R_mono (Kd.R_grown (Kd.R_mono (Kd.R_bound h) (ok' := fun k => base ≤ k) (fun k hk => hk.2.1)) hg (fun k hk => by simp; omega)) (fun _ _ => trivial)
structure Fr (S : Nat → Prop) (w w' : World) : Prop where
  os : w'.os = w.os
  tape : w'.tape = w.tape
  output : w'.output = w.output
  size : w.heap.size ≤ w'.heap.size
  block : ∀ k, k < w.heap.size → ¬ S k → w'.heap[k]? = w.heap[k]?
section
variable {S T : Nat → Prop} {w w' a b c : World} {B : Nat} {row : Option Nat}
theorem Fr.refl (S : Nat → Prop) (w : World) : Fr S w w := ⟨rfl, rfl, rfl, Nat.le_refl _, fun _ _ _ => rfl⟩
theorem Fr.of_below (h : Below w.heap.size w w') : Fr S w w' := ⟨h.os, h.tape, h.output, h.size, fun k hk _ => h.block k hk⟩
theorem Fr.of_grown (h : w.grownBy w' row) (hS : ∀ k, some k = row → S k) : Fr S w w' := ⟨h.os, h.tape, h.output, h.size, fun k hk hn => h.block k hk (fun e => hn (hS k e))⟩
theorem Fr.trans (h : Fr S a b) (g : Fr T b c) (hT : ∀ k, T k → k < a.heap.size → S k) : Fr S a c :=
  ⟨g.os.trans h.os, g.tape.trans h.tape, g.output.trans h.output, Nat.le_trans h.size g.size, fun k hk hn => (g.block k (Nat.lt_of_lt_of_le hk h.size) (fun ht => hn (hT k ht hk))).trans (h.block k hk hn)⟩
theorem Fr.below (h : Fr S w w') (hB : B ≤ w.heap.size) (hS : ∀ k, S k → B ≤ k) : Below B w w' := ⟨h.os, h.tape, h.output, h.size, fun k hk => h.block k (by omega) (fun hs => by have := hS k hs; omega)⟩
theorem Fr.grown (h : Fr S w w') (hS : ∀ k, S k → some k = row) : w.grownBy w' row := ⟨h.os, h.tape, h.output, h.size, fun k hk hn => h.block k hk (fun hs => hn (hS k hs))⟩
theorem Fr.mono (h : Fr S w w') (hS : ∀ k, S k → k < w.heap.size → T k) : Fr T w w' := ⟨h.os, h.tape, h.output, h.size, fun k hk hn => h.block k hk (fun hs => hn (hS k hs hk))⟩
theorem Fr.set {g j : Nat} {u : Value} (h : Fr S w w') (hg : g < w.heap.size → S g) : Fr S w (w'.setCell ⟨g, j, none⟩ u) :=
  h.trans (T := fun k => k = g) ⟨rfl, rfl, rfl, by simp [World.setCell], fun k _ hn => Below.heap_setCell w' ⟨g, j, none⟩ u k hn⟩ (fun k hk hlt => by subst hk; exact hg hlt)
end
/-- a value's own block -/
abbrev own (v : Value) : Nat → Prop := fun k => v.ownBlock = some k

/-- the marks: numbers one behind the other -/
def mkI (k : Int) (n : Nat) : List Int := (List.range n).map (fun (j : Nat) => k + (j : Int))
theorem mkI_length (k : Int) (n : Nat) : (mkI k n).length = n := by simp [mkI]
theorem mkI_snoc (k : Int) (n : Nat) : mkI k n ++ [k + (n : Int)] = mkI k (n + 1) := by simp [mkI, List.range_succ]
theorem mkI_getD (k : Int) (n i : Nat) (h : i < n) : (mkI k n).getD i 0 = k + (i : Int) := by simp [mkI, List.getD_eq_getElem?_getD, h]
theorem take_snoc {α : Type} (l : List α) (i : Nat) (z : α) (h : i < l.length) : l.take (i + 1) = l.take i ++ [l.getD i z] := by
  rw [List.take_succ_eq_append_getElem h, List.getD_eq_getElem?_getD, List.getElem?_eq_getElem h]; rfl
theorem mid_getD {α : Type} (pre l : List α) (i : Nat) (z : α) (hp : pre.length = i) : (pre ++ l.drop i).getD i z = l.getD i z := by
  subst hp
  simp [List.getD_eq_getElem?_getD, List.getElem?_append_right]
theorem mid_set {α : Type} (pre l : List α) (i : Nat) (y : α) (hp : pre.length = i) (h : i < l.length) : (pre ++ l.drop i).set i y = (pre ++ [y]) ++ l.drop (i + 1) := by
  subst hp
  rw [List.set_append_right _ _ (Nat.le_refl _), Nat.sub_self, List.drop_eq_getElem_cons h, List.set_cons_zero]
  simp
theorem mid_length {α : Type} (pre l : List α) (i : Nat) (hp : pre.length = i) (h : i ≤ l.length) : (pre ++ l.drop i).length = l.length := by
  simp [hp]; omega
end Go.Proofs.YtdohneeejfeknaaDoor.Ja
