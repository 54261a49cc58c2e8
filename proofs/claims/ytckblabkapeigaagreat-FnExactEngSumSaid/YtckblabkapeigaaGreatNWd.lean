
/- Words of this proof's own, of no program: three numbers in line; what came in, read by its kind. -/
import Derived.Test.YtckblabkapeigaaGreatWWords
import Derived.Deep.Slices
import Derived.Deep.QuietTactic
import Derived.BigQuiet
import Derived.Test.YtckblabkapeigaaGreatNPu
set_option linter.unusedVariables false
set_option linter.unusedSimpArgs false
namespace Go.Proofs.YtckblabkapeigaaGreat.Wd
open Go.RowKit Go.Proofs.YtckblabkapeigaaGreatW.PrintWords
open Go.Proofs.YtckblabkapeigaaGreat.Pu (Occ zO)

theorem ret_bool {a b : Bool} (h : a = b) : Ending.returned (.bool a) = .returned (.bool b) := by rw [h]
/-! three numbers in line -/
structure T3 where
 a : Int
 b : Int
 c : Int
def z3 : T3 := ⟨0, 0, 0⟩
def k3 : Kd T3 := Kd.iso (Kd.pair (Kd.int .i64) (Kd.pair (Kd.int .i64) (Kd.int .i64))) (fun x => (x.a, x.b, x.c))
def c3 (x : T3) : List Value := [.int .i64 x.a, .int .i64 x.b, .int .i64 x.c]
theorem C_len {α : Type} {d : Kd α} {w : World} {A : Option Addr} {n : Nat} {xs : List α} (h : d.C w A n xs) : xs.length = n ∧ n ≤ 9223372036854775807 := ⟨h.1, h.2.1⟩
theorem drop_at {α : Type} (xs : List α) (z : α) (k : Nat) (h : k < xs.length) : xs.drop k = xs.getD k z :: xs.drop (k + 1) := by
 rw [List.drop_eq_getElem_cons h]
 simp [h]

/-! a number of a row -/
theorem at1 {w : World} {A : Option Addr} {n : Nat} {xs : List Int} (h : (Kd.int .i64).C w A n xs) (k : Nat) (hk : k < n) : ∃ ad, A = some ad ∧ w.cell? (ad.add k) = some (.int .i64 (xs.getD k 0)) := by
 obtain ⟨ad, e, hc⟩ := Kd.at_int h (k : Int) (by omega) (by omega)
 exact ⟨ad, e, hc⟩

/-! occurrences: from, to, the events -/
abbrev kO : Kd Occ := P.k54
theorem kO_open {w : World} {x : Occ} {cs : List Value} (h : kO.K w x cs) : ∃ A c, cs = [.int .i64 x.f0, .int .i64 x.f1, .slice A x.f2.length c] ∧ x.f2.length ≤ c ∧ (Kd.int .i64).C w A x.f2.length x.f2 := by
 obtain ⟨_, _, rfl, rfl, ⟨_, _, rfl, rfl, ⟨A, c, rfl, l, g⟩⟩⟩ := h
 exact ⟨A, c, rfl, l, g⟩
theorem atO {w : World} {A : Option Addr} {n : Nat} {xs : List Occ} (h : kO.C w A n xs) (k : Nat) (hk : k < n) :
  ∃ ad A2 c2, A = some ad ∧ w.cell? (ad.add (k * 3)) = some (.int .i64 (xs.getD k zO).f0) ∧ w.cell? ⟨(ad.add (k * 3)).block, (ad.add (k * 3)).off + 1, none⟩ = some (.int .i64 (xs.getD k zO).f1) ∧ w.cell? ⟨(ad.add (k * 3)).block, (ad.add (k * 3)).off + 2, none⟩ = some (.slice A2 (xs.getD k zO).f2.length c2) ∧
   (xs.getD k zO).f2.length ≤ c2 ∧ (Kd.int .i64).C w A2 (xs.getD k zO).f2.length (xs.getD k zO).f2 := by
 obtain ⟨ad, c, e, _, hK, hc⟩ := Kd.C_get h zO (k : Int) (by omega) (by omega)
 rw [Int.toNat_natCast] at hK hc
 have hc' : ∀ j u, c[j]? = some u → w.cell? (ad.add (k * 3 + j)) = some u := hc
 obtain ⟨A2, c2, rfl, l, g⟩ := kO_open hK
 exact ⟨ad, A2, c2, e, hc' 0 _ rfl, by rw [← add_field _ _ 1 (by omega)]; exact hc' 1 _ rfl, by rw [← add_field _ _ 2 (by omega)]; exact hc' 2 _ rfl, l, g⟩
/-- an occurrence as it is handed over, and what it reads -/
def IsO (w : World) (x : Occ) (A : Option Addr) (c : Nat) : Prop := x.f2.length ≤ c ∧ (Kd.int .i64).C w A x.f2.length x.f2
theorem IsO.below {w w' : World} {x : Occ} {A : Option Addr} {c : Nat} (h : IsO w x A c) (hb : Below w.heap.size w w') : IsO w' x A c := ⟨h.1, Kd.C_below h.2 hb⟩

/-! worlds behind W: new blocks, what was is as it was -/
def Ext (W : World) : Type := { w' : World // Below W.heap.size W w' }
instance (W : World) : Nonempty (Ext W) := ⟨⟨W, Below.refl _ _⟩⟩
theorem cellE {W : World} {p : Addr} {v : Value} (h : W.cell? p = some v) (s : Ext W) : s.1.cell? p = some v := pw_cell_below s.2 h
theorem IsO.ext {W : World} {x : Occ} {A : Option Addr} {c : Nat} (h : IsO W x A c) (s : Ext W) : IsO s.1 x A c := h.below s.2
section
variable {P : Program}
theorem calls_ext {f : FuncId} {args : Array Value} {W : World} {s : Ext W} {v : Value} (h : Calls P f args s.1 fun e w' => e = .returned v ∧ Below s.1.heap.size s.1 w') : Calls P f args s.1 fun e w'' => e = .returned v ∧ ∃ s' : Ext W, w'' = s'.1 :=
 h.mono fun _ w'' ⟨he, hb⟩ => ⟨he, ⟨w'', below_then s.2 s.2.size hb⟩, rfl⟩
/-- A region whose operations read what was, and whose calls leave it: one walk, in the order of the text. -/
theorem region_ext {id : Nat} {Q : Exit → Act → World → Prop} {a : Act} {w W : World} {l : List Oper} (hb : Below W.heap.size W w) (hm : P.follows .mixedOrders = true) (hB : Region.lexB .any l.toArray = true)
  (h : wpQuiet P l.toArray (fun w' => ∃ s : Ext W, w' = s.1) (fun a' => ∀ w', (∃ s : Ext W, w' = s.1) → Q .normal a' w') l a) : (Code.region id l.toArray true).wp P Q a w :=
 wp_region_quiet (C := fun w' => ∃ s : Ext W, w' = s.1) hm hB ⟨⟨w.drew, below_drew hb⟩, rfl⟩ (by simpa using h)
end

/-! what came in, read by its kind -/
section
variable {H : Type} (enc : TypeId × Value → H) (P : Program) (w : World) (base : Nat) (spare : Nat → Bool) (held : Bool)
/-- whatever can be read at type t is of kind d, and ok -/
def Opn {α : Type} (t : TypeId) (d : Kd α) (ok : α → Prop) : Prop :=
 ∀ fuel cs x, DataW.trod enc P w base spare held fuel t cs = some x → ∃ a, d.K w a cs ∧ ok a
end
section
variable {H : Type} {enc : TypeId × Value → H} {P : Program} {w : World} {base : Nat} {spare : Nat → Bool} {held : Bool}
theorem opn_int {t : TypeId} {k : IntKind} (ht : P.underlying t = some (.int k)) : Opn enc P w base spare held t (Kd.int k) (fun n => (Lit.int k n).wf = true) := by
 intro fuel cs x h
 cases fuel with
 | zero => simp [DataW.trod] at h
 | succ f =>
  rw [DataW.trod_step] at h
  unfold DataW.trodStep at h
  rw [ht] at h
  split at h <;> simp_all
  rename_i heq
  obtain ⟨rfl⟩ := heq
  exact ⟨_, by rw [← h.1.1]; rfl, h.1.2⟩
theorem list_of {α : Type} {Q : Nat → α → Prop} : ∀ len, (∀ i, i < len → ∃ y, Q i y) → ∃ l : List α, l.length = len ∧ ∀ i y, l[i]? = some y → Q i y
 | 0, _ => ⟨[], rfl, fun i y h => by simp at h⟩
 | k + 1, hall => by
  obtain ⟨l, hll, hl2⟩ := list_of k (fun i hi => hall i (by omega))
  obtain ⟨y, hy⟩ := hall k (by omega)
  refine ⟨l ++ [y], by simp [hll], fun i z hz => ?_⟩
  by_cases hi : i < l.length
  ·rw [List.getElem?_append_left hi] at hz
   exact hl2 i z hz
  ·rw [List.getElem?_append_right (by omega)] at hz
   have hik : i = k := by
    have := (List.getElem?_eq_some_iff.1 hz).1
    simp at this
    omega
   subst hik
   have : y = z := by rw [hll] at hz; simpa using hz
   subst this
   exact hy
theorem opn_slice {α : Type} {t e e0 : TypeId} {d : Kd α} {ok : α → Prop} (ht : P.underlying t = some (.slice e)) (hc : P.cellsOf e = d.sz) (hd : Opn enc P w base spare held e d ok) :
  Opn enc P w base spare held t (Kd.slice e0 d) (fun l => ∀ x ∈ l, ok x) := by
 intro fuel cs x h
 rcases Go.Deep.open_slice ht h with ⟨rfl, _⟩ | ⟨a, len, cap, m, n, D, Pl, rfl, hb, hl, hm, hmm, _, hx⟩
 ·exact ⟨[], ⟨none, 0, rfl, Nat.le_refl _, rfl, by simp, fun h => by simp at h⟩, by simp⟩
 ·have hlm : len ≤ m := by subst hmm; split <;> omega
  have hall : ∀ i, i < len → ∃ (y : α) (c : List Value), d.K w y c ∧ ok y ∧ c.length = d.sz ∧ ∀ j u, c[j]? = some u → w.cell? (a.add (i * d.sz + j)) = some u := by
   intro i hi
   obtain ⟨c, h1, h2⟩ := hx i (by omega)
   obtain ⟨y, hK, hok⟩ := hd _ _ _ h2
   rw [hc] at h1
   obtain ⟨_, hlen, hcell⟩ := World.cells?_some h1
   refine ⟨y, c, hK, hok, hlen, fun j u hj => ?_⟩
   have hjl : j < c.length := (List.getElem?_eq_some_iff.1 hj).1
   have := hcell j (by omega)
   rw [← add_add]
   rw [hj] at this
   exact this
  obtain ⟨l, hll, hl2⟩ := list_of len hall
  refine ⟨l, ⟨some a, cap, by rw [hll], by omega, rfl, ?_, fun _ => ⟨a, rfl, fun i y hy => ?_⟩⟩, fun y hy => ?_⟩
  ·unfold maxLen at hm; omega
  ·obtain ⟨c, h1, _, h3, h4⟩ := hl2 i y hy
   exact ⟨c, h3, h1, h4⟩
  ·obtain ⟨i, hi⟩ := List.getElem?_of_mem hy
   obtain ⟨c, _, h2, _⟩ := hl2 i y hi
   exact h2
/-- a struct's fields from cell 'off' on -/
def OpnF {H : Type} (enc : TypeId × Value → H) (P : Program) (w : World) (base : Nat) (spare : Nat → Bool) (held : Bool) {α : Type} (off : Nat) (fs : List Field) (d : Kd α) (ok : α → Prop) : Prop :=
 ∀ (fuel : Nat) (cs : List Value) (xs : List (DataW H × List MemPlace)), (fs.mapM fun f => DataW.trod enc P w base spare held fuel f.type ((cs.drop f.offset).take (P.cellsOf f.type))) = some xs → cs.length = off + d.sz → ∃ a, d.K w a (cs.drop off) ∧ ok a
theorem opn_last {α : Type} {off : Nat} {f : Field} {d : Kd α} {ok : α → Prop} (ho : f.offset = off) (hc : P.cellsOf f.type = d.sz) (hd : Opn enc P w base spare held f.type d ok) : OpnF enc P w base spare held off [f] d ok := by
 intro fuel cs xs h hlen
 rw [List.mapM_cons] at h
 obtain ⟨x, hx, _⟩ := Option.bind_eq_some_iff.1 h
 obtain ⟨a, hK, hok⟩ := hd _ _ _ hx
 rw [ho, hc, List.take_of_length_le (by rw [List.length_drop]; omega)] at hK
 exact ⟨a, hK, hok⟩
theorem opn_cons {α β : Type} {off : Nat} {f : Field} {fs : List Field} {d : Kd α} {d2 : Kd β} {ok : α → Prop} {ok2 : β → Prop} (ho : f.offset = off) (hc : P.cellsOf f.type = d.sz) (hd : Opn enc P w base spare held f.type d ok)
  (hr : OpnF enc P w base spare held (off + d.sz) fs d2 ok2) : OpnF enc P w base spare held off (f :: fs) (Kd.pair d d2) (fun x => ok x.1 ∧ ok2 x.2) := by
 intro fuel cs xs h hlen
 have hsz : (Kd.pair d d2).sz = d.sz + d2.sz := rfl
 rw [List.mapM_cons] at h
 obtain ⟨x, hx, h2⟩ := Option.bind_eq_some_iff.1 h
 obtain ⟨ys, hys, _⟩ := Option.bind_eq_some_iff.1 h2
 obtain ⟨a, hK, hok⟩ := hd _ _ _ hx
 obtain ⟨b, hK2, hok2⟩ := hr _ _ _ hys (by omega)
 rw [ho, hc] at hK
 refine ⟨(a, b), ⟨_, _, ?_, hK, hK2⟩, hok, hok2⟩
 rw [← List.drop_drop, List.take_append_drop]
theorem opn_struct {α : Type} {t : TypeId} {fs : Array Field} {d : Kd α} {ok : α → Prop} (ht : P.underlying t = some (.struct fs)) (hc : P.cellsOf t = d.sz) (hd : OpnF enc P w base spare held 0 fs.toList d ok) : Opn enc P w base spare held t d ok := by
 intro fuel cs x h
 cases fuel with
 | zero => simp [DataW.trod] at h
 | succ f =>
  rw [DataW.trod_step] at h
  unfold DataW.trodStep at h
  rw [ht] at h
  simp only at h
  split at h
  ·rename_i hl
   obtain ⟨xs, hxs, _⟩ := Option.map_eq_some_iff.1 h
   obtain ⟨a, hK, hok⟩ := hd _ _ _ hxs (by omega)
   exact ⟨a, by simpa using hK, hok⟩
  ·simp at h
theorem opn_iso {α β : Type} {t : TypeId} {d : Kd α} {ok : α → Prop} (f : β → α) (g : α → β) (hfg : ∀ x, f (g x) = x) (hd : Opn enc P w base spare held t d ok) : Opn enc P w base spare held t (Kd.iso d f) (fun y => ok (f y)) := by
 intro fuel cs x h
 obtain ⟨a, hK, hok⟩ := hd _ _ _ h
 exact ⟨g a, by show d.K w (f (g a)) cs; rw [hfg]; exact hK, by show ok (f (g a)); rw [hfg]; exact hok⟩
theorem opn_imp {α : Type} {t : TypeId} {d : Kd α} {ok ok' : α → Prop} (hd : Opn enc P w base spare held t d ok) (hk : ∀ x, ok x → ok' x) : Opn enc P w base spare held t d ok' := by
 intro fuel cs x h
 obtain ⟨a, hK, hok⟩ := hd _ _ _ h
 exact ⟨a, hK, hk _ hok⟩
end
end Go.Proofs.YtckblabkapeigaaGreat.Wd
