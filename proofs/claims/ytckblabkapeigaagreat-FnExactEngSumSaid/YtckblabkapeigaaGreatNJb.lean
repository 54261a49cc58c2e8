
/- Trees in memory: the kind of an expression (three numbers and a row of expressions), read and owned; what came in, read as such a tree. -/
import Derived.Test.YtckblabkapeigaaGreatNJa
set_option linter.unusedVariables false
set_option linter.unusedSimpArgs false
namespace Go.Proofs.YtckblabkapeigaaGreat.Jb
open Go.RowKit Go.Proofs.YtckblabkapeigaaGreatW.PrintWords Go.Proofs.YtckblabkapeigaaGreat.Ja

inductive Ex where
 | mk (f0 f1 f2 : Int) (f3 : List Ex)
namespace Ex
def f0 : Ex → Int | .mk a _ _ _ => a
def f1 : Ex → Int | .mk _ a _ _ => a
def f2 : Ex → Int | .mk _ _ a _ => a
def f3 : Ex → List Ex | .mk _ _ _ a => a
end Ex
def zE : Ex := .mk 0 0 0 []
mutual
def cnt : Ex → Nat
 | .mk _ _ _ l => cntL l
def cntL : List Ex → Nat
 | [] => 0
 | x :: xs => 1 + cnt x + cntL xs
end
theorem cnt_eq (x : Ex) : cnt x = cntL x.f3 := by cases x; simp [cnt, Ex.f3]
theorem cntL_nil : cntL [] = 0 := by simp [cntL]
theorem cntL_cons (x : Ex) (xs : List Ex) : cntL (x :: xs) = 1 + cntL x.f3 + cntL xs := by rw [cntL, cnt_eq]
theorem cntL_append : ∀ (l m : List Ex), cntL (l ++ m) = cntL l + cntL m
 | [], m => by simp [cntL_nil]
 | x :: xs, m => by rw [List.cons_append, cntL_cons, cntL_cons, cntL_append xs m]; omega
theorem cntL_snoc (l : List Ex) (i : Nat) (h : i < l.length) : cntL (l.take (i + 1)) = cntL (l.take i) + (1 + cntL (l.getD i zE).f3) := by
 rw [take_snoc l i zE h, cntL_append, cntL_cons, cntL_nil]; omega
theorem cntL_take_le (l : List Ex) (i : Nat) : cntL (l.take i) ≤ cntL l := by
 have := cntL_append (l.take i) (l.drop i)
 rw [List.take_append_drop] at this
 omega
theorem len_le_cnt : ∀ l : List Ex, l.length ≤ cntL l
 | [] => Nat.zero_le _
 | x :: xs => by rw [cntL_cons, List.length_cons]; have := len_le_cnt xs; omega
theorem cnt_getD (l : List Ex) (i : Nat) (h : i < l.length) : cntL (l.getD i zE).f3 + 1 ≤ cntL l := by
 have h1 := cntL_snoc l i h
 have h2 := cntL_take_le l (i + 1)
 omega

/-! kinds -/
def sliceS {α : Type} (e : Nat) (d : Kd α) : Kd (List α) where
 sz := 1
 E := e :: d.E
 K := (Kd.slice e d).K
 M := fun w base ok xs cs => ∃ v, cs = [v] ∧ Kd.S d e w base ok v xs
 K_len := fun h => (Kd.slice e d).K_len h
 K_one := fun h => (Kd.slice e d).K_one h
 K_below := fun hb h => (Kd.slice e d).K_below hb h
 K_of_M := by
  rintro w base ok x cs ⟨v, rfl, h⟩
  obtain ⟨A, c, rfl, hl, hr⟩ := Kd.S_reads h
  exact ⟨A, c, rfl, hl, hr⟩
 M_mono := by
  rintro w base ok ok' x cs hok ⟨v, rfl, h⟩
  exact ⟨v, rfl, Kd.S_mono h hok⟩
 M_bound := by
  rintro w base ok x cs ⟨v, rfl, h⟩
  exact ⟨v, rfl, Kd.S_bound h⟩
 M_move := by
  rintro w w1 base ok x cs hm ⟨v, rfl, h⟩
  exact ⟨v, rfl, Kd.S_move h hm⟩
 M_lower := by
  rintro w base base' ok x cs hb ⟨v, rfl, h⟩
  exact ⟨v, rfl, Kd.S_lower h hb⟩
def kTs (t : Nat) (d : Kd Ex) : Kd Ex := Kd.iso (Kd.pair (Kd.int .i64) (Kd.pair (Kd.int .i64) (Kd.pair (Kd.int .i64) (sliceS t d)))) (fun x => (x.f0, x.f1, x.f2, x.f3))
def void : Kd Ex where
 sz := 4
 E := []
 K := fun _ _ _ => False
 M := fun _ _ _ _ _ => False
 K_len := fun h => h.elim
 K_one := fun h => h.elim
 K_below := fun _ h => h.elim
 K_of_M := fun h => h.elim
 M_mono := fun _ h => h.elim
 M_bound := fun h => h.elim
 M_move := fun _ h => h.elim
 M_lower := fun _ h => h.elim
def kU (t : Nat) : Nat → Kd Ex
 | 0 => void
 | n + 1 => kTs t (kU t n)
theorem kU_sz (t n : Nat) : (kU t n).sz = 4 := by cases n <;> rfl
theorem kU_E (t : Nat) : ∀ n q, q ∈ (kU t n).E → q = t
 | 0, q, h => by simp [kU, void] at h
 | n + 1, q, h => by
  have h2 : q ∈ t :: (kU t n).E := by simpa [kU, kTs, Kd.iso, Kd.pair, Kd.int, Kd.scalar, sliceS] using h
  rcases List.mem_cons.1 h2 with e | e
  ·exact e
  ·exact kU_E t n q e
theorem C_kind {d d' : Kd Ex} {w : World} (hs : d.sz = d'.sz) (hK : ∀ p c, d.K w p c → d'.K w p c) {A : Option Addr} {n : Nat} {xs : List Ex} (h : d.C w A n xs) : d'.C w A n xs := by
 unfold Kd.C at *
 rw [← hs]
 exact ReadsRow.imp_ h (Below.refl _ _) hK
theorem S_kind {d d' : Kd Ex} {w : World} {base : Nat} (hs : d.sz = d'.sz) (hM : ∀ ok p c, d.M w base ok p c → d'.M w base ok p c) {e : Nat} {ok : Nat → Prop} {v : Value} {xs : List Ex} (h : Kd.S d e w base ok v xs) : Kd.S d' e w base ok v xs := by
 obtain ⟨f, h0, h1⟩ := h
 refine ⟨f, h0, ?_⟩
 show OwnRow _ e d'.sz w base v _
 rw [← hs]
 exact OwnRow.imp_ h1 (fun p c hp => hM _ _ _ hp)
theorem kTs_open {t : Nat} {d : Kd Ex} {w : World} {x : Ex} {cs : List Value} (h : (kTs t d).K w x cs) : ∃ A c, cs = [.int .i64 x.f0, .int .i64 x.f1, .int .i64 x.f2, .slice A x.f3.length c] ∧ x.f3.length ≤ c ∧ d.C w A x.f3.length x.f3 := by
 obtain ⟨_, _, rfl, rfl, ⟨_, _, rfl, rfl, ⟨_, _, rfl, rfl, ⟨A, c, rfl, l, g⟩⟩⟩⟩ := h
 exact ⟨A, c, rfl, l, g⟩
theorem kTs_openM {t : Nat} {d : Kd Ex} {w : World} {base : Nat} {ok : Nat → Prop} {x : Ex} {cs : List Value} (h : (kTs t d).M w base ok x cs) : ∃ v, cs = [.int .i64 x.f0, .int .i64 x.f1, .int .i64 x.f2, v] ∧ Kd.S d t w base ok v x.f3 := by
 obtain ⟨_, _, rfl, rfl, ⟨_, _, rfl, rfl, ⟨_, _, rfl, rfl, ⟨v, rfl, g⟩⟩⟩⟩ := h
 exact ⟨v, rfl, g⟩
theorem kTs_mkM (t : Nat) (d : Kd Ex) (w : World) (base : Nat) (ok : Nat → Prop) (x : Ex) {v : Value} (g : Kd.S d t w base ok v x.f3) : (kTs t d).M w base ok x [.int .i64 x.f0, .int .i64 x.f1, .int .i64 x.f2, v] :=
 ⟨[.int .i64 x.f0], [.int .i64 x.f1, .int .i64 x.f2, v], rfl, rfl, ⟨[.int .i64 x.f1], [.int .i64 x.f2, v], rfl, rfl, ⟨[.int .i64 x.f2], [v], rfl, rfl, ⟨v, rfl, g⟩⟩⟩⟩
theorem kU_M1 (t : Nat) : ∀ n w base ok x cs, (kU t n).M w base ok x cs → (kU t (n + 1)).M w base ok x cs
 | 0, w, base, ok, x, cs, h => False.elim h
 | n + 1, w, base, ok, x, cs, h => by
  obtain ⟨v, rfl, g⟩ := kTs_openM (t := t) (d := kU t n) h
  exact kTs_mkM t (kU t (n + 1)) w base ok x (S_kind ((kU_sz t n).trans (kU_sz t (n + 1)).symm) (fun ok p c hp => kU_M1 t n w base ok p c hp) g)
theorem kU_M (t : Nat) {n m : Nat} (h : n ≤ m) {w : World} {base : Nat} {ok : Nat → Prop} {x : Ex} {cs : List Value} (hk : (kU t n).M w base ok x cs) : (kU t m).M w base ok x cs := by
 induction h with
 | refl => exact hk
 | step _ ih => exact kU_M1 t _ w base ok x cs ih
def kE (t : Nat) : Kd Ex where
 sz := 4
 E := [t]
 K := fun w x cs => ∃ n, (kU t n).K w x cs
 M := fun w base ok x cs => ∃ n, (kU t n).M w base ok x cs
 K_len := fun ⟨n, h⟩ => ((kU t n).K_len h).trans (kU_sz t n)
 K_one := fun ⟨n, h⟩ => (kU t n).K_one h
 K_below := fun hb ⟨n, h⟩ => ⟨n, (kU t n).K_below hb h⟩
 K_of_M := fun ⟨n, h⟩ => ⟨n, (kU t n).K_of_M h⟩
 M_mono := fun hok ⟨n, h⟩ => ⟨n, (kU t n).M_mono hok h⟩
 M_bound := fun ⟨n, h⟩ => ⟨n, (kU t n).M_mono (fun k hk => by
  obtain ⟨h1, h2, h3, q, hq, h4⟩ := hk
  exact ⟨h1, h2, h3, q, by rw [kU_E t n q hq]; exact List.mem_cons_self, h4⟩) ((kU t n).M_bound h)⟩
 M_move := fun hm ⟨n, h⟩ => ⟨n, (kU t n).M_move hm h⟩
 M_lower := fun hb ⟨n, h⟩ => ⟨n, (kU t n).M_lower hb h⟩
theorem sup_of (P : Nat → Nat → Prop) (hm : ∀ j a b, a ≤ b → P j a → P j b) : ∀ n, (∀ j, j < n → ∃ m, P j m) → ∃ N, ∀ j, j < n → P j N
 | 0, _ => ⟨0, fun j h => by omega⟩
 | n + 1, h => by
  obtain ⟨N, hN⟩ := sup_of P hm n (fun j hj => h j (by omega))
  obtain ⟨m, hm2⟩ := h n (by omega)
  refine ⟨max N m, fun j hj => ?_⟩
  by_cases e : j = n
  ·subst e; exact hm _ _ _ (Nat.le_max_right _ _) hm2
  ·exact hm _ _ _ (Nat.le_max_left _ _) (hN j (by omega))
theorem S_all {t : Nat} {e : Nat} {w : World} {base : Nat} {ok : Nat → Prop} {v : Value} {xs : List Ex} (h : Kd.S (kE t) e w base ok v xs) : ∃ N, Kd.S (kU t N) e w base ok v xs := by
 obtain ⟨f, h0, inner, ho, hr1, hr2⟩ := h
 obtain ⟨N, hN⟩ := sup_of (fun j m => ∀ p, xs.zipIdx[j]? = some p → (kU t m).M w base (fun k => (ok k ∧ some k ≠ v.ownBlock) ∧ f k = p.2) p.1 ((inner.drop (j * 4)).take 4))
  (fun j a b hab hP p hp => kU_M t hab (hP p hp)) xs.zipIdx.length (fun j hj => by
   obtain ⟨m, hm⟩ := hr2 j _ (List.getElem?_eq_getElem hj)
   exact ⟨m, fun p hp => by rw [List.getElem?_eq_getElem hj] at hp; injection hp with hp; subst hp; exact hm⟩)
 refine ⟨N, f, h0, ?_⟩
 show OwnRow _ e (kU t N).sz w base v _
 rw [kU_sz]
 exact ⟨inner, ho, hr1, fun j p hp => hN j (List.getElem?_eq_some_iff.1 hp).1 p hp⟩
section
variable {t : Nat} {w : World} {base : Nat} {ok : Nat → Prop} {x : Ex} {cs : List Value}
theorem C_of {n m : Nat} {A : Option Addr} {xs : List Ex} (h : (kU t n).C w A m xs) : (kE t).C w A m xs := C_kind (d := kU t n) (d' := kE t) (kU_sz t n) (fun p c hp => ⟨n, hp⟩) h
theorem S_of {n e : Nat} {v : Value} {xs : List Ex} (h : Kd.S (kU t n) e w base ok v xs) : Kd.S (kE t) e w base ok v xs := S_kind (d := kU t n) (d' := kE t) (kU_sz t n) (fun ok p c hp => ⟨n, hp⟩) h
theorem kE_open (h : (kE t).K w x cs) : ∃ A c, cs = [.int .i64 x.f0, .int .i64 x.f1, .int .i64 x.f2, .slice A x.f3.length c] ∧ x.f3.length ≤ c ∧ (kE t).C w A x.f3.length x.f3 := by
 obtain ⟨n, h⟩ := h
 cases n with
 | zero => exact False.elim h
 | succ n =>
  obtain ⟨A, c, rfl, l, g⟩ := kTs_open (t := t) (d := kU t n) h
  exact ⟨A, c, rfl, l, C_of g⟩
theorem kE_openM (h : (kE t).M w base ok x cs) : ∃ v, cs = [.int .i64 x.f0, .int .i64 x.f1, .int .i64 x.f2, v] ∧ Kd.S (kE t) t w base ok v x.f3 := by
 obtain ⟨n, h⟩ := h
 cases n with
 | zero => exact False.elim h
 | succ n =>
  obtain ⟨v, rfl, g⟩ := kTs_openM (t := t) (d := kU t n) h
  exact ⟨v, rfl, S_of g⟩
theorem kE_mkM (x : Ex) {v : Value} (g : Kd.S (kE t) t w base ok v x.f3) : (kE t).M w base ok x [.int .i64 x.f0, .int .i64 x.f1, .int .i64 x.f2, v] := by
 obtain ⟨N, g⟩ := S_all g
 exact ⟨N + 1, kTs_mkM t (kU t N) w base ok x g⟩
end
/-- an expression's row of kids, as it is handed over, and what it reads; the same for a list -/
def IsEL (t : Nat) (w : World) (l : List Ex) (A : Option Addr) (c : Nat) : Prop := l.length ≤ c ∧ (kE t).C w A l.length l
theorem IsEL.below {t : Nat} {w w' : World} {l : List Ex} {A : Option Addr} {c : Nat} (h : IsEL t w l A c) (hb : Below w.heap.size w w') : IsEL t w' l A c := ⟨h.1, Kd.C_below h.2 hb⟩
theorem IsEL.ext {t : Nat} {W : World} {l : List Ex} {A : Option Addr} {c : Nat} (h : IsEL t W l A c) (s : Ext W) : IsEL t s.1 l A c := h.below s.2
theorem IsEL.len {t : Nat} {w : World} {l : List Ex} {A : Option Addr} {c : Nat} (h : IsEL t w l A c) : l.length ≤ 9223372036854775807 := (C_len h.2).2
theorem S_isEL {t : Nat} {w : World} {base : Nat} {ok : Nat → Prop} {A : Option Addr} {n c : Nat} {l : List Ex} (h : Kd.S (kE t) t w base ok (.slice A n c) l) : n = l.length ∧ IsEL t w l A c := by
 obtain ⟨rfl, h2, h3⟩ := Kd.S_reads' h
 exact ⟨rfl, h2, h3⟩
theorem atE {t : Nat} {w : World} {A : Option Addr} {c : Nat} {xs : List Ex} (h : IsEL t w xs A c) (k : Nat) (hk : k < xs.length) :
  ∃ ad A2 c2, A = some ad ∧ w.cell? (ad.add (k * 4)) = some (.int .i64 (xs.getD k zE).f0) ∧ w.cell? ⟨(ad.add (k * 4)).block, (ad.add (k * 4)).off + 1, none⟩ = some (.int .i64 (xs.getD k zE).f1) ∧ w.cell? ⟨(ad.add (k * 4)).block, (ad.add (k * 4)).off + 2, none⟩ = some (.int .i64 (xs.getD k zE).f2) ∧
   w.cell? ⟨(ad.add (k * 4)).block, (ad.add (k * 4)).off + 3, none⟩ = some (.slice A2 (xs.getD k zE).f3.length c2) ∧ IsEL t w (xs.getD k zE).f3 A2 c2 := by
 obtain ⟨ad, c, e, _, hK, hc⟩ := Kd.C_get h.2 zE (k : Int) (by omega) (by omega)
 rw [Int.toNat_natCast] at hK hc
 have hc' : ∀ j u, c[j]? = some u → w.cell? (ad.add (k * 4 + j)) = some u := hc
 obtain ⟨A2, c2, rfl, l, g⟩ := kE_open hK
 exact ⟨ad, A2, c2, e, hc' 0 _ rfl, by rw [← add_field _ _ 1 (by omega)]; exact hc' 1 _ rfl, by rw [← add_field _ _ 2 (by omega)]; exact hc' 2 _ rfl, by rw [← add_field _ _ 3 (by omega)]; exact hc' 3 _ rfl, l, g⟩

/-! what came in: trees, bounded by the size of what was read -/
section
variable {H : Type} (enc : TypeId × Value → H) (P : Program) (w : World) (base : Nat) (spare : Nat → Bool) (held : Bool)
def OpnB (N : Nat) {α : Type} (t : TypeId) (d : Kd α) : Prop :=
 ∀ fuel cs x, SizeOf.sizeOf x.1 < N → DataW.trod enc P w base spare held fuel t cs = some x → ∃ a, d.K w a cs
def OpnFB (N : Nat) {α : Type} (off : Nat) (fs : List Field) (d : Kd α) : Prop :=
 ∀ (fuel : Nat) (cs : List Value) (xs : List (DataW H × List MemPlace)), (∀ y ∈ xs, SizeOf.sizeOf y.1 < N) → (fs.mapM fun f => DataW.trod enc P w base spare held fuel f.type ((cs.drop f.offset).take (P.cellsOf f.type))) = some xs → cs.length = off + d.sz → ∃ a, d.K w a (cs.drop off)
end
section
variable {H : Type} {enc : TypeId × Value → H} {P : Program} {w : World} {base : Nat} {spare : Nat → Bool} {held : Bool} {N : Nat}
theorem OpnB.of {α : Type} {t : TypeId} {d : Kd α} {ok : α → Prop} (h : Opn enc P w base spare held t d ok) : OpnB enc P w base spare held N t d := fun fuel cs x _ hx => by
 obtain ⟨a, hK, _⟩ := h fuel cs x hx
 exact ⟨a, hK⟩
theorem opnB_slice {α : Type} {t e e0 : TypeId} {d : Kd α} (ht : P.underlying t = some (.slice e)) (hc : P.cellsOf e = d.sz) (hd : OpnB enc P w base spare held N e d) :
  OpnB enc P w base spare held N t (Kd.slice e0 d) := by
 intro fuel cs x hN h
 rcases Go.Deep.open_slice ht h with ⟨rfl, _⟩ | ⟨a, len, cap, m, n, D, Pl, rfl, hb, hl, hm, hmm, hxx, hx⟩
 ·exact ⟨[], ⟨none, 0, rfl, Nat.le_refl _, rfl, by simp, fun h => by simp at h⟩⟩
 ·have hlm : len ≤ m := by subst hmm; split <;> omega
  have hall : ∀ i, i < len → ∃ (y : α) (c : List Value), d.K w y c ∧ c.length = d.sz ∧ ∀ j u, c[j]? = some u → w.cell? (a.add (i * d.sz + j)) = some u := by
   intro i hi
   obtain ⟨c, h1, h2⟩ := hx i (by omega)
   have hlt : SizeOf.sizeOf (D i) < N := by
    have h3 : SizeOf.sizeOf (D i) < SizeOf.sizeOf ((List.range len).map D) := List.sizeOf_lt_of_mem (List.mem_map.2 ⟨i, List.mem_range.2 hi, rfl⟩)
    have h4 : SizeOf.sizeOf ((List.range len).map D) < SizeOf.sizeOf x.1 := by subst hxx; simp; omega
    omega
   obtain ⟨y, hK⟩ := hd _ _ _ hlt h2
   rw [hc] at h1
   obtain ⟨_, hlen, hcell⟩ := World.cells?_some h1
   refine ⟨y, c, hK, hlen, fun j u hj => ?_⟩
   have hjl : j < c.length := (List.getElem?_eq_some_iff.1 hj).1
   have := hcell j (by omega)
   rw [← add_add]
   rw [hj] at this
   exact this
  obtain ⟨l, hll, hl2⟩ := list_of len hall
  refine ⟨l, ⟨some a, cap, by rw [hll], by omega, rfl, ?_, fun _ => ⟨a, rfl, fun i y hy => ?_⟩⟩⟩
  ·unfold maxLen at hm; omega
  ·obtain ⟨c, h1, h3, h4⟩ := hl2 i y hy
   exact ⟨c, h3, h1, h4⟩
theorem opnB_last {α : Type} {off : Nat} {f : Field} {d : Kd α} (ho : f.offset = off) (hc : P.cellsOf f.type = d.sz) (hd : OpnB enc P w base spare held N f.type d) : OpnFB enc P w base spare held N off [f] d := by
 intro fuel cs xs hN h hlen
 rw [List.mapM_cons] at h
 obtain ⟨x, hx, h2⟩ := Option.bind_eq_some_iff.1 h
 obtain ⟨ys, hys, h3⟩ := Option.bind_eq_some_iff.1 h2
 have hxs : x :: ys = xs := by simpa using h3
 obtain ⟨a, hK⟩ := hd _ _ _ (hN x (by rw [← hxs]; exact List.mem_cons_self)) hx
 rw [ho, hc, List.take_of_length_le (by rw [List.length_drop]; omega)] at hK
 exact ⟨a, hK⟩
theorem opnB_cons {α β : Type} {off : Nat} {f : Field} {fs : List Field} {d : Kd α} {d2 : Kd β} (ho : f.offset = off) (hc : P.cellsOf f.type = d.sz) (hd : OpnB enc P w base spare held N f.type d)
  (hr : OpnFB enc P w base spare held N (off + d.sz) fs d2) : OpnFB enc P w base spare held N off (f :: fs) (Kd.pair d d2) := by
 intro fuel cs xs hN h hlen
 have hsz : (Kd.pair d d2).sz = d.sz + d2.sz := rfl
 rw [List.mapM_cons] at h
 obtain ⟨x, hx, h2⟩ := Option.bind_eq_some_iff.1 h
 obtain ⟨ys, hys, h3⟩ := Option.bind_eq_some_iff.1 h2
 have hxs : x :: ys = xs := by simpa using h3
 obtain ⟨a, hK⟩ := hd _ _ _ (hN x (by rw [← hxs]; exact List.mem_cons_self)) hx
 obtain ⟨b, hK2⟩ := hr _ _ _ (fun y hy => hN y (by rw [← hxs]; exact List.mem_cons_of_mem _ hy)) hys (by omega)
 rw [ho, hc] at hK
 refine ⟨(a, b), ⟨_, _, ?_, hK, hK2⟩⟩
 rw [← List.drop_drop, List.take_append_drop]
theorem opnB_struct {α : Type} {t : TypeId} {fs : Array Field} {d : Kd α} (ht : P.underlying t = some (.struct fs)) (hc : P.cellsOf t = d.sz) (hd : OpnFB enc P w base spare held N 0 fs.toList d) : OpnB enc P w base spare held (N + 1) t d := by
 intro fuel cs x hN h
 cases fuel with
 | zero => simp [DataW.trod] at h
 | succ f =>
  rw [DataW.trod_step] at h
  unfold DataW.trodStep at h
  rw [ht] at h
  simp only at h
  split at h
  ·rename_i hl
   obtain ⟨xs, hxs, hx⟩ := Option.map_eq_some_iff.1 h
   obtain ⟨a, hK⟩ := hd _ _ _ (fun y hy => by
    have h3 : SizeOf.sizeOf y.1 < SizeOf.sizeOf (xs.map Prod.fst) := List.sizeOf_lt_of_mem (List.mem_map.2 ⟨y, hy, rfl⟩)
    have h4 : SizeOf.sizeOf (xs.map Prod.fst) < SizeOf.sizeOf x.1 := by subst hx; simp
    omega) hxs (by omega)
   exact ⟨a, by simpa using hK⟩
  ·simp at h
theorem opnB_iso {α β : Type} {t : TypeId} {d : Kd α} (f : β → α) (g : α → β) (hfg : ∀ x, f (g x) = x) (hd : OpnB enc P w base spare held N t d) : OpnB enc P w base spare held N t (Kd.iso d f) := by
 intro fuel cs x hN h
 obtain ⟨a, hK⟩ := hd _ _ _ hN h
 exact ⟨g a, by show d.K w (f (g a)) cs; rw [hfg]; exact hK⟩
end
end Go.Proofs.YtckblabkapeigaaGreat.Jb
