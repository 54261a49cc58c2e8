
/- The program's struct types as kinds: what is read, what is owned (rows apart). Printed by genTy.py. -/
import Derived.Test.YtckblabkapeigaaGreatNJb
import Derived.Test.YtckblabkapeigaaGreatNKd
set_option linter.unusedVariables false
set_option linter.unusedSimpArgs false
namespace Go.Proofs.YtckblabkapeigaaGreat.Ka
open Go.RowKit Go.Proofs.YtckblabkapeigaaGreatW.PrintWords Go.Proofs.YtckblabkapeigaaGreat.Ja Go.Proofs.YtckblabkapeigaaGreat.Jb
/-- a list that is read -/
def IsS {α : Type} (d : Kd α) (w : World) (l : List α) (A : Option Addr) (c : Nat) : Prop := l.length ≤ c ∧ d.C w A l.length l
theorem IsS.below {α : Type} {d : Kd α} {w w' : World} {l : List α} {A : Option Addr} {c : Nat} (h : IsS d w l A c) (hb : Below w.heap.size w w') : IsS d w' l A c := ⟨h.1, Kd.C_below h.2 hb⟩
theorem IsS.len {α : Type} {d : Kd α} {w : World} {l : List α} {A : Option Addr} {c : Nat} (h : IsS d w l A c) : l.length ≤ 9223372036854775807 := (C_len h.2).2
theorem S_isS {α : Type} {d : Kd α} {e : Nat} {w : World} {base : Nat} {ok : Nat → Prop} {A : Option Addr} {n c : Nat} {l : List α} (h : Kd.S d e w base ok (.slice A n c) l) : n = l.length ∧ IsS d w l A c := by
 obtain ⟨rfl, h2, h3⟩ := Kd.S_reads' h
 exact ⟨rfl, h2, h3⟩
/-- rows of several fields, each in blocks of its own -/
def Ap (ok : Nat → Prop) : List (Nat → Prop) → Prop
 | [] => True
 | o :: q => (∀ k, o k → ok k) ∧ (∀ p, p ∈ q → ∀ k, o k → ¬ p k) ∧ Ap ok q
/-- two fields, their rows apart -/
def pairS {α β : Type} (a : Kd α) (b : Kd β) : Kd (α × β) where
 sz := a.sz + b.sz
 E := a.E ++ b.E
 K := (Kd.pair a b).K
 M := fun w base ok x cs => ∃ c0 c1 o0 o1, cs = c0 ++ c1 ∧ (∀ k, o0 k → ok k) ∧ (∀ k, o1 k → ok k) ∧ (∀ k, o0 k → ¬ o1 k) ∧ a.M w base o0 x.1 c0 ∧ b.M w base o1 x.2 c1
 K_len := fun h => (Kd.pair a b).K_len h
 K_one := fun h => (Kd.pair a b).K_one h
 K_below := fun hb h => (Kd.pair a b).K_below hb h
 K_of_M := by
  rintro w base ok x cs ⟨c0, c1, o0, o1, rfl, _, _, _, h0, h1⟩
  exact ⟨c0, c1, rfl, a.K_of_M h0, b.K_of_M h1⟩
 M_mono := by
  rintro w base ok ok' x cs hok ⟨c0, c1, o0, o1, rfl, i0, i1, d, h0, h1⟩
  exact ⟨c0, c1, o0, o1, rfl, fun k hk => hok k (i0 k hk), fun k hk => hok k (i1 k hk), d, h0, h1⟩
 M_bound := by
  rintro w base ok x cs ⟨c0, c1, o0, o1, rfl, i0, i1, d, h0, h1⟩
  refine ⟨c0, c1, _, _, rfl, ?_, ?_, ?_, a.M_bound h0, b.M_bound h1⟩
  ·rintro k ⟨h2, h3, h4, q, hq, h5⟩
   exact ⟨i0 k h2, h3, h4, q, List.mem_append_left _ hq, h5⟩
  ·rintro k ⟨h2, h3, h4, q, hq, h5⟩
   exact ⟨i1 k h2, h3, h4, q, List.mem_append_right _ hq, h5⟩
  ·exact fun k h2 h3 => d k h2.1 h3.1
 M_move := by
  rintro w w1 base ok x cs hm ⟨c0, c1, o0, o1, rfl, i0, i1, d, h0, h1⟩
  exact ⟨c0, c1, o0, o1, rfl, i0, i1, d, a.M_move (fun k hk => hm k (i0 k hk)) h0, b.M_move (fun k hk => hm k (i1 k hk)) h1⟩
 M_lower := by
  rintro w base base' ok x cs hb ⟨c0, c1, o0, o1, rfl, i0, i1, d, h0, h1⟩
  exact ⟨c0, c1, o0, o1, rfl, i0, i1, d, a.M_lower hb h0, b.M_lower hb h1⟩
theorem atI {w : World} {A : Option Addr} {c : Nat} {xs : List Int} (h : IsS (Kd.int .i64) w xs A c) (k : Nat) (hk : k < xs.length) : ∃ ad, A = some ad ∧ w.cell? (ad.add k) = some (.int .i64 (xs.getD k 0)) := at1 h.2 k hk

/-! TOcc -/
abbrev TOcc := Go.Proofs.YtckblabkapeigaaGreat.P.S54
def zOcc : TOcc := ⟨0, 0, []⟩
def kOcc : Kd TOcc := Kd.iso (Kd.pair (Kd.int .i64) (Kd.pair (Kd.int .i64) (sliceS 3 (Kd.int .i64)))) (fun x => (x.f0, x.f1, x.f2))
theorem kOcc_open {w : World} {x : TOcc} {cs : List Value} (h : kOcc.K w x cs) : ∃ A2 c2, cs = [.int .i64 x.f0, .int .i64 x.f1, .slice A2 x.f2.length c2] ∧ IsS (Kd.int .i64) w x.f2 A2 c2 := by
 obtain ⟨_, _, rfl, g0, h⟩ := h
 obtain ⟨_, _, rfl, g1, h⟩ := h
 have g2 := h
 obtain rfl := g0
 obtain rfl := g1
 obtain ⟨A2, c2, rfl, l2, e2⟩ := g2
 exact ⟨A2, c2, rfl, ⟨l2, e2⟩⟩
theorem kOcc_openM {w : World} {base : Nat} {ok : Nat → Prop} {x : TOcc} {cs : List Value} (h : kOcc.M w base ok x cs) : ∃ v2, cs = [.int .i64 x.f0, .int .i64 x.f1, v2] ∧ Kd.S (Kd.int .i64) 3 w base ok v2 x.f2 := by
 obtain ⟨_, _, rfl, g0, h⟩ := h
 obtain ⟨_, _, rfl, g1, h⟩ := h
 have g2 := h
 obtain rfl := g0
 obtain rfl := g1
 obtain ⟨v2, rfl, e2⟩ := g2
 exact ⟨v2, rfl, e2⟩
theorem kOcc_mkM (w : World) (base : Nat) (ok : Nat → Prop) (x : TOcc) {v2 : Value} (e2 : Kd.S (Kd.int .i64) 3 w base ok v2 x.f2) : kOcc.M w base ok x [.int .i64 x.f0, .int .i64 x.f1, v2] := ⟨_, _, rfl, rfl, ⟨_, _, rfl, rfl, ⟨v2, rfl, e2⟩⟩⟩
theorem atOcc {w : World} {A : Option Addr} {c : Nat} {xs : List TOcc} (h : IsS kOcc w xs A c) (k : Nat) (hk : k < xs.length) : ∃ ad, ∃ A2 c2, A = some ad ∧ w.cell? (ad.add (k * 3)) = some (.int .i64 (xs.getD k zOcc).f0) ∧ w.cell? ⟨(ad.add (k * 3)).block, (ad.add (k * 3)).off + 1, none⟩ = some (.int .i64 (xs.getD k zOcc).f1) ∧ w.cell? ⟨(ad.add (k * 3)).block, (ad.add (k * 3)).off + 2, none⟩ = some (.slice A2 (xs.getD k zOcc).f2.length c2) ∧ IsS (Kd.int .i64) w (xs.getD k zOcc).f2 A2 c2 := by
 obtain ⟨ad, cs, e, _, hK, hc⟩ := Kd.C_get h.2 zOcc (k : Int) (by omega) (by omega)
 rw [Int.toNat_natCast] at hK hc
 have hc' : ∀ j u, cs[j]? = some u → w.cell? (ad.add (k * 3 + j)) = some u := hc
 obtain ⟨A2, c2, rfl, i2⟩ := kOcc_open hK
 exact ⟨ad, A2, c2, e, hc' 0 _ rfl, by rw [← add_field _ _ 1 (by omega)]; exact hc' 1 _ rfl, by rw [← add_field _ _ 2 (by omega)]; exact hc' 2 _ rfl, i2⟩

/-! TPair -/
structure TPair where
 f0 : (List TOcc)
 f1 : (List TOcc)
def zPair : TPair := ⟨[], []⟩
def kPair : Kd TPair := Kd.iso (pairS (sliceS 54 kOcc) (sliceS 54 kOcc)) (fun x => (x.f0, x.f1))
theorem kPair_open {w : World} {x : TPair} {cs : List Value} (h : kPair.K w x cs) : ∃ A0 c0, ∃ A1 c1, cs = [.slice A0 x.f0.length c0, .slice A1 x.f1.length c1] ∧ IsS kOcc w x.f0 A0 c0 ∧ IsS kOcc w x.f1 A1 c1 := by
 obtain ⟨_, _, rfl, g0, h⟩ := h
 have g1 := h
 obtain ⟨A0, c0, rfl, l0, e0⟩ := g0
 obtain ⟨A1, c1, rfl, l1, e1⟩ := g1
 exact ⟨A0, c0, A1, c1, rfl, ⟨l0, e0⟩, ⟨l1, e1⟩⟩
theorem kPair_openM {w : World} {base : Nat} {ok : Nat → Prop} {x : TPair} {cs : List Value} (h : kPair.M w base ok x cs) : ∃ v0, ∃ v1, ∃ o0, ∃ o1, cs = [v0, v1] ∧ Kd.S kOcc 54 w base o0 v0 x.f0 ∧ Kd.S kOcc 54 w base o1 v1 x.f1 ∧ Ap ok [o0, o1] := by
 obtain ⟨_, _, a0_, b0_, rfl, ha0_, hb0_, hd0_, g0, h⟩ := h
 have g1 := h
 obtain ⟨v0, rfl, e0⟩ := g0
 obtain ⟨v1, rfl, e1⟩ := g1
 refine ⟨v0, v1, _, _, rfl, e0, e1, ?_⟩
 simp only [Ap, List.mem_cons, List.not_mem_nil, or_false, forall_eq_or_imp, forall_eq, false_imp_iff, implies_true, and_true]
 and_intros <;> grind
theorem kPair_mkM (w : World) (base : Nat) (ok : Nat → Prop) (x : TPair) {v0 : Value} {v1 : Value} {o0 o1 : Nat → Prop} (e0 : Kd.S kOcc 54 w base o0 v0 x.f0) (e1 : Kd.S kOcc 54 w base o1 v1 x.f1) (ap : Ap ok [o0, o1]) : kPair.M w base ok x [v0, v1] := by
 simp only [Ap, List.mem_cons, List.not_mem_nil, or_false, forall_eq_or_imp, forall_eq, false_imp_iff, implies_true, and_true] at ap
 exact ⟨_, _, (fun k => o0 k), (fun k => o1 k), rfl, (by grind), (by grind), (by grind), ⟨v0, rfl, e0⟩, ⟨v1, rfl, e1⟩⟩
/-! TSpan -/
structure TSpan where
 f0 : (List TOcc)
 f1 : (List TOcc)
def zSpan : TSpan := ⟨[], []⟩
def kSpan : Kd TSpan := Kd.iso (pairS (sliceS 54 kOcc) (sliceS 54 kOcc)) (fun x => (x.f0, x.f1))
theorem kSpan_open {w : World} {x : TSpan} {cs : List Value} (h : kSpan.K w x cs) : ∃ A0 c0, ∃ A1 c1, cs = [.slice A0 x.f0.length c0, .slice A1 x.f1.length c1] ∧ IsS kOcc w x.f0 A0 c0 ∧ IsS kOcc w x.f1 A1 c1 := by
 obtain ⟨_, _, rfl, g0, h⟩ := h
 have g1 := h
 obtain ⟨A0, c0, rfl, l0, e0⟩ := g0
 obtain ⟨A1, c1, rfl, l1, e1⟩ := g1
 exact ⟨A0, c0, A1, c1, rfl, ⟨l0, e0⟩, ⟨l1, e1⟩⟩
theorem kSpan_openM {w : World} {base : Nat} {ok : Nat → Prop} {x : TSpan} {cs : List Value} (h : kSpan.M w base ok x cs) : ∃ v0, ∃ v1, ∃ o0, ∃ o1, cs = [v0, v1] ∧ Kd.S kOcc 54 w base o0 v0 x.f0 ∧ Kd.S kOcc 54 w base o1 v1 x.f1 ∧ Ap ok [o0, o1] := by
 obtain ⟨_, _, a0_, b0_, rfl, ha0_, hb0_, hd0_, g0, h⟩ := h
 have g1 := h
 obtain ⟨v0, rfl, e0⟩ := g0
 obtain ⟨v1, rfl, e1⟩ := g1
 refine ⟨v0, v1, _, _, rfl, e0, e1, ?_⟩
 simp only [Ap, List.mem_cons, List.not_mem_nil, or_false, forall_eq_or_imp, forall_eq, false_imp_iff, implies_true, and_true]
 and_intros <;> grind
theorem kSpan_mkM (w : World) (base : Nat) (ok : Nat → Prop) (x : TSpan) {v0 : Value} {v1 : Value} {o0 o1 : Nat → Prop} (e0 : Kd.S kOcc 54 w base o0 v0 x.f0) (e1 : Kd.S kOcc 54 w base o1 v1 x.f1) (ap : Ap ok [o0, o1]) : kSpan.M w base ok x [v0, v1] := by
 simp only [Ap, List.mem_cons, List.not_mem_nil, or_false, forall_eq_or_imp, forall_eq, false_imp_iff, implies_true, and_true] at ap
 exact ⟨_, _, (fun k => o0 k), (fun k => o1 k), rfl, (by grind), (by grind), (by grind), ⟨v0, rfl, e0⟩, ⟨v1, rfl, e1⟩⟩
/-! TNode -/
structure TNode where
 f0 : Int
 f1 : Int
 f2 : Int
 f3 : (List Int)
 f4 : TPair
 f5 : TSpan
 f6 : (List TOcc)
 f7 : Int
def zNode : TNode := ⟨0, 0, 0, [], zPair, zSpan, [], 0⟩
def kNode : Kd TNode := Kd.iso (Kd.pair (Kd.int .i64) (Kd.pair (Kd.int .i64) (Kd.pair (Kd.int .i64) (pairS (sliceS 3 (Kd.int .i64)) (pairS kPair (pairS kSpan (Kd.pair (sliceS 54 kOcc) (Kd.int .i64)))))))) (fun x => (x.f0, x.f1, x.f2, x.f3, x.f4, x.f5, x.f6, x.f7))
theorem kNode_open {w : World} {x : TNode} {cs : List Value} (h : kNode.K w x cs) : ∃ A3 c3, ∃ A4 c4, ∃ A5 c5, ∃ A6 c6, ∃ A7 c7, ∃ A8 c8, cs = [.int .i64 x.f0, .int .i64 x.f1, .int .i64 x.f2, .slice A3 x.f3.length c3, .slice A4 x.f4.f0.length c4, .slice A5 x.f4.f1.length c5, .slice A6 x.f5.f0.length c6, .slice A7 x.f5.f1.length c7, .slice A8 x.f6.length c8, .int .i64 x.f7] ∧ IsS (Kd.int .i64) w x.f3 A3 c3 ∧ IsS kOcc w x.f4.f0 A4 c4 ∧ IsS kOcc w x.f4.f1 A5 c5 ∧ IsS kOcc w x.f5.f0 A6 c6 ∧ IsS kOcc w x.f5.f1 A7 c7 ∧ IsS kOcc w x.f6 A8 c8 := by
 obtain ⟨_, _, rfl, g0, h⟩ := h
 obtain ⟨_, _, rfl, g1, h⟩ := h
 obtain ⟨_, _, rfl, g2, h⟩ := h
 obtain ⟨_, _, rfl, g3, h⟩ := h
 obtain ⟨_, _, rfl, g4, h⟩ := h
 obtain ⟨_, _, rfl, g5, h⟩ := h
 obtain ⟨_, _, rfl, g6, h⟩ := h
 have g7 := h
 obtain rfl := g0
 obtain rfl := g1
 obtain rfl := g2
 obtain ⟨A3, c3, rfl, l3, e3⟩ := g3
 obtain ⟨A4, c4, A5, c5, rfl, i4, i5⟩ := kPair_open g4
 obtain ⟨A6, c6, A7, c7, rfl, i6, i7⟩ := kSpan_open g5
 obtain ⟨A8, c8, rfl, l8, e8⟩ := g6
 obtain rfl := g7
 exact ⟨A3, c3, A4, c4, A5, c5, A6, c6, A7, c7, A8, c8, rfl, ⟨l3, e3⟩, i4, i5, i6, i7, ⟨l8, e8⟩⟩
theorem kNode_openM {w : World} {base : Nat} {ok : Nat → Prop} {x : TNode} {cs : List Value} (h : kNode.M w base ok x cs) : ∃ v3, ∃ v4, ∃ v5, ∃ v6, ∃ v7, ∃ v8, ∃ o3, ∃ o4, ∃ o5, ∃ o6, ∃ o7, ∃ o8, cs = [.int .i64 x.f0, .int .i64 x.f1, .int .i64 x.f2, v3, v4, v5, v6, v7, v8, .int .i64 x.f7] ∧ Kd.S (Kd.int .i64) 3 w base o3 v3 x.f3 ∧ Kd.S kOcc 54 w base o4 v4 x.f4.f0 ∧ Kd.S kOcc 54 w base o5 v5 x.f4.f1 ∧ Kd.S kOcc 54 w base o6 v6 x.f5.f0 ∧ Kd.S kOcc 54 w base o7 v7 x.f5.f1 ∧ Kd.S kOcc 54 w base o8 v8 x.f6 ∧ Ap ok [o3, o4, o5, o6, o7, o8] := by
 obtain ⟨_, _, rfl, g0, h⟩ := h
 obtain ⟨_, _, rfl, g1, h⟩ := h
 obtain ⟨_, _, rfl, g2, h⟩ := h
 obtain ⟨_, _, a3_, b3_, rfl, ha3_, hb3_, hd3_, g3, h⟩ := h
 obtain ⟨_, _, a4_, b4_, rfl, ha4_, hb4_, hd4_, g4, h⟩ := h
 obtain ⟨_, _, a5_, b5_, rfl, ha5_, hb5_, hd5_, g5, h⟩ := h
 obtain ⟨_, _, rfl, g6, h⟩ := h
 have g7 := h
 obtain rfl := g0
 obtain rfl := g1
 obtain rfl := g2
 obtain ⟨v3, rfl, e3⟩ := g3
 obtain ⟨v4, v5, o4, o5, rfl, e4, e5, ap4_⟩ := kPair_openM g4
 simp only [Ap, List.mem_cons, List.not_mem_nil, or_false, forall_eq_or_imp, forall_eq, false_imp_iff, implies_true, and_true] at ap4_
 obtain ⟨v6, v7, o6, o7, rfl, e6, e7, ap5_⟩ := kSpan_openM g5
 simp only [Ap, List.mem_cons, List.not_mem_nil, or_false, forall_eq_or_imp, forall_eq, false_imp_iff, implies_true, and_true] at ap5_
 obtain ⟨v8, rfl, e8⟩ := g6
 obtain rfl := g7
 refine ⟨v3, v4, v5, v6, v7, v8, _, _, _, _, _, _, rfl, e3, e4, e5, e6, e7, e8, ?_⟩
 simp only [Ap, List.mem_cons, List.not_mem_nil, or_false, forall_eq_or_imp, forall_eq, false_imp_iff, implies_true, and_true]
 and_intros <;> grind
theorem kNode_mkM (w : World) (base : Nat) (ok : Nat → Prop) (x : TNode) {v3 : Value} {v4 : Value} {v5 : Value} {v6 : Value} {v7 : Value} {v8 : Value} {o3 o4 o5 o6 o7 o8 : Nat → Prop} (e3 : Kd.S (Kd.int .i64) 3 w base o3 v3 x.f3) (e4 : Kd.S kOcc 54 w base o4 v4 x.f4.f0) (e5 : Kd.S kOcc 54 w base o5 v5 x.f4.f1) (e6 : Kd.S kOcc 54 w base o6 v6 x.f5.f0) (e7 : Kd.S kOcc 54 w base o7 v7 x.f5.f1) (e8 : Kd.S kOcc 54 w base o8 v8 x.f6) (ap : Ap ok [o3, o4, o5, o6, o7, o8]) : kNode.M w base ok x [.int .i64 x.f0, .int .i64 x.f1, .int .i64 x.f2, v3, v4, v5, v6, v7, v8, .int .i64 x.f7] := by
 simp only [Ap, List.mem_cons, List.not_mem_nil, or_false, forall_eq_or_imp, forall_eq, false_imp_iff, implies_true, and_true] at ap
 exact ⟨_, _, rfl, rfl, ⟨_, _, rfl, rfl, ⟨_, _, rfl, rfl, ⟨_, _, (fun k => o3 k), (fun k => o4 k ∨ o5 k ∨ o6 k ∨ o7 k ∨ o8 k), rfl, (by grind), (by grind), (by grind), ⟨v3, rfl, e3⟩, ⟨_, _, (fun k => o4 k ∨ o5 k), (fun k => o6 k ∨ o7 k ∨ o8 k), rfl, (by grind), (by grind), (by grind), (kPair_mkM w base _ x.f4 e4 e5 (by simp only [Ap, List.mem_cons, List.not_mem_nil, or_false, forall_eq_or_imp, forall_eq, false_imp_iff, implies_true, and_true]; and_intros <;> grind)), ⟨_, _, (fun k => o6 k ∨ o7 k), (fun k => o8 k), rfl, (by grind), (by grind), (by grind), (kSpan_mkM w base _ x.f5 e6 e7 (by simp only [Ap, List.mem_cons, List.not_mem_nil, or_false, forall_eq_or_imp, forall_eq, false_imp_iff, implies_true, and_true]; and_intros <;> grind)), ⟨_, _, rfl, ⟨v8, rfl, e8⟩, rfl⟩⟩⟩⟩⟩⟩⟩
theorem zNode_mkM (w : World) (base : Nat) : kNode.M w base (fun _ => False) zNode [.int .i64 0, .int .i64 0, .int .i64 0, .slice none 0 0, .slice none 0 0, .slice none 0 0, .slice none 0 0, .slice none 0 0, .slice none 0 0, .int .i64 0] := kNode_mkM w base _ zNode (o3 := fun _ => False) (o4 := fun _ => False) (o5 := fun _ => False) (o6 := fun _ => False) (o7 := fun _ => False) (o8 := fun _ => False) (Kd.S_nil _ _ _ _ _) (Kd.S_nil _ _ _ _ _) (Kd.S_nil _ _ _ _ _) (Kd.S_nil _ _ _ _ _) (Kd.S_nil _ _ _ _ _) (Kd.S_nil _ _ _ _ _) (by simp [Ap])
theorem atNode {w : World} {A : Option Addr} {c : Nat} {xs : List TNode} (h : IsS kNode w xs A c) (k : Nat) (hk : k < xs.length) : ∃ ad, ∃ A3 c3, ∃ A4 c4, ∃ A5 c5, ∃ A6 c6, ∃ A7 c7, ∃ A8 c8, A = some ad ∧ w.cell? (ad.add (k * 10)) = some (.int .i64 (xs.getD k zNode).f0) ∧ w.cell? ⟨(ad.add (k * 10)).block, (ad.add (k * 10)).off + 1, none⟩ = some (.int .i64 (xs.getD k zNode).f1) ∧ w.cell? ⟨(ad.add (k * 10)).block, (ad.add (k * 10)).off + 2, none⟩ = some (.int .i64 (xs.getD k zNode).f2) ∧ w.cell? ⟨(ad.add (k * 10)).block, (ad.add (k * 10)).off + 3, none⟩ = some (.slice A3 (xs.getD k zNode).f3.length c3) ∧ w.cell? ⟨(ad.add (k * 10)).block, (ad.add (k * 10)).off + 4, none⟩ = some (.slice A4 (xs.getD k zNode).f4.f0.length c4) ∧ w.cell? ⟨(ad.add (k * 10)).block, (ad.add (k * 10)).off + 5, none⟩ = some (.slice A5 (xs.getD k zNode).f4.f1.length c5) ∧ w.cell? ⟨(ad.add (k * 10)).block, (ad.add (k * 10)).off + 6, none⟩ = some (.slice A6 (xs.getD k zNode).f5.f0.length c6) ∧ w.cell? ⟨(ad.add (k * 10)).block, (ad.add (k * 10)).off + 7, none⟩ = some (.slice A7 (xs.getD k zNode).f5.f1.length c7) ∧ w.cell? ⟨(ad.add (k * 10)).block, (ad.add (k * 10)).off + 8, none⟩ = some (.slice A8 (xs.getD k zNode).f6.length c8) ∧ w.cell? ⟨(ad.add (k * 10)).block, (ad.add (k * 10)).off + 9, none⟩ = some (.int .i64 (xs.getD k zNode).f7) ∧ IsS (Kd.int .i64) w (xs.getD k zNode).f3 A3 c3 ∧ IsS kOcc w (xs.getD k zNode).f4.f0 A4 c4 ∧ IsS kOcc w (xs.getD k zNode).f4.f1 A5 c5 ∧ IsS kOcc w (xs.getD k zNode).f5.f0 A6 c6 ∧ IsS kOcc w (xs.getD k zNode).f5.f1 A7 c7 ∧ IsS kOcc w (xs.getD k zNode).f6 A8 c8 := by
 obtain ⟨ad, cs, e, _, hK, hc⟩ := Kd.C_get h.2 zNode (k : Int) (by omega) (by omega)
 rw [Int.toNat_natCast] at hK hc
 have hc' : ∀ j u, cs[j]? = some u → w.cell? (ad.add (k * 10 + j)) = some u := hc
 obtain ⟨A3, c3, A4, c4, A5, c5, A6, c6, A7, c7, A8, c8, rfl, i3, i4, i5, i6, i7, i8⟩ := kNode_open hK
 exact ⟨ad, A3, c3, A4, c4, A5, c5, A6, c6, A7, c7, A8, c8, e, hc' 0 _ rfl, by rw [← add_field _ _ 1 (by omega)]; exact hc' 1 _ rfl, by rw [← add_field _ _ 2 (by omega)]; exact hc' 2 _ rfl, by rw [← add_field _ _ 3 (by omega)]; exact hc' 3 _ rfl, by rw [← add_field _ _ 4 (by omega)]; exact hc' 4 _ rfl, by rw [← add_field _ _ 5 (by omega)]; exact hc' 5 _ rfl, by rw [← add_field _ _ 6 (by omega)]; exact hc' 6 _ rfl, by rw [← add_field _ _ 7 (by omega)]; exact hc' 7 _ rfl, by rw [← add_field _ _ 8 (by omega)]; exact hc' 8 _ rfl, by rw [← add_field _ _ 9 (by omega)]; exact hc' 9 _ rfl, i3, i4, i5, i6, i7, i8⟩

/-! TGraph -/
structure TGraph where
 f0 : Int
 f1 : (List TNode)
 f2 : Int
 f3 : Int
 f4 : Bool
def zGraph : TGraph := ⟨0, [], 0, 0, false⟩
def kGraph : Kd TGraph := Kd.iso (Kd.pair (Kd.int .i64) (Kd.pair (sliceS 126 kNode) (Kd.pair (Kd.int .i64) (Kd.pair (Kd.int .i64) Kd.bool)))) (fun x => (x.f0, x.f1, x.f2, x.f3, x.f4))
theorem kGraph_open {w : World} {x : TGraph} {cs : List Value} (h : kGraph.K w x cs) : ∃ A1 c1, cs = [.int .i64 x.f0, .slice A1 x.f1.length c1, .int .i64 x.f2, .int .i64 x.f3, .bool x.f4] ∧ IsS kNode w x.f1 A1 c1 := by
 obtain ⟨_, _, rfl, g0, h⟩ := h
 obtain ⟨_, _, rfl, g1, h⟩ := h
 obtain ⟨_, _, rfl, g2, h⟩ := h
 obtain ⟨_, _, rfl, g3, h⟩ := h
 have g4 := h
 obtain rfl := g0
 obtain ⟨A1, c1, rfl, l1, e1⟩ := g1
 obtain rfl := g2
 obtain rfl := g3
 obtain rfl := g4
 exact ⟨A1, c1, rfl, ⟨l1, e1⟩⟩
theorem kGraph_openM {w : World} {base : Nat} {ok : Nat → Prop} {x : TGraph} {cs : List Value} (h : kGraph.M w base ok x cs) : ∃ v1, cs = [.int .i64 x.f0, v1, .int .i64 x.f2, .int .i64 x.f3, .bool x.f4] ∧ Kd.S kNode 126 w base ok v1 x.f1 := by
 obtain ⟨_, _, rfl, g0, h⟩ := h
 obtain ⟨_, _, rfl, g1, h⟩ := h
 obtain ⟨_, _, rfl, g2, h⟩ := h
 obtain ⟨_, _, rfl, g3, h⟩ := h
 have g4 := h
 obtain rfl := g0
 obtain ⟨v1, rfl, e1⟩ := g1
 obtain rfl := g2
 obtain rfl := g3
 obtain rfl := g4
 exact ⟨v1, rfl, e1⟩
theorem kGraph_mkM (w : World) (base : Nat) (ok : Nat → Prop) (x : TGraph) {v1 : Value} (e1 : Kd.S kNode 126 w base ok v1 x.f1) : kGraph.M w base ok x [.int .i64 x.f0, v1, .int .i64 x.f2, .int .i64 x.f3, .bool x.f4] := ⟨_, _, rfl, rfl, ⟨_, _, rfl, ⟨v1, rfl, e1⟩, ⟨_, _, rfl, rfl, ⟨_, _, rfl, rfl, rfl⟩⟩⟩⟩
theorem atGraph {w : World} {A : Option Addr} {c : Nat} {xs : List TGraph} (h : IsS kGraph w xs A c) (k : Nat) (hk : k < xs.length) : ∃ ad, ∃ A1 c1, A = some ad ∧ w.cell? (ad.add (k * 5)) = some (.int .i64 (xs.getD k zGraph).f0) ∧ w.cell? ⟨(ad.add (k * 5)).block, (ad.add (k * 5)).off + 1, none⟩ = some (.slice A1 (xs.getD k zGraph).f1.length c1) ∧ w.cell? ⟨(ad.add (k * 5)).block, (ad.add (k * 5)).off + 2, none⟩ = some (.int .i64 (xs.getD k zGraph).f2) ∧ w.cell? ⟨(ad.add (k * 5)).block, (ad.add (k * 5)).off + 3, none⟩ = some (.int .i64 (xs.getD k zGraph).f3) ∧ w.cell? ⟨(ad.add (k * 5)).block, (ad.add (k * 5)).off + 4, none⟩ = some (.bool (xs.getD k zGraph).f4) ∧ IsS kNode w (xs.getD k zGraph).f1 A1 c1 := by
 obtain ⟨ad, cs, e, _, hK, hc⟩ := Kd.C_get h.2 zGraph (k : Int) (by omega) (by omega)
 rw [Int.toNat_natCast] at hK hc
 have hc' : ∀ j u, cs[j]? = some u → w.cell? (ad.add (k * 5 + j)) = some u := hc
 obtain ⟨A1, c1, rfl, i1⟩ := kGraph_open hK
 exact ⟨ad, A1, c1, e, hc' 0 _ rfl, by rw [← add_field _ _ 1 (by omega)]; exact hc' 1 _ rfl, by rw [← add_field _ _ 2 (by omega)]; exact hc' 2 _ rfl, by rw [← add_field _ _ 3 (by omega)]; exact hc' 3 _ rfl, by rw [← add_field _ _ 4 (by omega)]; exact hc' 4 _ rfl, i1⟩

/-! TEv -/
structure TEv where
 f0 : Int
 f1 : Int
 f2 : Int
def zEv : TEv := ⟨0, 0, 0⟩
def kEv : Kd TEv := Kd.iso (Kd.pair (Kd.int .i64) (Kd.pair (Kd.int .i64) (Kd.int .i64))) (fun x => (x.f0, x.f1, x.f2))
theorem kEv_open {w : World} {x : TEv} {cs : List Value} (h : kEv.K w x cs) : cs = [.int .i64 x.f0, .int .i64 x.f1, .int .i64 x.f2] := by
 obtain ⟨_, _, rfl, g0, h⟩ := h
 obtain ⟨_, _, rfl, g1, h⟩ := h
 have g2 := h
 obtain rfl := g0
 obtain rfl := g1
 obtain rfl := g2
 exact rfl
theorem kEv_openM {w : World} {base : Nat} {ok : Nat → Prop} {x : TEv} {cs : List Value} (h : kEv.M w base ok x cs) : cs = [.int .i64 x.f0, .int .i64 x.f1, .int .i64 x.f2] := by
 obtain ⟨_, _, rfl, g0, h⟩ := h
 obtain ⟨_, _, rfl, g1, h⟩ := h
 have g2 := h
 obtain rfl := g0
 obtain rfl := g1
 obtain rfl := g2
 exact rfl
theorem kEv_mkM (w : World) (base : Nat) (ok : Nat → Prop) (x : TEv) : kEv.M w base ok x [.int .i64 x.f0, .int .i64 x.f1, .int .i64 x.f2] := ⟨_, _, rfl, rfl, ⟨_, _, rfl, rfl, rfl⟩⟩
theorem atEv {w : World} {A : Option Addr} {c : Nat} {xs : List TEv} (h : IsS kEv w xs A c) (k : Nat) (hk : k < xs.length) : ∃ ad, A = some ad ∧ w.cell? (ad.add (k * 3)) = some (.int .i64 (xs.getD k zEv).f0) ∧ w.cell? ⟨(ad.add (k * 3)).block, (ad.add (k * 3)).off + 1, none⟩ = some (.int .i64 (xs.getD k zEv).f1) ∧ w.cell? ⟨(ad.add (k * 3)).block, (ad.add (k * 3)).off + 2, none⟩ = some (.int .i64 (xs.getD k zEv).f2) := by
 obtain ⟨ad, cs, e, _, hK, hc⟩ := Kd.C_get h.2 zEv (k : Int) (by omega) (by omega)
 rw [Int.toNat_natCast] at hK hc
 have hc' : ∀ j u, cs[j]? = some u → w.cell? (ad.add (k * 3 + j)) = some u := hc
 obtain ⟨rfl⟩ := kEv_open hK
 exact ⟨ad, e, hc' 0 _ rfl, by rw [← add_field _ _ 1 (by omega)]; exact hc' 1 _ rfl, by rw [← add_field _ _ 2 (by omega)]; exact hc' 2 _ rfl⟩

/-! TFire -/
structure TFire where
 f0 : Int
 f1 : TOcc
def zFire : TFire := ⟨0, zOcc⟩
def kFire : Kd TFire := Kd.iso (Kd.pair (Kd.int .i64) kOcc) (fun x => (x.f0, x.f1))
theorem kFire_open {w : World} {x : TFire} {cs : List Value} (h : kFire.K w x cs) : ∃ A3 c3, cs = [.int .i64 x.f0, .int .i64 x.f1.f0, .int .i64 x.f1.f1, .slice A3 x.f1.f2.length c3] ∧ IsS (Kd.int .i64) w x.f1.f2 A3 c3 := by
 obtain ⟨_, _, rfl, g0, h⟩ := h
 have g1 := h
 obtain rfl := g0
 obtain ⟨A3, c3, rfl, i3⟩ := kOcc_open g1
 exact ⟨A3, c3, rfl, i3⟩
theorem kFire_openM {w : World} {base : Nat} {ok : Nat → Prop} {x : TFire} {cs : List Value} (h : kFire.M w base ok x cs) : ∃ v3, cs = [.int .i64 x.f0, .int .i64 x.f1.f0, .int .i64 x.f1.f1, v3] ∧ Kd.S (Kd.int .i64) 3 w base ok v3 x.f1.f2 := by
 obtain ⟨_, _, rfl, g0, h⟩ := h
 have g1 := h
 obtain rfl := g0
 obtain ⟨v3, rfl, e3⟩ := kOcc_openM g1
 exact ⟨v3, rfl, e3⟩
theorem kFire_mkM (w : World) (base : Nat) (ok : Nat → Prop) (x : TFire) {v3 : Value} (e3 : Kd.S (Kd.int .i64) 3 w base ok v3 x.f1.f2) : kFire.M w base ok x [.int .i64 x.f0, .int .i64 x.f1.f0, .int .i64 x.f1.f1, v3] := ⟨_, _, rfl, rfl, (kOcc_mkM w base _ x.f1 e3)⟩
theorem atFire {w : World} {A : Option Addr} {c : Nat} {xs : List TFire} (h : IsS kFire w xs A c) (k : Nat) (hk : k < xs.length) : ∃ ad, ∃ A3 c3, A = some ad ∧ w.cell? (ad.add (k * 4)) = some (.int .i64 (xs.getD k zFire).f0) ∧ w.cell? ⟨(ad.add (k * 4)).block, (ad.add (k * 4)).off + 1, none⟩ = some (.int .i64 (xs.getD k zFire).f1.f0) ∧ w.cell? ⟨(ad.add (k * 4)).block, (ad.add (k * 4)).off + 2, none⟩ = some (.int .i64 (xs.getD k zFire).f1.f1) ∧ w.cell? ⟨(ad.add (k * 4)).block, (ad.add (k * 4)).off + 3, none⟩ = some (.slice A3 (xs.getD k zFire).f1.f2.length c3) ∧ IsS (Kd.int .i64) w (xs.getD k zFire).f1.f2 A3 c3 := by
 obtain ⟨ad, cs, e, _, hK, hc⟩ := Kd.C_get h.2 zFire (k : Int) (by omega) (by omega)
 rw [Int.toNat_natCast] at hK hc
 have hc' : ∀ j u, cs[j]? = some u → w.cell? (ad.add (k * 4 + j)) = some u := hc
 obtain ⟨A3, c3, rfl, i3⟩ := kFire_open hK
 exact ⟨ad, A3, c3, e, hc' 0 _ rfl, by rw [← add_field _ _ 1 (by omega)]; exact hc' 1 _ rfl, by rw [← add_field _ _ 2 (by omega)]; exact hc' 2 _ rfl, by rw [← add_field _ _ 3 (by omega)]; exact hc' 3 _ rfl, i3⟩

/-! TRule -/
structure TRule where
 f0 : ByteArray
 f1 : Int
 f2 : Int
 f3 : Ex
 f4 : Int
 f5 : Int
 f6 : Int
 f7 : Int
 f8 : Int
def zRule : TRule := ⟨ByteArray.empty, 0, 0, zE, 0, 0, 0, 0, 0⟩
def kRule : Kd TRule := Kd.iso (Kd.pair Kd.string (Kd.pair (Kd.int .i64) (Kd.pair (Kd.int .i64) (Kd.pair (kE 50) (Kd.pair (Kd.int .i64) (Kd.pair (Kd.int .i64) (Kd.pair (Kd.int .i64) (Kd.pair (Kd.int .i64) (Kd.int .i64))))))))) (fun x => (x.f0, x.f1, x.f2, x.f3, x.f4, x.f5, x.f6, x.f7, x.f8))
theorem kRule_open {w : World} {x : TRule} {cs : List Value} (h : kRule.K w x cs) : ∃ A6 c6, cs = [.string x.f0, .int .i64 x.f1, .int .i64 x.f2, .int .i64 x.f3.f0, .int .i64 x.f3.f1, .int .i64 x.f3.f2, .slice A6 x.f3.f3.length c6, .int .i64 x.f4, .int .i64 x.f5, .int .i64 x.f6, .int .i64 x.f7, .int .i64 x.f8] ∧ IsS (kE 50) w x.f3.f3 A6 c6 := by
 obtain ⟨_, _, rfl, g0, h⟩ := h
 obtain ⟨_, _, rfl, g1, h⟩ := h
 obtain ⟨_, _, rfl, g2, h⟩ := h
 obtain ⟨_, _, rfl, g3, h⟩ := h
 obtain ⟨_, _, rfl, g4, h⟩ := h
 obtain ⟨_, _, rfl, g5, h⟩ := h
 obtain ⟨_, _, rfl, g6, h⟩ := h
 obtain ⟨_, _, rfl, g7, h⟩ := h
 have g8 := h
 obtain rfl := g0
 obtain rfl := g1
 obtain rfl := g2
 obtain ⟨A6, c6, rfl, l6, e6⟩ := kE_open g3
 obtain rfl := g4
 obtain rfl := g5
 obtain rfl := g6
 obtain rfl := g7
 obtain rfl := g8
 exact ⟨A6, c6, rfl, ⟨l6, e6⟩⟩
theorem kRule_openM {w : World} {base : Nat} {ok : Nat → Prop} {x : TRule} {cs : List Value} (h : kRule.M w base ok x cs) : ∃ v6, cs = [.string x.f0, .int .i64 x.f1, .int .i64 x.f2, .int .i64 x.f3.f0, .int .i64 x.f3.f1, .int .i64 x.f3.f2, v6, .int .i64 x.f4, .int .i64 x.f5, .int .i64 x.f6, .int .i64 x.f7, .int .i64 x.f8] ∧ Kd.S (kE 50) 50 w base ok v6 x.f3.f3 := by
 obtain ⟨_, _, rfl, g0, h⟩ := h
 obtain ⟨_, _, rfl, g1, h⟩ := h
 obtain ⟨_, _, rfl, g2, h⟩ := h
 obtain ⟨_, _, rfl, g3, h⟩ := h
 obtain ⟨_, _, rfl, g4, h⟩ := h
 obtain ⟨_, _, rfl, g5, h⟩ := h
 obtain ⟨_, _, rfl, g6, h⟩ := h
 obtain ⟨_, _, rfl, g7, h⟩ := h
 have g8 := h
 obtain rfl := g0
 obtain rfl := g1
 obtain rfl := g2
 obtain ⟨v6, rfl, e6⟩ := kE_openM g3
 obtain rfl := g4
 obtain rfl := g5
 obtain rfl := g6
 obtain rfl := g7
 obtain rfl := g8
 exact ⟨v6, rfl, e6⟩
theorem kRule_mkM (w : World) (base : Nat) (ok : Nat → Prop) (x : TRule) {v6 : Value} (e6 : Kd.S (kE 50) 50 w base ok v6 x.f3.f3) : kRule.M w base ok x [.string x.f0, .int .i64 x.f1, .int .i64 x.f2, .int .i64 x.f3.f0, .int .i64 x.f3.f1, .int .i64 x.f3.f2, v6, .int .i64 x.f4, .int .i64 x.f5, .int .i64 x.f6, .int .i64 x.f7, .int .i64 x.f8] := ⟨_, _, rfl, rfl, ⟨_, _, rfl, rfl, ⟨_, _, rfl, rfl, ⟨_, _, rfl, (kE_mkM x.f3 e6), ⟨_, _, rfl, rfl, ⟨_, _, rfl, rfl, ⟨_, _, rfl, rfl, ⟨_, _, rfl, rfl, rfl⟩⟩⟩⟩⟩⟩⟩⟩
theorem atRule {w : World} {A : Option Addr} {c : Nat} {xs : List TRule} (h : IsS kRule w xs A c) (k : Nat) (hk : k < xs.length) : ∃ ad, ∃ A6 c6, A = some ad ∧ w.cell? (ad.add (k * 12)) = some (.string (xs.getD k zRule).f0) ∧ w.cell? ⟨(ad.add (k * 12)).block, (ad.add (k * 12)).off + 1, none⟩ = some (.int .i64 (xs.getD k zRule).f1) ∧ w.cell? ⟨(ad.add (k * 12)).block, (ad.add (k * 12)).off + 2, none⟩ = some (.int .i64 (xs.getD k zRule).f2) ∧ w.cell? ⟨(ad.add (k * 12)).block, (ad.add (k * 12)).off + 3, none⟩ = some (.int .i64 (xs.getD k zRule).f3.f0) ∧ w.cell? ⟨(ad.add (k * 12)).block, (ad.add (k * 12)).off + 4, none⟩ = some (.int .i64 (xs.getD k zRule).f3.f1) ∧ w.cell? ⟨(ad.add (k * 12)).block, (ad.add (k * 12)).off + 5, none⟩ = some (.int .i64 (xs.getD k zRule).f3.f2) ∧ w.cell? ⟨(ad.add (k * 12)).block, (ad.add (k * 12)).off + 6, none⟩ = some (.slice A6 (xs.getD k zRule).f3.f3.length c6) ∧ w.cell? ⟨(ad.add (k * 12)).block, (ad.add (k * 12)).off + 7, none⟩ = some (.int .i64 (xs.getD k zRule).f4) ∧ w.cell? ⟨(ad.add (k * 12)).block, (ad.add (k * 12)).off + 8, none⟩ = some (.int .i64 (xs.getD k zRule).f5) ∧ w.cell? ⟨(ad.add (k * 12)).block, (ad.add (k * 12)).off + 9, none⟩ = some (.int .i64 (xs.getD k zRule).f6) ∧ w.cell? ⟨(ad.add (k * 12)).block, (ad.add (k * 12)).off + 10, none⟩ = some (.int .i64 (xs.getD k zRule).f7) ∧ w.cell? ⟨(ad.add (k * 12)).block, (ad.add (k * 12)).off + 11, none⟩ = some (.int .i64 (xs.getD k zRule).f8) ∧ IsS (kE 50) w (xs.getD k zRule).f3.f3 A6 c6 := by
 obtain ⟨ad, cs, e, _, hK, hc⟩ := Kd.C_get h.2 zRule (k : Int) (by omega) (by omega)
 rw [Int.toNat_natCast] at hK hc
 have hc' : ∀ j u, cs[j]? = some u → w.cell? (ad.add (k * 12 + j)) = some u := hc
 obtain ⟨A6, c6, rfl, i6⟩ := kRule_open hK
 exact ⟨ad, A6, c6, e, hc' 0 _ rfl, by rw [← add_field _ _ 1 (by omega)]; exact hc' 1 _ rfl, by rw [← add_field _ _ 2 (by omega)]; exact hc' 2 _ rfl, by rw [← add_field _ _ 3 (by omega)]; exact hc' 3 _ rfl, by rw [← add_field _ _ 4 (by omega)]; exact hc' 4 _ rfl, by rw [← add_field _ _ 5 (by omega)]; exact hc' 5 _ rfl, by rw [← add_field _ _ 6 (by omega)]; exact hc' 6 _ rfl, by rw [← add_field _ _ 7 (by omega)]; exact hc' 7 _ rfl, by rw [← add_field _ _ 8 (by omega)]; exact hc' 8 _ rfl, by rw [← add_field _ _ 9 (by omega)]; exact hc' 9 _ rfl, by rw [← add_field _ _ 10 (by omega)]; exact hc' 10 _ rfl, by rw [← add_field _ _ 11 (by omega)]; exact hc' 11 _ rfl, i6⟩

/-! TEng -/
structure TEng where
 f0 : (List TRule)
 f1 : (List TGraph)
 f2 : (List TEv)
 f3 : (List Int)
 f4 : (List TFire)
def kEng : Kd TEng := Kd.iso (pairS (sliceS 52 kRule) (pairS (sliceS 89 kGraph) (pairS (sliceS 97 kEv) (pairS (sliceS 3 (Kd.int .i64)) (sliceS 56 kFire))))) (fun x => (x.f0, x.f1, x.f2, x.f3, x.f4))
theorem kEng_open {w : World} {x : TEng} {cs : List Value} (h : kEng.K w x cs) : ∃ A0 c0, ∃ A1 c1, ∃ A2 c2, ∃ A3 c3, ∃ A4 c4, cs = [.slice A0 x.f0.length c0, .slice A1 x.f1.length c1, .slice A2 x.f2.length c2, .slice A3 x.f3.length c3, .slice A4 x.f4.length c4] ∧ IsS kRule w x.f0 A0 c0 ∧ IsS kGraph w x.f1 A1 c1 ∧ IsS kEv w x.f2 A2 c2 ∧ IsS (Kd.int .i64) w x.f3 A3 c3 ∧ IsS kFire w x.f4 A4 c4 := by
 obtain ⟨_, _, rfl, g0, h⟩ := h
 obtain ⟨_, _, rfl, g1, h⟩ := h
 obtain ⟨_, _, rfl, g2, h⟩ := h
 obtain ⟨_, _, rfl, g3, h⟩ := h
 have g4 := h
 obtain ⟨A0, c0, rfl, l0, e0⟩ := g0
 obtain ⟨A1, c1, rfl, l1, e1⟩ := g1
 obtain ⟨A2, c2, rfl, l2, e2⟩ := g2
 obtain ⟨A3, c3, rfl, l3, e3⟩ := g3
 obtain ⟨A4, c4, rfl, l4, e4⟩ := g4
 exact ⟨A0, c0, A1, c1, A2, c2, A3, c3, A4, c4, rfl, ⟨l0, e0⟩, ⟨l1, e1⟩, ⟨l2, e2⟩, ⟨l3, e3⟩, ⟨l4, e4⟩⟩
end Go.Proofs.YtckblabkapeigaaGreat.Ka
