
/- A graph that is valid: both sides. Printed by genOz9.py. -/
import Derived.Test.YtckblabkapeigaaGreatNOy9
import Derived.Test.YtckblabkapeigaaGreatNEa8
set_option linter.unusedVariables false
set_option linter.unusedSimpArgs false
namespace Go.Proofs.YtckblabkapeigaaGreat.Oz9
open Go.RowKit Go.Proofs.YtckblabkapeigaaGreatW.PrintWords Go.Proofs.YtckblabkapeigaaGreat.Ja Go.Proofs.YtckblabkapeigaaGreat.Jb Go.Proofs.YtckblabkapeigaaGreat.Jg Go.Proofs.YtckblabkapeigaaGreat.Jh Go.Proofs.YtckblabkapeigaaGreat.Jj Go.Proofs.YtckblabkapeigaaGreat.Ka Go.Proofs.YtckblabkapeigaaGreat.Kb Go.Proofs.YtckblabkapeigaaGreat.Ea8 Go.Proofs.YtckblabkapeigaaGreat.Ov9 Go.Proofs.YtckblabkapeigaaGreat.Ow9 Go.Proofs.YtckblabkapeigaaGreat.Ox9 Go.Proofs.YtckblabkapeigaaGreat.Oy9

def nodeAt (g : TGraph) (i : Nat) : Bool := nodeB (g.f1.getD i zNode) i g.f3
def nodesTo (g : TGraph) (k : Nat) : Bool := (List.range k).all (nodeAt g)
def partsB (g : TGraph) : Bool := inb g.f0 0 4 && (inb (g.f1.length : Int) 1 12 && (inb g.f2 0 24 && inb g.f3 0 1000))
def graphB (g : TGraph) : Bool := nodesTo g g.f1.length && partsB g
theorem nodesTo_succ (g : TGraph) (k : Nat) : nodesTo g (k + 1) = (nodesTo g k && nodeAt g k) := by unfold nodesTo; rw [List.range_succ, List.all_append]; simp
theorem graph_no {g : TGraph} {k : Nat} (h : k < g.f1.length) (hb : nodeAt g k = false) : graphB g = false := by
 unfold graphB nodesTo
 have : (List.range g.f1.length).all (nodeAt g) = false := List.all_eq_false.2 ⟨k, List.mem_range.2 h, by rw [hb]; simp⟩
 rw [this]; rfl
theorem graph_p {g : TGraph} (h : partsB g = false) : graphB g = false := by unfold graphB; rw [h]; simp
set_option maxHeartbeats 4000000 in
set_option maxRecDepth 100000 in
theorem graphOk_any (g : TGraph) (A : Option Addr) (c : Nat) (w : World) (hL : IsS kNode w g.f1 A c) :
  Calls Tryz.prog 82 #[.agg #[.int .i64 g.f0, .slice A g.f1.length c, .int .i64 g.f2, .int .i64 g.f3, .bool g.f4]] w fun e w' => e = .returned (.bool (graphB g)) ∧ Below w.heap.size w w' := by
 have hn := hL.len
 have hb0 := below_alloc (Below.refl w.heap.size w) (.cells #[.int .i64 g.f0, .slice A g.f1.length c, .int .i64 g.f2, .int .i64 g.f3, .bool g.f4] 89)
 have b0 := blk_new w (.cells #[.int .i64 g.f0, .slice A g.f1.length c, .int .i64 g.f2, .int .i64 g.f3, .bool g.f4] 89)
 have HL := Aside0.mk (hL.below hb0)
 obtain ⟨W, hW⟩ : ∃ W, W = w.alloc (.cells #[.int .i64 g.f0, .slice A g.f1.length c, .int .i64 g.f2, .int .i64 g.f3, .bool g.f4] 89) := ⟨_, rfl⟩
 rw [← hW] at hb0 b0 HL
 have HW := Aside0.mk hW
 have HX := Aside0.mk hb0
 have B0 := Aside0.mk b0
 have p1 := (blk_cell b0 1).trans rfl
 clear hW hb0 b0 hL
 go_enter Tryz.func82, Tryz.ntmps82
 go_upto_region 1 with fail
 rw [← HW.out]
 go_upto_region 2 with fail
 clear p1
 go_loopw [8] (fun vi wr => ∃ k : Nat, k ≤ g.f1.length ∧ vi = .int .i64 k ∧ Aside0 (nodesTo g k = true) ∧ Aside0 (Below W.heap.size W wr)) (fun vi _ => g.f1.length - (intOf vi).toNat)
 case atStart => exact ⟨0, Nat.zero_le _, rfl, ⟨rfl⟩, ⟨Below.refl _ _⟩⟩
 case round =>
  obtain ⟨k, hk, rfl, HH, HB⟩ := hrel
  by_cases hlt : k < g.f1.length
  ·have g1 : decide (k < g.f1.length) = true := decide_eq_true hlt
   have i1 : (k : Int) < g.f1.length := by omega
   obtain ⟨ad, A3, c3, A4, c4, A5, c5, A6, c6, A7, c7, A8, c8, rfl, y0, y1, y2, y3, y4, y5, y6, y7, y8, y9, j3, j4, j5, j6, j7, j8⟩ := atNode (HL.out.below HB.out) k hlt
   have HS := Aside0.mk (nodesTo_succ g k)
   have HNO := Aside0.mk (graph_no hlt)
   have HAT : Aside0 (nodeAt g k = nodeB (g.f1.getD k zNode) k g.f3) := ⟨rfl⟩
   generalize g.f1.getD k zNode = o at y0 y1 y2 y3 y4 y5 y6 y7 y8 y9 j3 j4 j5 j6 j7 j8 HAT
   have hba := below_alloc (Below.refl wr.heap.size wr) (.cells #[.int .i64 o.f0, .int .i64 o.f1, .int .i64 o.f2, .slice A3 o.f3.length c3, .slice A4 o.f4.f0.length c4, .slice A5 o.f4.f1.length c5, .slice A6 o.f5.f0.length c6, .slice A7 o.f5.f1.length c7, .slice A8 o.f6.length c8, .int .i64 o.f7] 126)
   have HBX := Aside0.mk hba
   have k3 := (blk_cell (blk_below B0.out HB.out) 3).trans rfl
   have k3' := pw_cell_below hba k3
   have HJ3 := Aside0.mk (j3.below hba)
   have HJ4 := Aside0.mk (j4.below hba)
   have HJ5 := Aside0.mk (j5.below hba)
   have HJ6 := Aside0.mk (j6.below hba)
   have HJ7 := Aside0.mk (j7.below hba)
   have HJ8 := Aside0.mk (j8.below hba)
   clear j3 j4 j5 j6 j7 j8 hba
   cases hq : nodeB o k g.f3 with
   | true =>
    have HG : Aside0 (nodesTo g (k + 1) = true) := ⟨by rw [HS.out, HH.out, HAT.out, hq]; rfl⟩
    have HQ := Aside0.mk hq
    clear hq
    go_wp2_with (go_at_call 108; refine (nodeOk_any o A3 c3 A4 c4 A5 c5 A6 c6 A7 c7 A8 c8 k g.f3 ⟨by omega, by omega⟩ _ HJ3.out HJ4.out HJ5.out HJ6.out HJ7.out HJ8.out).mono ?_; rintro e w2 ⟨rfl, hb⟩; rw [HQ.out]; have HB2 := Aside0.mk (below_then HB.out HB.out.size (below_then HBX.out HBX.out.size hb)); clear hb)
    go_roundw
    case rel => exact ⟨k + 1, by omega, by go_num, HG, HB2⟩
    case measure => simp [intOf]; omega
   | false =>
    have HG : Aside0 (graphB g = false) := ⟨HNO.out (by rw [HAT.out, hq])⟩
    have HQ := Aside0.mk hq
    clear hq
    go_wp2_with (go_at_call 108; refine (nodeOk_any o A3 c3 A4 c4 A5 c5 A6 c6 A7 c7 A8 c8 k g.f3 ⟨by omega, by omega⟩ _ HJ3.out HJ4.out HJ5.out HJ6.out HJ7.out HJ8.out).mono ?_; rintro e w2 ⟨rfl, hb⟩; rw [HQ.out]; have HB2 := Aside0.mk (below_then HB.out HB.out.size (below_then HBX.out HBX.out.size hb)); clear hb)
    go_ret
    exact ⟨by rw [HG.out]; rfl, below_then HX.out HX.out.size HB2.out⟩
  ·have hke : k = g.f1.length := by omega
   subst hke
   have g1 : decide (g.f1.length < g.f1.length) = false := decide_eq_false (by omega)
   have k0 := (blk_cell (blk_below B0.out HB.out) 0).trans rfl
   have k1 := (blk_cell (blk_below B0.out HB.out) 1).trans rfl
   have k2 := (blk_cell (blk_below B0.out HB.out) 2).trans rfl
   have k3 := (blk_cell (blk_below B0.out HB.out) 3).trans rfl
   cases q0 : inb g.f0 0 4 with
   | false =>
    have HE : Aside0 (graphB g = false) := ⟨graph_p (by unfold partsB; rw [q0]; simp)⟩
    go_wp2_with (first | (go_at_call 54; refine (in_any _ _ _ _).mono ?_; rintro e w9 ⟨rfl, he⟩; subst he) | (go_at_call 104; refine (isMode_any _ _).mono ?_; rintro e w9 ⟨rfl, he⟩; subst he))
    go_ret
    exact ⟨by rw [HE.out]; rfl, below_then HX.out HX.out.size HB.out⟩
   | true =>
   cases q1 : inb (g.f1.length : Int) 1 12 with
   | false =>
    have HE : Aside0 (graphB g = false) := ⟨graph_p (by unfold partsB; rw [q0, q1]; simp)⟩
    go_wp2_with (first | (go_at_call 54; refine (in_any _ _ _ _).mono ?_; rintro e w9 ⟨rfl, he⟩; subst he) | (go_at_call 104; refine (isMode_any _ _).mono ?_; rintro e w9 ⟨rfl, he⟩; subst he))
    go_ret
    exact ⟨by rw [HE.out]; rfl, below_then HX.out HX.out.size HB.out⟩
   | true =>
   cases q2 : inb g.f2 0 24 with
   | false =>
    have HE : Aside0 (graphB g = false) := ⟨graph_p (by unfold partsB; rw [q0, q1, q2]; simp)⟩
    go_wp2_with (first | (go_at_call 54; refine (in_any _ _ _ _).mono ?_; rintro e w9 ⟨rfl, he⟩; subst he) | (go_at_call 104; refine (isMode_any _ _).mono ?_; rintro e w9 ⟨rfl, he⟩; subst he))
    go_ret
    exact ⟨by rw [HE.out]; rfl, below_then HX.out HX.out.size HB.out⟩
   | true =>
   cases q3 : inb g.f3 0 1000 with
   | false =>
    have HE : Aside0 (graphB g = false) := ⟨graph_p (by unfold partsB; rw [q0, q1, q2, q3]; simp)⟩
    go_wp2_with (first | (go_at_call 54; refine (in_any _ _ _ _).mono ?_; rintro e w9 ⟨rfl, he⟩; subst he) | (go_at_call 104; refine (isMode_any _ _).mono ?_; rintro e w9 ⟨rfl, he⟩; subst he))
    go_ret
    exact ⟨by rw [HE.out]; rfl, below_then HX.out HX.out.size HB.out⟩
   | true =>
   have HE : Aside0 (graphB g = true) := ⟨by unfold graphB partsB; rw [HH.out, q0, q1, q2, q3]; rfl⟩
   go_wp2_with (first | (go_at_call 54; refine (in_any _ _ _ _).mono ?_; rintro e w9 ⟨rfl, he⟩; subst he) | (go_at_call 104; refine (isMode_any _ _).mono ?_; rintro e w9 ⟨rfl, he⟩; subst he))
   go_ret
   exact ⟨by rw [HE.out]; rfl, below_then HX.out HX.out.size HB.out⟩
set_option maxHeartbeats 8000000 in
set_option maxRecDepth 100000 in
theorem sGraphOk_any (g : TGraph) (A : Option Addr) (c : Nat) (w : World) (hL : IsS kNode w g.f1 A c) :
  Calls Tryz.prog 38 #[.agg #[.int .i64 g.f0, .slice A g.f1.length c, .int .i64 g.f2, .int .i64 g.f3, .bool g.f4]] w fun e w' => e = .returned (.bool (graphB g)) ∧ Below w.heap.size w w' := by
 have hn := hL.len
 have hb0 := below_alloc (Below.refl w.heap.size w) (.cells #[.int .i64 g.f0, .slice A g.f1.length c, .int .i64 g.f2, .int .i64 g.f3, .bool g.f4] 89)
 have b0 := blk_new w (.cells #[.int .i64 g.f0, .slice A g.f1.length c, .int .i64 g.f2, .int .i64 g.f3, .bool g.f4] 89)
 have HL := Aside0.mk (hL.below hb0)
 obtain ⟨W, hW⟩ : ∃ W, W = w.alloc (.cells #[.int .i64 g.f0, .slice A g.f1.length c, .int .i64 g.f2, .int .i64 g.f3, .bool g.f4] 89) := ⟨_, rfl⟩
 rw [← hW] at hb0 b0 HL
 have HW := Aside0.mk hW
 have HX := Aside0.mk hb0
 have B0 := Aside0.mk b0
 have p0 := (blk_cell b0 0).trans rfl
 have p1 := (blk_cell b0 1).trans rfl
 have p2 := (blk_cell b0 2).trans rfl
 have p3 := (blk_cell b0 3).trans rfl
 clear hW hb0 b0 hL
 cases q0 : inb g.f0 0 4 with
 | false =>
  have HE : Aside0 (graphB g = false) := ⟨graph_p (by unfold partsB; rw [q0]; rfl)⟩
  go_enter Tryz.func38, Tryz.ntmps38
  go_upto_region 1 with fail
  rw [← HW.out]
  go_wp2_with (go_at_call 71; refine (sMode_any _ _).mono ?_; rintro e w9 ⟨rfl, he⟩; have he2 := he.symm; subst he2)
  go_ret
  exact ⟨by rw [HE.out]; rfl, HX.out⟩
 | true =>
 by_cases hc0 : 1 ≤ g.f1.length
 rotate_left
 ·have d0 : decide ((g.f1.length : Int) < 1) = true := decide_eq_true (by omega)
  have d0' : decide (g.f1.length < 1) = true := decide_eq_true (by omega)
  have HE : Aside0 (graphB g = false) := ⟨graph_p (by unfold partsB; rw [inb_f (n := (g.f1.length : Int)) (by omega)]; simp)⟩
  clear hc0
  go_enter Tryz.func38, Tryz.ntmps38
  go_upto_region 1 with fail
  rw [← HW.out]
  go_wp2_with (go_at_call 71; refine (sMode_any _ _).mono ?_; rintro e w9 ⟨rfl, he⟩; have he2 := he.symm; subst he2)
  go_ret
  exact ⟨by rw [HE.out]; rfl, HX.out⟩
 have d0 : decide ((g.f1.length : Int) < 1) = false := decide_eq_false (by omega)
 have d0' : decide (g.f1.length < 1) = false := decide_eq_false (by omega)
 by_cases hc1 : g.f1.length ≤ 12
 rotate_left
 ·have d1 : decide ((g.f1.length : Int) > 12) = true := decide_eq_true (by omega)
  have d1' : decide (12 < g.f1.length) = true := decide_eq_true (by omega)
  have HE : Aside0 (graphB g = false) := ⟨graph_p (by unfold partsB; rw [inb_f (n := (g.f1.length : Int)) (by omega)]; simp)⟩
  clear hc0 hc1
  go_enter Tryz.func38, Tryz.ntmps38
  go_upto_region 1 with fail
  rw [← HW.out]
  go_wp2_with (go_at_call 71; refine (sMode_any _ _).mono ?_; rintro e w9 ⟨rfl, he⟩; have he2 := he.symm; subst he2)
  go_ret
  exact ⟨by rw [HE.out]; rfl, HX.out⟩
 have d1 : decide ((g.f1.length : Int) > 12) = false := decide_eq_false (by omega)
 have d1' : decide (12 < g.f1.length) = false := decide_eq_false (by omega)
 by_cases hc2 : 0 ≤ g.f2
 rotate_left
 ·have d2 : decide (g.f2 < 0) = true := decide_eq_true (by omega)
  have HE : Aside0 (graphB g = false) := ⟨graph_p (by unfold partsB; rw [inb_f (n := g.f2) (by omega)]; simp)⟩
  clear hc0 hc1 hc2
  go_enter Tryz.func38, Tryz.ntmps38
  go_upto_region 1 with fail
  rw [← HW.out]
  go_wp2_with (go_at_call 71; refine (sMode_any _ _).mono ?_; rintro e w9 ⟨rfl, he⟩; have he2 := he.symm; subst he2)
  go_ret
  exact ⟨by rw [HE.out]; rfl, HX.out⟩
 have d2 : decide (g.f2 < 0) = false := decide_eq_false (by omega)
 by_cases hc3 : g.f2 ≤ 24
 rotate_left
 ·have d3 : decide (g.f2 > 24) = true := decide_eq_true (by omega)
  have d3' : decide (24 < g.f2) = true := decide_eq_true (by omega)
  have HE : Aside0 (graphB g = false) := ⟨graph_p (by unfold partsB; rw [inb_f (n := g.f2) (by omega)]; simp)⟩
  clear hc0 hc1 hc2 hc3
  go_enter Tryz.func38, Tryz.ntmps38
  go_upto_region 1 with fail
  rw [← HW.out]
  go_wp2_with (go_at_call 71; refine (sMode_any _ _).mono ?_; rintro e w9 ⟨rfl, he⟩; have he2 := he.symm; subst he2)
  go_ret
  exact ⟨by rw [HE.out]; rfl, HX.out⟩
 have d3 : decide (g.f2 > 24) = false := decide_eq_false (by omega)
 have d3' : decide (24 < g.f2) = false := decide_eq_false (by omega)
 by_cases hc4 : 0 ≤ g.f3
 rotate_left
 ·have d4 : decide (g.f3 < 0) = true := decide_eq_true (by omega)
  have HE : Aside0 (graphB g = false) := ⟨graph_p (by unfold partsB; rw [inb_f (n := g.f3) (by omega)]; simp)⟩
  clear hc0 hc1 hc2 hc3 hc4
  go_enter Tryz.func38, Tryz.ntmps38
  go_upto_region 1 with fail
  rw [← HW.out]
  go_wp2_with (go_at_call 71; refine (sMode_any _ _).mono ?_; rintro e w9 ⟨rfl, he⟩; have he2 := he.symm; subst he2)
  go_ret
  exact ⟨by rw [HE.out]; rfl, HX.out⟩
 have d4 : decide (g.f3 < 0) = false := decide_eq_false (by omega)
 by_cases hc5 : g.f3 ≤ 1000
 rotate_left
 ·have d5 : decide (g.f3 > 1000) = true := decide_eq_true (by omega)
  have d5' : decide (1000 < g.f3) = true := decide_eq_true (by omega)
  have HE : Aside0 (graphB g = false) := ⟨graph_p (by unfold partsB; rw [inb_f (n := g.f3) (by omega)]; simp)⟩
  clear hc0 hc1 hc2 hc3 hc4 hc5
  go_enter Tryz.func38, Tryz.ntmps38
  go_upto_region 1 with fail
  rw [← HW.out]
  go_wp2_with (go_at_call 71; refine (sMode_any _ _).mono ?_; rintro e w9 ⟨rfl, he⟩; have he2 := he.symm; subst he2)
  go_ret
  exact ⟨by rw [HE.out]; rfl, HX.out⟩
 have d5 : decide (g.f3 > 1000) = false := decide_eq_false (by omega)
 have d5' : decide (1000 < g.f3) = false := decide_eq_false (by omega)
 have HP : Aside0 (partsB g = true) := ⟨by unfold partsB; rw [q0, inb_t (n := (g.f1.length : Int)) (by omega), inb_t (n := g.f2) (by omega), inb_t (n := g.f3) (by omega)]; rfl⟩
 clear hc0 hc1 hc2 hc3 hc4 hc5
 go_enter Tryz.func38, Tryz.ntmps38
 go_upto_region 1 with fail
 rw [← HW.out]
 go_upto_region 4 with (go_at_call 71; refine (sMode_any _ _).mono ?_; rintro e w9 ⟨rfl, he⟩; have he2 := he.symm; subst he2)
 clear p0 p1 p2 p3 d0 d1 d2 d3 d4 d5 d0' d1' d3' d5' q0
 go_loopw [3] (fun vi wr => ∃ k : Nat, k ≤ g.f1.length ∧ vi = .int .i64 k ∧ Aside0 (nodesTo g k = true) ∧ Aside0 (Below W.heap.size W wr)) (fun vi _ => g.f1.length - (intOf vi).toNat)
 case atStart => exact ⟨0, Nat.zero_le _, rfl, ⟨rfl⟩, ⟨Below.refl _ _⟩⟩
 case round =>
  obtain ⟨k, hk, rfl, HH, HB⟩ := hrel
  have k1 := (blk_cell (blk_below B0.out HB.out) 1).trans rfl
  by_cases hlt : k < g.f1.length
  ·have g1 : decide (k < g.f1.length) = true := decide_eq_true hlt
   have i1 : (k : Int) < g.f1.length := by omega
   obtain ⟨ad, A3, c3, A4, c4, A5, c5, A6, c6, A7, c7, A8, c8, rfl, y0, y1, y2, y3, y4, y5, y6, y7, y8, y9, j3, j4, j5, j6, j7, j8⟩ := atNode HL.out k hlt
   have HS := Aside0.mk (nodesTo_succ g k)
   have HNO := Aside0.mk (graph_no hlt)
   have HAT : Aside0 (nodeAt g k = nodeB (g.f1.getD k zNode) k g.f3) := ⟨rfl⟩
   generalize g.f1.getD k zNode = o at y0 y1 y2 y3 y4 y5 y6 y7 y8 y9 j3 j4 j5 j6 j7 j8 HAT
   have HY8 := Aside0.mk y8
   have HJ8W := Aside0.mk j8
   replace y0 := pw_cell_below HB.out y0
   replace y1 := pw_cell_below HB.out y1
   replace y2 := pw_cell_below HB.out y2
   replace y3 := pw_cell_below HB.out y3
   replace y4 := pw_cell_below HB.out y4
   replace y5 := pw_cell_below HB.out y5
   replace y6 := pw_cell_below HB.out y6
   replace y7 := pw_cell_below HB.out y7
   replace y8 := pw_cell_below HB.out y8
   replace y9 := pw_cell_below HB.out y9
   have HJ3 := Aside0.mk (j3.below HB.out)
   have HJ4 := Aside0.mk (j4.below HB.out)
   have HJ5 := Aside0.mk (j5.below HB.out)
   have HJ6 := Aside0.mk (j6.below HB.out)
   have HJ7 := Aside0.mk (j7.below HB.out)
   have HJ8 := Aside0.mk (j8.below HB.out)
   clear j3 j4 j5 j6 j7 j8
   cases hq : l7N o k with
   | false =>
    have HG : Aside0 (graphB g = false) := ⟨HNO.out (by rw [HAT.out, nodeB_l7, hq]; rfl)⟩
    have HQ := Aside0.mk hq
    clear hq
    go_wp2_with (go_at_call 72; refine (l7Node_any o A3 c3 A4 c4 A5 c5 A6 c6 A7 c7 A8 c8 k ⟨by omega, by omega⟩ _ HJ3.out HJ4.out HJ5.out HJ6.out HJ7.out HJ8.out).mono ?_; rintro e w2 ⟨rfl, hb⟩; rw [HQ.out]; have HB2 := Aside0.mk (below_then HB.out HB.out.size hb); clear hb)
    go_ret
    exact ⟨by rw [HG.out]; rfl, below_then HX.out HX.out.size HB2.out⟩
   | true =>
   have HQ := Aside0.mk hq
   have HN2 : Aside0 (nodeAt g k = !dueN o g.f3) := ⟨by rw [HAT.out, nodeB_l7, hq]; rfl⟩
   clear hq
   go_upto_region 9 with (go_at_call 72; refine (l7Node_any o A3 c3 A4 c4 A5 c5 A6 c6 A7 c7 A8 c8 k ⟨by omega, by omega⟩ _ HJ3.out HJ4.out HJ5.out HJ6.out HJ7.out HJ8.out).mono ?_; rintro e w2 ⟨rfl, hb⟩; rw [HQ.out]; have HB2 := Aside0.mk (below_then HB.out HB.out.size hb); clear hb)
   have hl8 := HJ8W.out.len
   clear y0 y1 y2 y3 y4 y5 y6 y7 y8 y9 k1
   go_loopw [4] (fun vi wq => ∃ j : Nat, j ≤ o.f6.length ∧ vi = .int .i64 j ∧ Aside0 ((o.f6.take j).any (fun x => decide (x.f1 ≤ g.f3)) = false) ∧ Aside0 (Below W.heap.size W wq)) (fun vi _ => o.f6.length - (intOf vi).toNat)
   case atStart => exact ⟨0, Nat.zero_le _, rfl, ⟨by simp⟩, HB2⟩
   case round =>
    clear HB2
    obtain ⟨j, hj, rfl, HA, HB3⟩ := hrel
    have k1 := (blk_cell (blk_below B0.out HB3.out) 1).trans rfl
    have k3 := (blk_cell (blk_below B0.out HB3.out) 3).trans rfl
    have y8 := pw_cell_below HB3.out HY8.out
    by_cases hjt : j < o.f6.length
    ·have g2 : decide (j < o.f6.length) = true := decide_eq_true hjt
     have i2 : (j : Int) < o.f6.length := by omega
     obtain ⟨ad2, B2_, d2_, rfl, u0, u1, u2, u3⟩ := atOcc (HJ8W.out.below HB3.out) j hjt
     clear u0 u2 u3
     have HSS : Aside0 ((o.f6.take (j + 1)).any (fun x => decide (x.f1 ≤ g.f3)) = ((o.f6.take j).any (fun x => decide (x.f1 ≤ g.f3)) || decide ((o.f6.getD j zOcc).f1 ≤ g.f3))) := ⟨by rw [take_snoc o.f6 j zOcc hjt, List.any_append]; simp⟩
     have HF : Aside0 ((o.f6.getD j zOcc).f1 ≤ g.f3 → dueN o g.f3 = true) := ⟨fun h => List.any_eq_true.2 ⟨_, by rw [List.getD_eq_getElem?_getD, List.getElem?_eq_getElem hjt]; exact List.getElem_mem hjt, decide_eq_true h⟩⟩
     generalize o.f6.getD j zOcc = q at u1 HSS HF
     by_cases hq : q.f1 ≤ g.f3
     ·have dq : decide (q.f1 ≤ g.f3) = true := decide_eq_true hq
      have HG : Aside0 (graphB g = false) := ⟨HNO.out (by rw [HN2.out, HF.out hq]; rfl)⟩
      clear hq
      go_upto_region 11 with fail
      obtain ⟨Wq, hWq⟩ : ∃ Wq, Wq = wr := ⟨_, rfl⟩
      rw [← hWq] at k1 k3 y8 u1 HB3 ⊢
      replace k1 := cellE k1
      replace k3 := cellE k3
      replace y8 := cellE y8
      replace u1 := cellE u1
      refine region_ext (W := Wq) (Below.refl _ _) (by kernel_rfl) (by kernel_rfl) ?_
      repeat (first | go_big_quiet_step (fail) | quiet_step (fail))
      refine wpQuiet_nil ?_
      rintro _ ⟨s, rfl⟩
      have HB4 := Aside0.mk (below_then HB3.out HB3.out.size s.2)
      clear k1 k3 y8 u1
      generalize s.1 = W4 at HB4 ⊢
      go_wp2
      go_ret
      exact ⟨by rw [HG.out]; rfl, below_then HX.out HX.out.size HB4.out⟩
     ·have dq : decide (q.f1 ≤ g.f3) = false := decide_eq_false hq
      have HE2 : Aside0 ((o.f6.take (j + 1)).any (fun x => decide (x.f1 ≤ g.f3)) = false) := ⟨by rw [HSS.out, HA.out, dq]; rfl⟩
      clear hq
      go_upto_region 11 with fail
      obtain ⟨Wq, hWq⟩ : ∃ Wq, Wq = wr := ⟨_, rfl⟩
      rw [← hWq] at k1 k3 y8 u1 HB3 ⊢
      replace k1 := cellE k1
      replace k3 := cellE k3
      replace y8 := cellE y8
      replace u1 := cellE u1
      refine region_ext (W := Wq) (Below.refl _ _) (by kernel_rfl) (by kernel_rfl) ?_
      repeat (first | go_big_quiet_step (fail) | quiet_step (fail))
      refine wpQuiet_nil ?_
      rintro _ ⟨s, rfl⟩
      have HB4 := Aside0.mk (below_then HB3.out HB3.out.size s.2)
      clear k1 k3 y8 u1
      generalize s.1 = W4 at HB4 ⊢
      go_wp2
      go_roundw
      case rel => exact ⟨j + 1, by omega, by go_num, HE2, HB4⟩
      case measure => simp [intOf]; omega
    ·have hje : j = o.f6.length := by omega
     subst hje
     have g2 : decide (o.f6.length < o.f6.length) = false := decide_eq_false (by omega)
     have HG : Aside0 (nodesTo g (k + 1) = true) := ⟨by
      have h := HA.out
      rw [List.take_length] at h
      rw [HS.out, HH.out, HN2.out]
      unfold dueN
      rw [h]; rfl⟩
     go_wp2
     go_roundw
     case rel => exact ⟨k + 1, by omega, by go_num, HG, HB3⟩
     case measure => simp [intOf]; omega
  ·have hke : k = g.f1.length := by omega
   subst hke
   have g1 : decide (g.f1.length < g.f1.length) = false := decide_eq_false (by omega)
   have HE : Aside0 (graphB g = true) := ⟨by unfold graphB; rw [HH.out, HP.out]; rfl⟩
   go_wp2
   go_ret
   exact ⟨by rw [HE.out]; rfl, below_then HX.out HX.out.size HB.out⟩
end Go.Proofs.YtckblabkapeigaaGreat.Oz9
