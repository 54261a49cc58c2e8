
/- EngOk: the reference's. Printed by genPd9.py. -/
import Derived.Test.YtckblabkapeigaaGreatNPc9
import Derived.Test.YtckblabkapeigaaGreatNEf8
set_option linter.unusedVariables false
set_option linter.unusedSimpArgs false
namespace Go.Proofs.YtckblabkapeigaaGreat.Pd9
open Go.RowKit Go.Proofs.YtckblabkapeigaaGreatW.PrintWords Go.Proofs.YtckblabkapeigaaGreat.Ja Go.Proofs.YtckblabkapeigaaGreat.Jb Go.Proofs.YtckblabkapeigaaGreat.Jg Go.Proofs.YtckblabkapeigaaGreat.Jh Go.Proofs.YtckblabkapeigaaGreat.Ka Go.Proofs.YtckblabkapeigaaGreat.Kb Go.Proofs.YtckblabkapeigaaGreat.Ea8 Go.Proofs.YtckblabkapeigaaGreat.Ee8 Go.Proofs.YtckblabkapeigaaGreat.Ef8 Go.Proofs.YtckblabkapeigaaGreat.Ov9 Go.Proofs.YtckblabkapeigaaGreat.Ow9 Go.Proofs.YtckblabkapeigaaGreat.Ox9 Go.Proofs.YtckblabkapeigaaGreat.Oy9 Go.Proofs.YtckblabkapeigaaGreat.Oz9 Go.Proofs.YtckblabkapeigaaGreat.Pa9 Go.Proofs.YtckblabkapeigaaGreat.Pb9 Go.Proofs.YtckblabkapeigaaGreat.Pc9

set_option maxHeartbeats 4000000 in
set_option maxRecDepth 100000 in
theorem l9Known_any (A : Option Addr) (c : Nat) (l : List TOcc) (m : Nat) (w : World) (hp : ∀ x ∈ l, 0 < x.f2.length) (hL : IsS kOcc w l A c) :
  Calls Tryz.prog 73 #[.slice A l.length c, .int .i64 m] w fun e w' => e = .returned (.bool (knownL m l)) ∧ Below w.heap.size w w' := by
 have hn := hL.len
 have HL := Aside0.mk hL
 have HP := Aside0.mk hp
 clear hL hp
 go_enter Tryz.func73, Tryz.ntmps73
 go_upto_region 2 with fail
 go_loopw [5] (fun vi wr => ∃ (j : Nat), j ≤ l.length ∧ vi = .int .i64 j ∧ Aside0 (knownL m (l.take j) = true) ∧ Aside0 (Below w.heap.size w wr)) (fun vi _ => l.length - (intOf vi).toNat)
 case atStart => exact ⟨0, Nat.zero_le _, rfl, ⟨rfl⟩, ⟨Below.refl _ _⟩⟩
 case round =>
  obtain ⟨j, hj, rfl, HA, HB⟩ := hrel
  by_cases hlt : j < l.length
  ·have g1 : decide (j < l.length) = true := decide_eq_true hlt
   have i1 : (j : Int) < l.length := by omega
   obtain ⟨ad, A2, c2, rfl, y0, y1, y2, hI⟩ := atOcc (HL.out.below HB.out) j hlt
   have HS : Aside0 (knownL m (l.take (j + 1)) = (knownL m (l.take j) && decide (lastB (l.getD j zOcc) < m))) := ⟨by unfold knownL; rw [take_snoc l j zOcc hlt, List.all_append]; simp⟩
   have hM : l.getD j zOcc ∈ l := by rw [List.getD_eq_getElem?_getD, List.getElem?_eq_getElem hlt]; exact List.getElem_mem hlt
   have HF : Aside0 (¬ lastB (l.getD j zOcc) < m → knownL m l = false) := ⟨fun h => List.all_eq_false.2 ⟨_, hM, by rw [decide_eq_false h]; simp⟩⟩
   have hpos := HP.out _ hM
   clear hM y0 y1
   generalize l.getD j zOcc = o at y2 hI HS HF hpos
   have hol := hI.len
   obtain ⟨ad2, rfl, z0⟩ := atI hI (o.f2.length - 1) (by omega)
   obtain ⟨v, hv⟩ : ∃ v, v = lastB o := ⟨_, rfl⟩
   have z1 : wr.cell? (ad2.add (o.f2.length - 1)) = some (.int .i64 v) := by rw [hv]; exact z0
   rw [← hv] at HS HF
   clear hv z0 hI
   obtain ⟨n, hn2⟩ : ∃ n, n = o.f2.length := ⟨_, rfl⟩
   rw [← hn2] at y2 z1 hpos hol
   clear hn2
   have i0 : 0 ≤ (n : Int) - 1 := by omega
   have i2 : ((n : Int) - 1).toNat = n - 1 := by omega
   have i3 : (n : Int) - 1 < n := by omega
   have hj2 : (j : Int) * 3 = (j : Int) * 3 := rfl
   clear hj2
   obtain ⟨W, hW⟩ : ∃ W, W = wr := ⟨_, rfl⟩
   by_cases hq : v < m
   ·have dq : decide (v ≥ m) = false := decide_eq_false (by omega)
    have dq' : decide ((m : Int) ≤ v) = false := decide_eq_false (by omega)
    have HE2 : Aside0 (knownL m (l.take (j + 1)) = true) := ⟨by rw [HS.out, HA.out, decide_eq_true hq]; rfl⟩
    clear hq
    go_upto_region 4 with fail
    rw [← hW] at y2 z1 HB ⊢
    replace y2 := cellE y2
    replace z1 := cellE z1
    clear hW
    refine region_ext (W := W) (Below.refl _ _) (by kernel_rfl) (by kernel_rfl) ?_
    repeat (first | go_big_quiet_step (fail) | quiet_step (fail))
    refine wpQuiet_nil ?_
    rintro _ ⟨s, rfl⟩
    have HB4 := Aside0.mk (below_then HB.out HB.out.size s.2)
    clear y2 z1
    generalize s.1 = W4 at HB4 ⊢
    go_wp2
    go_roundw
    case rel => exact ⟨j + 1, by omega, by go_num, HE2, HB4⟩
    case measure => simp [intOf]; omega
   ·have dq : decide (v ≥ m) = true := decide_eq_true (by omega)
    have dq' : decide ((m : Int) ≤ v) = true := decide_eq_true (by omega)
    have HE2 := Aside0.mk (HF.out hq)
    clear hq
    go_upto_region 4 with fail
    rw [← hW] at y2 z1 HB ⊢
    replace y2 := cellE y2
    replace z1 := cellE z1
    clear hW
    refine region_ext (W := W) (Below.refl _ _) (by kernel_rfl) (by kernel_rfl) ?_
    repeat (first | go_big_quiet_step (fail) | quiet_step (fail))
    refine wpQuiet_nil ?_
    rintro _ ⟨s, rfl⟩
    have HB4 := Aside0.mk (below_then HB.out HB.out.size s.2)
    clear y2 z1
    generalize s.1 = W4 at HB4 ⊢
    go_wp2
    go_ret
    exact ⟨by rw [HE2.out]; rfl, HB4.out⟩
  ·have hje : j = l.length := by omega
   subst hje
   have g1 : decide (l.length < l.length) = false := decide_eq_false (by omega)
   have HE2 : Aside0 (knownL m l = true) := ⟨by have h := HA.out; rwa [List.take_length] at h⟩
   go_wp2
   go_ret
   exact ⟨by rw [HE2.out]; rfl, HB.out⟩
def waitsB (m : Nat) (g : TGraph) : Bool := g.f1.all (nodeKnown m)
set_option maxHeartbeats 8000000 in
set_option maxRecDepth 100000 in
theorem l9Waits_any (g : TGraph) (A1 : Option Addr) (c1 : Nat) (m : Nat) (w : World) (hp : ∀ n ∈ g.f1, ∀ l ∈ parts5 n, ∀ x ∈ l, 0 < x.f2.length) (hL : IsS kNode w g.f1 A1 c1) :
  Calls Tryz.prog 40 #[.agg #[.int .i64 g.f0, .slice A1 g.f1.length c1, .int .i64 g.f2, .int .i64 g.f3, .bool g.f4], .int .i64 m] w fun e w' => e = .returned (.bool (waitsB m g)) ∧ Below w.heap.size w w' := by
 have hn := hL.len
 have hb0 := below_alloc (Below.refl w.heap.size w) (.cells #[.int .i64 g.f0, .slice A1 g.f1.length c1, .int .i64 g.f2, .int .i64 g.f3, .bool g.f4] 89)
 have b0 := blk_new w (.cells #[.int .i64 g.f0, .slice A1 g.f1.length c1, .int .i64 g.f2, .int .i64 g.f3, .bool g.f4] 89)
 have HL := Aside0.mk (hL.below hb0)
 have HP := Aside0.mk hp
 obtain ⟨W, hW⟩ : ∃ W, W = w.alloc (.cells #[.int .i64 g.f0, .slice A1 g.f1.length c1, .int .i64 g.f2, .int .i64 g.f3, .bool g.f4] 89) := ⟨_, rfl⟩
 rw [← hW] at hb0 b0 HL
 have HW := Aside0.mk hW
 have HX := Aside0.mk hb0
 have B0 := Aside0.mk b0
 clear hW hb0 b0 hL hp
 go_enter Tryz.func40, Tryz.ntmps40
 go_upto_region 1 with fail
 rw [← HW.out]
 go_upto_region 2 with fail
 go_loopw [5] (fun vi wr => ∃ k : Nat, k ≤ g.f1.length ∧ vi = .int .i64 k ∧ Aside0 ((g.f1.take k).all (nodeKnown m) = true) ∧ Aside0 (Below W.heap.size W wr)) (fun vi _ => g.f1.length - (intOf vi).toNat)
 case atStart => exact ⟨0, Nat.zero_le _, rfl, ⟨rfl⟩, ⟨Below.refl _ _⟩⟩
 case round =>
  obtain ⟨k, hk, rfl, HH, HB⟩ := hrel
  have k1 := (blk_cell (blk_below B0.out HB.out) 1).trans rfl
  by_cases hlt : k < g.f1.length
  ·have g1 : decide (k < g.f1.length) = true := decide_eq_true hlt
   have i1 : (k : Int) < g.f1.length := by omega
   obtain ⟨ad, A3_, c3_, A4_, c4_, A5_, c5_, A6_, c6_, A7_, c7_, A8_, c8_, rfl, y0, y1, y2, y3, y4, y5, y6, y7, y8, y9, j3, j4, j5, j6, j7, j8⟩ := atNode (HL.out.below HB.out) k hlt
   have HS : Aside0 ((g.f1.take (k + 1)).all (nodeKnown m) = ((g.f1.take k).all (nodeKnown m) && nodeKnown m (g.f1.getD k zNode))) := ⟨by rw [take_snoc g.f1 k zNode hlt, List.all_append]; simp⟩
   have hM : g.f1.getD k zNode ∈ g.f1 := by rw [List.getD_eq_getElem?_getD, List.getElem?_eq_getElem hlt]; exact List.getElem_mem hlt
   have HF : Aside0 (nodeKnown m (g.f1.getD k zNode) = false → waitsB m g = false) := ⟨fun h => List.all_eq_false.2 ⟨_, hM, by rw [h]; simp⟩⟩
   have HPO := Aside0.mk (HP.out _ hM)
   clear hM
   generalize g.f1.getD k zNode = o at y0 y1 y2 y3 y4 y5 y6 y7 y8 y9 j3 j4 j5 j6 j7 j8 HS HF HPO
   have hba := below_alloc (Below.refl wr.heap.size wr) (.cells #[.int .i64 o.f0, .int .i64 o.f1, .int .i64 o.f2, .slice A3_ o.f3.length c3_, .slice A4_ o.f4.f0.length c4_, .slice A5_ o.f4.f1.length c5_, .slice A6_ o.f5.f0.length c6_, .slice A7_ o.f5.f1.length c7_, .slice A8_ o.f6.length c8_, .int .i64 o.f7] 126)
   have bX := blk_new wr (.cells #[.int .i64 o.f0, .int .i64 o.f1, .int .i64 o.f2, .slice A3_ o.f3.length c3_, .slice A4_ o.f4.f0.length c4_, .slice A5_ o.f4.f1.length c5_, .slice A6_ o.f5.f0.length c6_, .slice A7_ o.f5.f1.length c7_, .slice A8_ o.f6.length c8_, .int .i64 o.f7] 126)
   have HJ3 := Aside0.mk (j3.below hba)
   have HJ4 := Aside0.mk (j4.below hba)
   have HJ5 := Aside0.mk (j5.below hba)
   have HJ6 := Aside0.mk (j6.below hba)
   have HJ7 := Aside0.mk (j7.below hba)
   have HJ8 := Aside0.mk (j8.below hba)
   go_upto_region 5 with fail
   have HBX := Aside0.mk (below_then HB.out HB.out.size hba)
   have BX := Aside0.mk bX
   obtain ⟨NB, hNB⟩ : ∃ NB, NB = wr.heap.size := ⟨_, rfl⟩
   rw [← hNB] at BX ⊢
   generalize wr.alloc (.cells #[.int .i64 o.f0, .int .i64 o.f1, .int .i64 o.f2, .slice A3_ o.f3.length c3_, .slice A4_ o.f4.f0.length c4_, .slice A5_ o.f4.f1.length c5_, .slice A6_ o.f5.f0.length c6_, .slice A7_ o.f5.f1.length c7_, .slice A8_ o.f6.length c8_, .int .i64 o.f7] 126) = Wb at HBX BX HJ3 HJ4 HJ5 HJ6 HJ7 HJ8 ⊢
   clear hba bX hNB y0 y1 y2 y3 y4 y5 y6 y7 y8 y9 j3 j4 j5 j6 j7 j8 k1
   have HC5 : Aside0 (Below Wb.heap.size Wb Wb) := ⟨Below.refl _ _⟩
   have k4 := (blk_cell BX.out 4).trans rfl
   cases q4 : knownL m o.f4.f0
   case' false =>
    have Q4 := Aside0.mk q4
    have HE2 : Aside0 (waitsB m g = false) := ⟨HF.out (by unfold nodeKnown parts5; simp only [List.all_cons, List.all_nil]; rw [q4]; simp)⟩
    clear q4
   case' true =>
    have Q4 := Aside0.mk q4
    clear q4
    cases q5 : knownL m o.f4.f1
    case' false =>
     have Q5 := Aside0.mk q5
     have HE2 : Aside0 (waitsB m g = false) := ⟨HF.out (by unfold nodeKnown parts5; simp only [List.all_cons, List.all_nil]; rw [q5]; simp)⟩
     clear q5
    case' true =>
     have Q5 := Aside0.mk q5
     clear q5
     cases q6 : knownL m o.f5.f0
     case' false =>
      have Q6 := Aside0.mk q6
      have HE2 : Aside0 (waitsB m g = false) := ⟨HF.out (by unfold nodeKnown parts5; simp only [List.all_cons, List.all_nil]; rw [q6]; simp)⟩
      clear q6
     case' true =>
      have Q6 := Aside0.mk q6
      clear q6
      cases q7 : knownL m o.f5.f1
      case' false =>
       have Q7 := Aside0.mk q7
       have HE2 : Aside0 (waitsB m g = false) := ⟨HF.out (by unfold nodeKnown parts5; simp only [List.all_cons, List.all_nil]; rw [q7]; simp)⟩
       clear q7
      case' true =>
       have Q7 := Aside0.mk q7
       clear q7
       cases q8 : knownL m o.f6
       case' false =>
        have Q8 := Aside0.mk q8
        have HE2 : Aside0 (waitsB m g = false) := ⟨HF.out (by unfold nodeKnown parts5; simp only [List.all_cons, List.all_nil]; rw [q8]; simp)⟩
        clear q8
       case' true =>
        have Q8 := Aside0.mk q8
        clear q8
        have HE2 : Aside0 ((g.f1.take (k + 1)).all (nodeKnown m) = true) := ⟨by rw [HS.out, HH.out]; unfold nodeKnown parts5; simp only [List.all_cons, List.all_nil]; rw [Q4.out, Q5.out, Q6.out, Q7.out, Q8.out]; rfl⟩
        go_wp2_with (first
         | (go_at_call 73; refine (l9Known_any A8_ c8_ o.f6 m _ (HPO.out _ (by unfold parts5; simp)) (HJ8.out.below HCw13.out)).mono ?_; rintro e w14 ⟨rfl, hb⟩; rw [Q8.out]; have HCw14 := Aside0.mk (below_then HCw13.out HCw13.out.size hb); clear hb)
         | (go_at_call 73; refine (l9Known_any A7_ c7_ o.f5.f1 m _ (HPO.out _ (by unfold parts5; simp)) (HJ7.out.below HCw12.out)).mono ?_; rintro e w13 ⟨rfl, hb⟩; rw [Q7.out]; have HCw13 := Aside0.mk (below_then HCw12.out HCw12.out.size hb); clear hb; have kk8 := (blk_cell (blk_below BX.out HCw13.out) 8).trans rfl)
         | (go_at_call 73; refine (l9Known_any A6_ c6_ o.f5.f0 m _ (HPO.out _ (by unfold parts5; simp)) (HJ6.out.below HCw11.out)).mono ?_; rintro e w12 ⟨rfl, hb⟩; rw [Q6.out]; have HCw12 := Aside0.mk (below_then HCw11.out HCw11.out.size hb); clear hb; have kk7 := (blk_cell (blk_below BX.out HCw12.out) 7).trans rfl)
         | (go_at_call 73; refine (l9Known_any A5_ c5_ o.f4.f1 m _ (HPO.out _ (by unfold parts5; simp)) (HJ5.out.below HCw10.out)).mono ?_; rintro e w11 ⟨rfl, hb⟩; rw [Q5.out]; have HCw11 := Aside0.mk (below_then HCw10.out HCw10.out.size hb); clear hb; have kk6 := (blk_cell (blk_below BX.out HCw11.out) 6).trans rfl)
         | (go_at_call 73; refine (l9Known_any A4_ c4_ o.f4.f0 m _ (HPO.out _ (by unfold parts5; simp)) (HJ4.out.below HC5.out)).mono ?_; rintro e w10 ⟨rfl, hb⟩; rw [Q4.out]; have HCw10 := Aside0.mk (below_then HC5.out HC5.out.size hb); clear hb; have kk5 := (blk_cell (blk_below BX.out HCw10.out) 5).trans rfl))
        go_roundw
        case rel => exact ⟨k + 1, by omega, by go_num, HE2, ⟨below_then HBX.out HBX.out.size HCw14.out⟩⟩
        case measure => simp [intOf]; omega
   all_goals
    go_wp2_with (first
     | (go_at_call 73; refine (l9Known_any A8_ c8_ o.f6 m _ (HPO.out _ (by unfold parts5; simp)) (HJ8.out.below HCw13.out)).mono ?_; rintro e w14 ⟨rfl, hb⟩; rw [Q8.out]; have HCw14 := Aside0.mk (below_then HCw13.out HCw13.out.size hb); clear hb)
     | (go_at_call 73; refine (l9Known_any A7_ c7_ o.f5.f1 m _ (HPO.out _ (by unfold parts5; simp)) (HJ7.out.below HCw12.out)).mono ?_; rintro e w13 ⟨rfl, hb⟩; rw [Q7.out]; have HCw13 := Aside0.mk (below_then HCw12.out HCw12.out.size hb); clear hb; have kk8 := (blk_cell (blk_below BX.out HCw13.out) 8).trans rfl)
     | (go_at_call 73; refine (l9Known_any A6_ c6_ o.f5.f0 m _ (HPO.out _ (by unfold parts5; simp)) (HJ6.out.below HCw11.out)).mono ?_; rintro e w12 ⟨rfl, hb⟩; rw [Q6.out]; have HCw12 := Aside0.mk (below_then HCw11.out HCw11.out.size hb); clear hb; have kk7 := (blk_cell (blk_below BX.out HCw12.out) 7).trans rfl)
     | (go_at_call 73; refine (l9Known_any A5_ c5_ o.f4.f1 m _ (HPO.out _ (by unfold parts5; simp)) (HJ5.out.below HCw10.out)).mono ?_; rintro e w11 ⟨rfl, hb⟩; rw [Q5.out]; have HCw11 := Aside0.mk (below_then HCw10.out HCw10.out.size hb); clear hb; have kk6 := (blk_cell (blk_below BX.out HCw11.out) 6).trans rfl)
     | (go_at_call 73; refine (l9Known_any A4_ c4_ o.f4.f0 m _ (HPO.out _ (by unfold parts5; simp)) (HJ4.out.below HC5.out)).mono ?_; rintro e w10 ⟨rfl, hb⟩; rw [Q4.out]; have HCw10 := Aside0.mk (below_then HC5.out HC5.out.size hb); clear hb; have kk5 := (blk_cell (blk_below BX.out HCw10.out) 5).trans rfl))
    go_ret
    first
     | exact ⟨by rw [HE2.out]; rfl, below_then HX.out HX.out.size (below_then HBX.out HBX.out.size HCw14.out)⟩
     | exact ⟨by rw [HE2.out]; rfl, below_then HX.out HX.out.size (below_then HBX.out HBX.out.size HCw13.out)⟩
     | exact ⟨by rw [HE2.out]; rfl, below_then HX.out HX.out.size (below_then HBX.out HBX.out.size HCw12.out)⟩
     | exact ⟨by rw [HE2.out]; rfl, below_then HX.out HX.out.size (below_then HBX.out HBX.out.size HCw11.out)⟩
     | exact ⟨by rw [HE2.out]; rfl, below_then HX.out HX.out.size (below_then HBX.out HBX.out.size HCw10.out)⟩
  ·have hke : k = g.f1.length := by omega
   subst hke
   have g1 : decide (g.f1.length < g.f1.length) = false := decide_eq_false (by omega)
   have HE2 : Aside0 (waitsB m g = true) := ⟨by have h := HH.out; rwa [List.take_length] at h⟩
   go_wp2
   go_ret
   exact ⟨by rw [HE2.out]; rfl, below_then HX.out HX.out.size HB.out⟩
end Go.Proofs.YtckblabkapeigaaGreat.Pd9
