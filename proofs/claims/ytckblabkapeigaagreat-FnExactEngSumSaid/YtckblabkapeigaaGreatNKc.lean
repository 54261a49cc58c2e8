
/- Comparisons of what is equal, of the program's struct types: the laws' own functions. Printed by genTy.py. -/
import Derived.Test.YtckblabkapeigaaGreatNKb
import Derived.Test.YtckblabkapeigaaGreatNJe
set_option linter.unusedVariables false
set_option linter.unusedSimpArgs false
namespace Go.Proofs.YtckblabkapeigaaGreat.Kc
open Go.RowKit Go.Proofs.YtckblabkapeigaaGreatW.PrintWords Go.Proofs.YtckblabkapeigaaGreat.Ja Go.Proofs.YtckblabkapeigaaGreat.Jb Go.Proofs.YtckblabkapeigaaGreat.Jc Go.Proofs.YtckblabkapeigaaGreat.Jd Go.Proofs.YtckblabkapeigaaGreat.Je Go.Proofs.YtckblabkapeigaaGreat.Ka Go.Proofs.YtckblabkapeigaaGreat.Kb
theorem str_eq (a : ByteArray) : (a == a) = true := by
 cases a with
 | mk d =>
  show ByteArray.instBEq.beq _ _ = true
  unfold ByteArray.instBEq
  simp [ByteArray.beq]
theorem str_ne (a : ByteArray) : (a != a) = false := by rw [bne, str_eq]; rfl
set_option maxRecDepth 100000 in
theorem eqIntS_any (A B : Option Addr) (c c2 : Nat) (a : List Int) (w : World) (ha : IsS (Kd.int .i64) w a A c) (hb : IsS (Kd.int .i64) w a B c2) :
  Calls Tryz.prog 8 #[.slice A a.length c, .slice B a.length c2] w fun e w' => e = .returned (.bool true) ∧ Below w.heap.size w w' := by
 have hn := ha.len
 have hl2 : ((a.length : Int) != (a.length : Int)) = false := by simp
 go_enter Tryz.func8, Tryz.ntmps8
 go_wp2
 go_loopw [5] (fun vi wr => ∃ k : Nat, k ≤ a.length ∧ vi = .int .i64 k ∧ Aside0 (Below w.heap.size w wr)) (fun vi _ => a.length - (intOf vi).toNat)
 case atStart => exact ⟨0, Nat.zero_le _, rfl, ⟨Below.refl _ _⟩⟩
 case round =>
  obtain ⟨k, hk, rfl, HB⟩ := hrel
  by_cases hlt : k < a.length
  ·have g1 : decide (k < a.length) = true := decide_eq_true hlt
   have i1 : (k : Int) < a.length := by omega
   obtain ⟨ad, rfl, hc⟩ := atI (ha.below HB.out) k hlt
   obtain ⟨ad2, rfl, hc2⟩ := atI (hb.below HB.out) k hlt
   generalize a.getD k 0 = x at hc hc2
   have hx : (x != x) = false := by simp
   replace hc := cellE hc
   replace hc2 := cellE hc2
   go_wp2
   refine region_ext (W := wr) (Below.refl _ _) (by kernel_rfl) (by kernel_rfl) ?_
   repeat (first | go_big_quiet_step (fail) | quiet_step (fail))
   refine wpQuiet_nil ?_
   rintro _ ⟨s, rfl⟩
   have HB3 := Aside0.mk (below_then HB.out HB.out.size s.2)
   generalize s.1 = W2 at HB3
   go_wp2
   go_roundw
   case rel => exact ⟨k + 1, by omega, by go_num, HB3⟩
   case measure => simp [intOf]; omega
  ·have hke : k = a.length := by omega
   subst hke
   have g1 : decide (a.length < a.length) = false := decide_eq_false (by omega)
   go_wp2
   go_ret
   exact ⟨rfl, HB.out⟩
set_option maxHeartbeats 4000000 in
set_option maxRecDepth 100000 in
theorem eqOcc_any (x : TOcc) (A2 : Option Addr) (c2 : Nat) (B2 : Option Addr) (d2 : Nat) (w : World) (hA2 : IsS (Kd.int .i64) w x.f2 A2 c2) (hB2 : IsS (Kd.int .i64) w x.f2 B2 d2) :
  Calls Tryz.prog 91 #[.agg #[.int .i64 x.f0, .int .i64 x.f1, .slice A2 x.f2.length c2], .agg #[.int .i64 x.f0, .int .i64 x.f1, .slice B2 x.f2.length d2]] w fun e w' => e = .returned (.bool true) ∧ Below w.heap.size w w' := by
 obtain ⟨hb0, bP, bQ⟩ := boxes2 w #[.int .i64 x.f0, .int .i64 x.f1, .slice A2 x.f2.length c2] #[.int .i64 x.f0, .int .i64 x.f1, .slice B2 x.f2.length d2] 54 54
 have HA2 := Aside0.mk (hA2.below hb0)
 have HB2 := Aside0.mk (hB2.below hb0)
 clear hA2 hB2
 go_enter Tryz.func91, Tryz.ntmps91
 go_upto_region 1 with fail
 generalize (w.alloc (.cells #[.int .i64 x.f0, .int .i64 x.f1, .slice A2 x.f2.length c2] 54)).alloc (.cells #[.int .i64 x.f0, .int .i64 x.f1, .slice B2 x.f2.length d2] 54) = W at hb0 bP bQ HA2 HB2 ⊢
 have HX := Aside0.mk hb0
 clear hb0
 have p0 := (blk_cell bP 0).trans rfl
 have q0 := (blk_cell bQ 0).trans rfl
 have p1 := (blk_cell bP 1).trans rfl
 have q1 := (blk_cell bQ 1).trans rfl
 have p2 := (blk_cell bP 2).trans rfl
 have q2 := (blk_cell bQ 2).trans rfl
 have HC0 : Aside0 (Below W.heap.size W W) := ⟨Below.refl _ _⟩
 have x0 : (x.f0 != x.f0) = false := by simp
 have x1 : (x.f1 != x.f1) = false := by simp
 go_wp2_with (go_at_call 8; refine (eqIntS_any A2 B2 c2 d2 x.f2 _ (HA2.out.below HC0.out) (HB2.out.below HC0.out)).mono ?_; rintro e w1 ⟨rfl, hb1⟩; have p1_0 := pw_cell_below hb1 p0; have q1_0 := pw_cell_below hb1 q0; have p1_1 := pw_cell_below hb1 p1; have q1_1 := pw_cell_below hb1 q1; have p1_2 := pw_cell_below hb1 p2; have q1_2 := pw_cell_below hb1 q2; have HC1 := Aside0.mk (below_then HC0.out HC0.out.size hb1); clear hb1)
 go_ret
 exact ⟨rfl, below_then HX.out HX.out.size HC1.out⟩
set_option maxHeartbeats 4000000 in
set_option maxRecDepth 100000 in
theorem eqOccS_any (A B : Option Addr) (c cb : Nat) (a : List TOcc) (w : World) (ha : IsS kOcc w a A c) (hb : IsS kOcc w a B cb) :
  Calls Tryz.prog 135 #[.slice A a.length c, .slice B a.length cb] w fun e w' => e = .returned (.bool true) ∧ Below w.heap.size w w' := by
 have HA := Aside0.mk ha
 have HBb := Aside0.mk hb
 have hna := ha.len
 have hl2 : ((a.length : Int) != (a.length : Int)) = false := by simp
 clear ha hb
 go_enter Tryz.func135, Tryz.ntmps135
 go_wp2
 go_loopw [5] (fun vi wr => ∃ (k : Nat), k ≤ a.length ∧ vi = .int .i64 k ∧ Aside0 (Below w.heap.size w wr)) (fun vi _ => a.length - (intOf vi).toNat)
 case atStart => exact ⟨0, by omega, rfl, ⟨Below.refl _ _⟩⟩
 case round =>
  obtain ⟨k, hk, rfl, HB⟩ := hrel
  by_cases hlt : k < a.length
  ·have g1 : decide (k < a.length) = true := decide_eq_true hlt
   have k1 : (k : Int) < a.length := by omega
   obtain ⟨ada, A2, c2, eXa, a0_, a1_, a2_, ja2⟩ := atOcc (HA.out.below HB.out) k hlt
   obtain ⟨adb, B2, d2, eXb, b0_, b1_, b2_, jb2⟩ := atOcc (HBb.out.below HB.out) k hlt
   subst eXa eXb
   generalize a.getD k zOcc = x at a0_ b0_ a1_ b1_ a2_ b2_ ja2 jb2
   have HIX2 := Aside0.mk ja2
   have HIY2 := Aside0.mk jb2
   have HF6 : Aside0 (∀ w', Below wr.heap.size wr w' → (fun w' => (w'.cell? (ada.add (k * 3)) = some (.int .i64 x.f0) ∧ w'.cell? ⟨(ada.add (k * 3)).block, (ada.add (k * 3)).off + 1, none⟩ = some (.int .i64 x.f1) ∧ w'.cell? ⟨(ada.add (k * 3)).block, (ada.add (k * 3)).off + 2, none⟩ = some (.slice A2 x.f2.length c2)) ∧ (w'.cell? (adb.add (k * 3)) = some (.int .i64 x.f0) ∧ w'.cell? ⟨(adb.add (k * 3)).block, (adb.add (k * 3)).off + 1, none⟩ = some (.int .i64 x.f1) ∧ w'.cell? ⟨(adb.add (k * 3)).block, (adb.add (k * 3)).off + 2, none⟩ = some (.slice B2 x.f2.length d2))) w') := ⟨fun w' h => ⟨⟨pw_cell_below h a0_, pw_cell_below h a1_, pw_cell_below h a2_⟩, ⟨pw_cell_below h b0_, pw_cell_below h b1_, pw_cell_below h b2_⟩⟩⟩
   have HB0 : Below wr.heap.size wr wr.drew := below_drew (Below.refl _ _)
   clear a0_ b0_ a1_ b1_ a2_ b2_ ja2 jb2
   go_upto_region 6 with fail
   refine Za.regionL (fun w' => (w'.cell? (ada.add (k * 3)) = some (.int .i64 x.f0) ∧ w'.cell? ⟨(ada.add (k * 3)).block, (ada.add (k * 3)).off + 1, none⟩ = some (.int .i64 x.f1) ∧ w'.cell? ⟨(ada.add (k * 3)).block, (ada.add (k * 3)).off + 2, none⟩ = some (.slice A2 x.f2.length c2)) ∧ (w'.cell? (adb.add (k * 3)) = some (.int .i64 x.f0) ∧ w'.cell? ⟨(adb.add (k * 3)).block, (adb.add (k * 3)).off + 1, none⟩ = some (.int .i64 x.f1) ∧ w'.cell? ⟨(adb.add (k * 3)).block, (adb.add (k * 3)).off + 2, none⟩ = some (.slice B2 x.f2.length d2))) [] (by kernel_rfl) ?_
   have HS : (fun w' => (w'.cell? (ada.add (k * 3)) = some (.int .i64 x.f0) ∧ w'.cell? ⟨(ada.add (k * 3)).block, (ada.add (k * 3)).off + 1, none⟩ = some (.int .i64 x.f1) ∧ w'.cell? ⟨(ada.add (k * 3)).block, (ada.add (k * 3)).off + 2, none⟩ = some (.slice A2 x.f2.length c2)) ∧ (w'.cell? (adb.add (k * 3)) = some (.int .i64 x.f0) ∧ w'.cell? ⟨(adb.add (k * 3)).block, (adb.add (k * 3)).off + 1, none⟩ = some (.int .i64 x.f1) ∧ w'.cell? ⟨(adb.add (k * 3)).block, (adb.add (k * 3)).off + 2, none⟩ = some (.slice B2 x.f2.length d2))) wr.drew := HF6.out _ HB0
   refine Za.takeL 0 (v := ?va0) rfl (by kernel_rfl) (by kernel_rfl) (by kernel_rfl) (by kernel_rfl) (fun _ _ _ h => h) (Or.inl ⟨by rfl, ?hya0⟩) HS ?resta0
   case hya0 => (intro w hSw; (try dsimp only at hSw); go_simp; try with_reducible rfl)
   (try simp only [Act.put, List.setIfInBounds_toArray, List.set_cons_zero, List.set_cons_succ])
   refine Za.takeL 1 (v := ?va1) rfl (by kernel_rfl) (by kernel_rfl) (by kernel_rfl) (by kernel_rfl) (fun _ _ _ h => h) (Or.inl ⟨by rfl, ?hya1⟩) HS ?resta1
   case hya1 => (intro w hSw; (try dsimp only at hSw); go_simp; try with_reducible rfl)
   (try simp only [Act.put, List.setIfInBounds_toArray, List.set_cons_zero, List.set_cons_succ])
   refine Za.takeL 2 (v := ?va2) rfl (by kernel_rfl) (by kernel_rfl) (by kernel_rfl) (by kernel_rfl) (fun _ _ _ h => h) (Or.inl ⟨by rfl, ?hya2⟩) HS ?resta2
   case hya2 => (intro w hSw; (try dsimp only at hSw); go_simp; try with_reducible rfl)
   (try simp only [Act.put, List.setIfInBounds_toArray, List.set_cons_zero, List.set_cons_succ])
   refine Za.takeL 3 (v := ?va3) rfl (by kernel_rfl) (by kernel_rfl) (by kernel_rfl) (by kernel_rfl) (fun _ _ _ h => h) (Or.inl ⟨by rfl, ?hya3⟩) HS ?resta3
   case hya3 => (intro w hSw; (try dsimp only at hSw); go_simp; try with_reducible rfl)
   (try simp only [Act.put, List.setIfInBounds_toArray, List.set_cons_zero, List.set_cons_succ])
   refine Za.takeL 4 (v := ?va4) rfl (by kernel_rfl) (by kernel_rfl) (by kernel_rfl) (by kernel_rfl) (fun _ _ _ h => h) (Or.inl ⟨by rfl, ?hya4⟩) HS ?resta4
   case hya4 => (intro w hSw; (try dsimp only at hSw); go_simp; try with_reducible rfl)
   (try simp only [Act.put, List.setIfInBounds_toArray, List.set_cons_zero, List.set_cons_succ])
   refine Za.takeL 5 (v := ?va5) rfl (by kernel_rfl) (by kernel_rfl) (by kernel_rfl) (by kernel_rfl) (fun _ _ _ h => h) (Or.inl ⟨by rfl, ?hya5⟩) HS ?resta5
   case hya5 => (intro w hSw; (try dsimp only at hSw); go_simp; try with_reducible rfl)
   (try simp only [Act.put, List.setIfInBounds_toArray, List.set_cons_zero, List.set_cons_succ])
   refine Za.takeL 6 (v := ?va6) rfl (by kernel_rfl) (by kernel_rfl) (by kernel_rfl) (by kernel_rfl) (fun _ _ _ h => h) (Or.inl ⟨by rfl, ?hya6⟩) HS ?resta6
   case hya6 => (intro w hSw; (try dsimp only at hSw); go_simp; try with_reducible rfl)
   (try simp only [Act.put, List.setIfInBounds_toArray, List.set_cons_zero, List.set_cons_succ])
   refine Za.takeL 7 (v := ?va7) rfl (by kernel_rfl) (by kernel_rfl) (by kernel_rfl) (by kernel_rfl) (fun _ _ _ h => h) (Or.inl ⟨by rfl, ?hya7⟩) HS ?resta7
   case hya7 => (intro w hSw; (try dsimp only at hSw); go_simp; try with_reducible rfl)
   (try simp only [Act.put, List.setIfInBounds_toArray, List.set_cons_zero, List.set_cons_succ])
   clear HS
   refine Za.nextL 8 (by kernel_rfl) rfl (fun K' hK => ?_)
   go_simp
   (go_at_call 91; refine (eqOcc_any x A2 c2 B2 d2 _ (HIX2.out.below HB0) (HIY2.out.below HB0)).mono ?_; rintro e w4 ⟨rfl, hb4⟩; have HB4 : Below wr.heap.size wr w4 := keepD hb4; have HB5 := Aside0.mk HB4; clear hb4)
   go_wp2_with fail
   refine hK.out _ _ ⟨fun _ => HF6.out _ HB4, ?_⟩
   clear hK K'
   (try simp only [Act.put, List.setIfInBounds_toArray, List.set_cons_zero, List.set_cons_succ])
   have HS : (fun w' => (w'.cell? (ada.add (k * 3)) = some (.int .i64 x.f0) ∧ w'.cell? ⟨(ada.add (k * 3)).block, (ada.add (k * 3)).off + 1, none⟩ = some (.int .i64 x.f1) ∧ w'.cell? ⟨(ada.add (k * 3)).block, (ada.add (k * 3)).off + 2, none⟩ = some (.slice A2 x.f2.length c2)) ∧ (w'.cell? (adb.add (k * 3)) = some (.int .i64 x.f0) ∧ w'.cell? ⟨(adb.add (k * 3)).block, (adb.add (k * 3)).off + 1, none⟩ = some (.int .i64 x.f1) ∧ w'.cell? ⟨(adb.add (k * 3)).block, (adb.add (k * 3)).off + 2, none⟩ = some (.slice B2 x.f2.length d2))) w4 := HF6.out _ HB4
   refine Za.takeL 9 (v := ?va9) rfl (by kernel_rfl) (by kernel_rfl) (by kernel_rfl) (by kernel_rfl) (fun _ _ _ h => h) (Or.inl ⟨by rfl, ?hya9⟩) HS ?resta9
   case hya9 => (intro w hSw; (try dsimp only at hSw); go_simp; try with_reducible rfl)
   (try simp only [Act.put, List.setIfInBounds_toArray, List.set_cons_zero, List.set_cons_succ])
   refine Za.Walk.done (by kernel_rfl) ?_
   clear HS
   go_wp2
   go_roundw
   case rel => exact ⟨k + 1, by omega, by go_num, ⟨below_then HB.out HB.out.size HB5.out⟩⟩
   case measure => simp [intOf]; omega
  ·have g1 : decide (k < a.length) = false := decide_eq_false hlt
   go_wp2
   go_ret
   exact ⟨rfl, HB.out⟩
set_option maxHeartbeats 4000000 in
set_option maxRecDepth 100000 in
theorem eqPair_any (x : TPair) (A0 : Option Addr) (c0 : Nat) (A1 : Option Addr) (c1 : Nat) (B0 : Option Addr) (d0 : Nat) (B1 : Option Addr) (d1 : Nat) (w : World) (hA0 : IsS kOcc w x.f0 A0 c0) (hA1 : IsS kOcc w x.f1 A1 c1) (hB0 : IsS kOcc w x.f0 B0 d0) (hB1 : IsS kOcc w x.f1 B1 d1) :
  Calls Tryz.prog 133 #[.agg #[.slice A0 x.f0.length c0, .slice A1 x.f1.length c1], .agg #[.slice B0 x.f0.length d0, .slice B1 x.f1.length d1]] w fun e w' => e = .returned (.bool true) ∧ Below w.heap.size w w' := by
 obtain ⟨hb0, bP, bQ⟩ := boxes2 w #[.slice A0 x.f0.length c0, .slice A1 x.f1.length c1] #[.slice B0 x.f0.length d0, .slice B1 x.f1.length d1] 122 122
 have HA0 := Aside0.mk (hA0.below hb0)
 have HB0 := Aside0.mk (hB0.below hb0)
 have HA1 := Aside0.mk (hA1.below hb0)
 have HB1 := Aside0.mk (hB1.below hb0)
 clear hA0 hB0 hA1 hB1
 go_enter Tryz.func133, Tryz.ntmps133
 go_upto_region 1 with fail
 generalize (w.alloc (.cells #[.slice A0 x.f0.length c0, .slice A1 x.f1.length c1] 122)).alloc (.cells #[.slice B0 x.f0.length d0, .slice B1 x.f1.length d1] 122) = W at hb0 bP bQ HA0 HB0 HA1 HB1 ⊢
 have HX := Aside0.mk hb0
 clear hb0
 have p0 := (blk_cell bP 0).trans rfl
 have q0 := (blk_cell bQ 0).trans rfl
 have p1 := (blk_cell bP 1).trans rfl
 have q1 := (blk_cell bQ 1).trans rfl
 have HC0 : Aside0 (Below W.heap.size W W) := ⟨Below.refl _ _⟩
 go_wp2_with (first | (go_at_call 135; refine (eqOccS_any A1 B1 c1 d1 x.f1 _ (HA1.out.below HC1.out) (HB1.out.below HC1.out)).mono ?_; rintro e w2 ⟨rfl, hb2⟩; have p2_0 := pw_cell_below hb2 p1_0; have q2_0 := pw_cell_below hb2 q1_0; have p2_1 := pw_cell_below hb2 p1_1; have q2_1 := pw_cell_below hb2 q1_1; have HC2 := Aside0.mk (below_then HC1.out HC1.out.size hb2); clear hb2) | (go_at_call 135; refine (eqOccS_any A0 B0 c0 d0 x.f0 _ (HA0.out.below HC0.out) (HB0.out.below HC0.out)).mono ?_; rintro e w1 ⟨rfl, hb1⟩; have p1_0 := pw_cell_below hb1 p0; have q1_0 := pw_cell_below hb1 q0; have p1_1 := pw_cell_below hb1 p1; have q1_1 := pw_cell_below hb1 q1; have HC1 := Aside0.mk (below_then HC0.out HC0.out.size hb1); clear hb1))
 go_ret
 exact ⟨rfl, below_then HX.out HX.out.size HC2.out⟩
set_option maxHeartbeats 4000000 in
set_option maxRecDepth 100000 in
theorem eqSpan_any (x : TSpan) (A0 : Option Addr) (c0 : Nat) (A1 : Option Addr) (c1 : Nat) (B0 : Option Addr) (d0 : Nat) (B1 : Option Addr) (d1 : Nat) (w : World) (hA0 : IsS kOcc w x.f0 A0 c0) (hA1 : IsS kOcc w x.f1 A1 c1) (hB0 : IsS kOcc w x.f0 B0 d0) (hB1 : IsS kOcc w x.f1 B1 d1) :
  Calls Tryz.prog 134 #[.agg #[.slice A0 x.f0.length c0, .slice A1 x.f1.length c1], .agg #[.slice B0 x.f0.length d0, .slice B1 x.f1.length d1]] w fun e w' => e = .returned (.bool true) ∧ Below w.heap.size w w' := by
 obtain ⟨hb0, bP, bQ⟩ := boxes2 w #[.slice A0 x.f0.length c0, .slice A1 x.f1.length c1] #[.slice B0 x.f0.length d0, .slice B1 x.f1.length d1] 124 124
 have HA0 := Aside0.mk (hA0.below hb0)
 have HB0 := Aside0.mk (hB0.below hb0)
 have HA1 := Aside0.mk (hA1.below hb0)
 have HB1 := Aside0.mk (hB1.below hb0)
 clear hA0 hB0 hA1 hB1
 go_enter Tryz.func134, Tryz.ntmps134
 go_upto_region 1 with fail
 generalize (w.alloc (.cells #[.slice A0 x.f0.length c0, .slice A1 x.f1.length c1] 124)).alloc (.cells #[.slice B0 x.f0.length d0, .slice B1 x.f1.length d1] 124) = W at hb0 bP bQ HA0 HB0 HA1 HB1 ⊢
 have HX := Aside0.mk hb0
 clear hb0
 have p0 := (blk_cell bP 0).trans rfl
 have q0 := (blk_cell bQ 0).trans rfl
 have p1 := (blk_cell bP 1).trans rfl
 have q1 := (blk_cell bQ 1).trans rfl
 have HC0 : Aside0 (Below W.heap.size W W) := ⟨Below.refl _ _⟩
 go_wp2_with (first | (go_at_call 135; refine (eqOccS_any A1 B1 c1 d1 x.f1 _ (HA1.out.below HC1.out) (HB1.out.below HC1.out)).mono ?_; rintro e w2 ⟨rfl, hb2⟩; have p2_0 := pw_cell_below hb2 p1_0; have q2_0 := pw_cell_below hb2 q1_0; have p2_1 := pw_cell_below hb2 p1_1; have q2_1 := pw_cell_below hb2 q1_1; have HC2 := Aside0.mk (below_then HC1.out HC1.out.size hb2); clear hb2) | (go_at_call 135; refine (eqOccS_any A0 B0 c0 d0 x.f0 _ (HA0.out.below HC0.out) (HB0.out.below HC0.out)).mono ?_; rintro e w1 ⟨rfl, hb1⟩; have p1_0 := pw_cell_below hb1 p0; have q1_0 := pw_cell_below hb1 q0; have p1_1 := pw_cell_below hb1 p1; have q1_1 := pw_cell_below hb1 q1; have HC1 := Aside0.mk (below_then HC0.out HC0.out.size hb1); clear hb1))
 go_ret
 exact ⟨rfl, below_then HX.out HX.out.size HC2.out⟩
set_option maxHeartbeats 4000000 in
set_option maxRecDepth 100000 in
theorem eqNode_any (x : TNode) (A3 : Option Addr) (c3 : Nat) (A4 : Option Addr) (c4 : Nat) (A5 : Option Addr) (c5 : Nat) (A6 : Option Addr) (c6 : Nat) (A7 : Option Addr) (c7 : Nat) (A8 : Option Addr) (c8 : Nat) (B3 : Option Addr) (d3 : Nat) (B4 : Option Addr) (d4 : Nat) (B5 : Option Addr) (d5 : Nat) (B6 : Option Addr) (d6 : Nat) (B7 : Option Addr) (d7 : Nat) (B8 : Option Addr) (d8 : Nat) (w : World) (hA3 : IsS (Kd.int .i64) w x.f3 A3 c3) (hA4 : IsS kOcc w x.f4.f0 A4 c4) (hA5 : IsS kOcc w x.f4.f1 A5 c5) (hA6 : IsS kOcc w x.f5.f0 A6 c6) (hA7 : IsS kOcc w x.f5.f1 A7 c7) (hA8 : IsS kOcc w x.f6 A8 c8) (hB3 : IsS (Kd.int .i64) w x.f3 B3 d3) (hB4 : IsS kOcc w x.f4.f0 B4 d4) (hB5 : IsS kOcc w x.f4.f1 B5 d5) (hB6 : IsS kOcc w x.f5.f0 B6 d6) (hB7 : IsS kOcc w x.f5.f1 B7 d7) (hB8 : IsS kOcc w x.f6 B8 d8) :
  Calls Tryz.prog 113 #[.agg #[.int .i64 x.f0, .int .i64 x.f1, .int .i64 x.f2, .slice A3 x.f3.length c3, .slice A4 x.f4.f0.length c4, .slice A5 x.f4.f1.length c5, .slice A6 x.f5.f0.length c6, .slice A7 x.f5.f1.length c7, .slice A8 x.f6.length c8, .int .i64 x.f7], .agg #[.int .i64 x.f0, .int .i64 x.f1, .int .i64 x.f2, .slice B3 x.f3.length d3, .slice B4 x.f4.f0.length d4, .slice B5 x.f4.f1.length d5, .slice B6 x.f5.f0.length d6, .slice B7 x.f5.f1.length d7, .slice B8 x.f6.length d8, .int .i64 x.f7]] w fun e w' => e = .returned (.bool true) ∧ Below w.heap.size w w' := by
 obtain ⟨hb0, bP, bQ⟩ := boxes2 w #[.int .i64 x.f0, .int .i64 x.f1, .int .i64 x.f2, .slice A3 x.f3.length c3, .slice A4 x.f4.f0.length c4, .slice A5 x.f4.f1.length c5, .slice A6 x.f5.f0.length c6, .slice A7 x.f5.f1.length c7, .slice A8 x.f6.length c8, .int .i64 x.f7] #[.int .i64 x.f0, .int .i64 x.f1, .int .i64 x.f2, .slice B3 x.f3.length d3, .slice B4 x.f4.f0.length d4, .slice B5 x.f4.f1.length d5, .slice B6 x.f5.f0.length d6, .slice B7 x.f5.f1.length d7, .slice B8 x.f6.length d8, .int .i64 x.f7] 126 126
 have HA3 := Aside0.mk (hA3.below hb0)
 have HB3 := Aside0.mk (hB3.below hb0)
 have HA4 := Aside0.mk (hA4.below hb0)
 have HB4 := Aside0.mk (hB4.below hb0)
 have HA5 := Aside0.mk (hA5.below hb0)
 have HB5 := Aside0.mk (hB5.below hb0)
 have HA6 := Aside0.mk (hA6.below hb0)
 have HB6 := Aside0.mk (hB6.below hb0)
 have HA7 := Aside0.mk (hA7.below hb0)
 have HB7 := Aside0.mk (hB7.below hb0)
 have HA8 := Aside0.mk (hA8.below hb0)
 have HB8 := Aside0.mk (hB8.below hb0)
 clear hA3 hB3 hA4 hB4 hA5 hB5 hA6 hB6 hA7 hB7 hA8 hB8
 go_enter Tryz.func113, Tryz.ntmps113
 go_upto_region 1 with fail
 generalize (w.alloc (.cells #[.int .i64 x.f0, .int .i64 x.f1, .int .i64 x.f2, .slice A3 x.f3.length c3, .slice A4 x.f4.f0.length c4, .slice A5 x.f4.f1.length c5, .slice A6 x.f5.f0.length c6, .slice A7 x.f5.f1.length c7, .slice A8 x.f6.length c8, .int .i64 x.f7] 126)).alloc (.cells #[.int .i64 x.f0, .int .i64 x.f1, .int .i64 x.f2, .slice B3 x.f3.length d3, .slice B4 x.f4.f0.length d4, .slice B5 x.f4.f1.length d5, .slice B6 x.f5.f0.length d6, .slice B7 x.f5.f1.length d7, .slice B8 x.f6.length d8, .int .i64 x.f7] 126) = W at hb0 bP bQ HA3 HB3 HA4 HB4 HA5 HB5 HA6 HB6 HA7 HB7 HA8 HB8 ⊢
 have HX := Aside0.mk hb0
 clear hb0
 have p0 := (blk_cell bP 0).trans rfl
 have q0 := (blk_cell bQ 0).trans rfl
 have p1 := (blk_cell bP 1).trans rfl
 have q1 := (blk_cell bQ 1).trans rfl
 have p2 := (blk_cell bP 2).trans rfl
 have q2 := (blk_cell bQ 2).trans rfl
 have p3 := (blk_cell bP 3).trans rfl
 have q3 := (blk_cell bQ 3).trans rfl
 have p4 := (blk_cell bP 4).trans rfl
 have q4 := (blk_cell bQ 4).trans rfl
 have p5 := (blk_cell bP 5).trans rfl
 have q5 := (blk_cell bQ 5).trans rfl
 have p6 := (blk_cell bP 6).trans rfl
 have q6 := (blk_cell bQ 6).trans rfl
 have p7 := (blk_cell bP 7).trans rfl
 have q7 := (blk_cell bQ 7).trans rfl
 have p8 := (blk_cell bP 8).trans rfl
 have q8 := (blk_cell bQ 8).trans rfl
 have p9 := (blk_cell bP 9).trans rfl
 have q9 := (blk_cell bQ 9).trans rfl
 have HC0 : Aside0 (Below W.heap.size W W) := ⟨Below.refl _ _⟩
 have x0 : (x.f0 != x.f0) = false := by simp
 have x1 : (x.f1 != x.f1) = false := by simp
 have x2 : (x.f2 != x.f2) = false := by simp
 have x7 : (x.f7 != x.f7) = false := by simp
 go_wp2_with (first | (go_at_call 135; refine (eqOccS_any A8 B8 c8 d8 x.f6 _ (HA8.out.below HC3.out) (HB8.out.below HC3.out)).mono ?_; rintro e w4 ⟨rfl, hb4⟩; have p4_0 := pw_cell_below hb4 p3_0; have q4_0 := pw_cell_below hb4 q3_0; have p4_1 := pw_cell_below hb4 p3_1; have q4_1 := pw_cell_below hb4 q3_1; have p4_2 := pw_cell_below hb4 p3_2; have q4_2 := pw_cell_below hb4 q3_2; have p4_3 := pw_cell_below hb4 p3_3; have q4_3 := pw_cell_below hb4 q3_3; have p4_4 := pw_cell_below hb4 p3_4; have q4_4 := pw_cell_below hb4 q3_4; have p4_5 := pw_cell_below hb4 p3_5; have q4_5 := pw_cell_below hb4 q3_5; have p4_6 := pw_cell_below hb4 p3_6; have q4_6 := pw_cell_below hb4 q3_6; have p4_7 := pw_cell_below hb4 p3_7; have q4_7 := pw_cell_below hb4 q3_7; have p4_8 := pw_cell_below hb4 p3_8; have q4_8 := pw_cell_below hb4 q3_8; have p4_9 := pw_cell_below hb4 p3_9; have q4_9 := pw_cell_below hb4 q3_9; have HC4 := Aside0.mk (below_then HC3.out HC3.out.size hb4); clear hb4) | (go_at_call 134; refine (eqSpan_any x.f5 A6 c6 A7 c7 B6 d6 B7 d7 _ (HA6.out.below HC2.out) (HA7.out.below HC2.out) (HB6.out.below HC2.out) (HB7.out.below HC2.out)).mono ?_; rintro e w3 ⟨rfl, hb3⟩; have p3_0 := pw_cell_below hb3 p2_0; have q3_0 := pw_cell_below hb3 q2_0; have p3_1 := pw_cell_below hb3 p2_1; have q3_1 := pw_cell_below hb3 q2_1; have p3_2 := pw_cell_below hb3 p2_2; have q3_2 := pw_cell_below hb3 q2_2; have p3_3 := pw_cell_below hb3 p2_3; have q3_3 := pw_cell_below hb3 q2_3; have p3_4 := pw_cell_below hb3 p2_4; have q3_4 := pw_cell_below hb3 q2_4; have p3_5 := pw_cell_below hb3 p2_5; have q3_5 := pw_cell_below hb3 q2_5; have p3_6 := pw_cell_below hb3 p2_6; have q3_6 := pw_cell_below hb3 q2_6; have p3_7 := pw_cell_below hb3 p2_7; have q3_7 := pw_cell_below hb3 q2_7; have p3_8 := pw_cell_below hb3 p2_8; have q3_8 := pw_cell_below hb3 q2_8; have p3_9 := pw_cell_below hb3 p2_9; have q3_9 := pw_cell_below hb3 q2_9; have HC3 := Aside0.mk (below_then HC2.out HC2.out.size hb3); clear hb3) | (go_at_call 133; refine (eqPair_any x.f4 A4 c4 A5 c5 B4 d4 B5 d5 _ (HA4.out.below HC1.out) (HA5.out.below HC1.out) (HB4.out.below HC1.out) (HB5.out.below HC1.out)).mono ?_; rintro e w2 ⟨rfl, hb2⟩; have p2_0 := pw_cell_below hb2 p1_0; have q2_0 := pw_cell_below hb2 q1_0; have p2_1 := pw_cell_below hb2 p1_1; have q2_1 := pw_cell_below hb2 q1_1; have p2_2 := pw_cell_below hb2 p1_2; have q2_2 := pw_cell_below hb2 q1_2; have p2_3 := pw_cell_below hb2 p1_3; have q2_3 := pw_cell_below hb2 q1_3; have p2_4 := pw_cell_below hb2 p1_4; have q2_4 := pw_cell_below hb2 q1_4; have p2_5 := pw_cell_below hb2 p1_5; have q2_5 := pw_cell_below hb2 q1_5; have p2_6 := pw_cell_below hb2 p1_6; have q2_6 := pw_cell_below hb2 q1_6; have p2_7 := pw_cell_below hb2 p1_7; have q2_7 := pw_cell_below hb2 q1_7; have p2_8 := pw_cell_below hb2 p1_8; have q2_8 := pw_cell_below hb2 q1_8; have p2_9 := pw_cell_below hb2 p1_9; have q2_9 := pw_cell_below hb2 q1_9; have HC2 := Aside0.mk (below_then HC1.out HC1.out.size hb2); clear hb2) | (go_at_call 8; refine (eqIntS_any A3 B3 c3 d3 x.f3 _ (HA3.out.below HC0.out) (HB3.out.below HC0.out)).mono ?_; rintro e w1 ⟨rfl, hb1⟩; have p1_0 := pw_cell_below hb1 p0; have q1_0 := pw_cell_below hb1 q0; have p1_1 := pw_cell_below hb1 p1; have q1_1 := pw_cell_below hb1 q1; have p1_2 := pw_cell_below hb1 p2; have q1_2 := pw_cell_below hb1 q2; have p1_3 := pw_cell_below hb1 p3; have q1_3 := pw_cell_below hb1 q3; have p1_4 := pw_cell_below hb1 p4; have q1_4 := pw_cell_below hb1 q4; have p1_5 := pw_cell_below hb1 p5; have q1_5 := pw_cell_below hb1 q5; have p1_6 := pw_cell_below hb1 p6; have q1_6 := pw_cell_below hb1 q6; have p1_7 := pw_cell_below hb1 p7; have q1_7 := pw_cell_below hb1 q7; have p1_8 := pw_cell_below hb1 p8; have q1_8 := pw_cell_below hb1 q8; have p1_9 := pw_cell_below hb1 p9; have q1_9 := pw_cell_below hb1 q9; have HC1 := Aside0.mk (below_then HC0.out HC0.out.size hb1); clear hb1))
 go_ret
 exact ⟨rfl, below_then HX.out HX.out.size HC4.out⟩
set_option maxHeartbeats 4000000 in
set_option maxRecDepth 100000 in
theorem eqNodeS_any (A B : Option Addr) (c cb : Nat) (a : List TNode) (w : World) (ha : IsS kNode w a A c) (hb : IsS kNode w a B cb) :
  Calls Tryz.prog 90 #[.slice A a.length c, .slice B a.length cb] w fun e w' => e = .returned (.bool true) ∧ Below w.heap.size w w' := by
 have HA := Aside0.mk ha
 have HBb := Aside0.mk hb
 have hna := ha.len
 have hl2 : ((a.length : Int) != (a.length : Int)) = false := by simp
 clear ha hb
 go_enter Tryz.func90, Tryz.ntmps90
 go_wp2
 go_loopw [5] (fun vi wr => ∃ (k : Nat), k ≤ a.length ∧ vi = .int .i64 k ∧ Aside0 (Below w.heap.size w wr)) (fun vi _ => a.length - (intOf vi).toNat)
 case atStart => exact ⟨0, by omega, rfl, ⟨Below.refl _ _⟩⟩
 case round =>
  obtain ⟨k, hk, rfl, HB⟩ := hrel
  by_cases hlt : k < a.length
  ·have g1 : decide (k < a.length) = true := decide_eq_true hlt
   have k1 : (k : Int) < a.length := by omega
   obtain ⟨ada, A3, c3, A4, c4, A5, c5, A6, c6, A7, c7, A8, c8, eXa, a0_, a1_, a2_, a3_, a4_, a5_, a6_, a7_, a8_, a9_, ja3, ja4, ja5, ja6, ja7, ja8⟩ := atNode (HA.out.below HB.out) k hlt
   obtain ⟨adb, B3, d3, B4, d4, B5, d5, B6, d6, B7, d7, B8, d8, eXb, b0_, b1_, b2_, b3_, b4_, b5_, b6_, b7_, b8_, b9_, jb3, jb4, jb5, jb6, jb7, jb8⟩ := atNode (HBb.out.below HB.out) k hlt
   subst eXa eXb
   generalize a.getD k zNode = x at a0_ b0_ a1_ b1_ a2_ b2_ a3_ b3_ a4_ b4_ a5_ b5_ a6_ b6_ a7_ b7_ a8_ b8_ a9_ b9_ ja3 jb3 ja4 jb4 ja5 jb5 ja6 jb6 ja7 jb7 ja8 jb8
   have HIX3 := Aside0.mk ja3
   have HIY3 := Aside0.mk jb3
   have HIX4 := Aside0.mk ja4
   have HIY4 := Aside0.mk jb4
   have HIX5 := Aside0.mk ja5
   have HIY5 := Aside0.mk jb5
   have HIX6 := Aside0.mk ja6
   have HIY6 := Aside0.mk jb6
   have HIX7 := Aside0.mk ja7
   have HIY7 := Aside0.mk jb7
   have HIX8 := Aside0.mk ja8
   have HIY8 := Aside0.mk jb8
   have HF6 : Aside0 (∀ w', Below wr.heap.size wr w' → (fun w' => (w'.cell? (ada.add (k * 10)) = some (.int .i64 x.f0) ∧ w'.cell? ⟨(ada.add (k * 10)).block, (ada.add (k * 10)).off + 1, none⟩ = some (.int .i64 x.f1) ∧ w'.cell? ⟨(ada.add (k * 10)).block, (ada.add (k * 10)).off + 2, none⟩ = some (.int .i64 x.f2) ∧ w'.cell? ⟨(ada.add (k * 10)).block, (ada.add (k * 10)).off + 3, none⟩ = some (.slice A3 x.f3.length c3) ∧ w'.cell? ⟨(ada.add (k * 10)).block, (ada.add (k * 10)).off + 4, none⟩ = some (.slice A4 x.f4.f0.length c4) ∧ w'.cell? ⟨(ada.add (k * 10)).block, (ada.add (k * 10)).off + 5, none⟩ = some (.slice A5 x.f4.f1.length c5) ∧ w'.cell? ⟨(ada.add (k * 10)).block, (ada.add (k * 10)).off + 6, none⟩ = some (.slice A6 x.f5.f0.length c6) ∧ w'.cell? ⟨(ada.add (k * 10)).block, (ada.add (k * 10)).off + 7, none⟩ = some (.slice A7 x.f5.f1.length c7) ∧ w'.cell? ⟨(ada.add (k * 10)).block, (ada.add (k * 10)).off + 8, none⟩ = some (.slice A8 x.f6.length c8) ∧ w'.cell? ⟨(ada.add (k * 10)).block, (ada.add (k * 10)).off + 9, none⟩ = some (.int .i64 x.f7)) ∧ (w'.cell? (adb.add (k * 10)) = some (.int .i64 x.f0) ∧ w'.cell? ⟨(adb.add (k * 10)).block, (adb.add (k * 10)).off + 1, none⟩ = some (.int .i64 x.f1) ∧ w'.cell? ⟨(adb.add (k * 10)).block, (adb.add (k * 10)).off + 2, none⟩ = some (.int .i64 x.f2) ∧ w'.cell? ⟨(adb.add (k * 10)).block, (adb.add (k * 10)).off + 3, none⟩ = some (.slice B3 x.f3.length d3) ∧ w'.cell? ⟨(adb.add (k * 10)).block, (adb.add (k * 10)).off + 4, none⟩ = some (.slice B4 x.f4.f0.length d4) ∧ w'.cell? ⟨(adb.add (k * 10)).block, (adb.add (k * 10)).off + 5, none⟩ = some (.slice B5 x.f4.f1.length d5) ∧ w'.cell? ⟨(adb.add (k * 10)).block, (adb.add (k * 10)).off + 6, none⟩ = some (.slice B6 x.f5.f0.length d6) ∧ w'.cell? ⟨(adb.add (k * 10)).block, (adb.add (k * 10)).off + 7, none⟩ = some (.slice B7 x.f5.f1.length d7) ∧ w'.cell? ⟨(adb.add (k * 10)).block, (adb.add (k * 10)).off + 8, none⟩ = some (.slice B8 x.f6.length d8) ∧ w'.cell? ⟨(adb.add (k * 10)).block, (adb.add (k * 10)).off + 9, none⟩ = some (.int .i64 x.f7))) w') := ⟨fun w' h => ⟨⟨pw_cell_below h a0_, pw_cell_below h a1_, pw_cell_below h a2_, pw_cell_below h a3_, pw_cell_below h a4_, pw_cell_below h a5_, pw_cell_below h a6_, pw_cell_below h a7_, pw_cell_below h a8_, pw_cell_below h a9_⟩, ⟨pw_cell_below h b0_, pw_cell_below h b1_, pw_cell_below h b2_, pw_cell_below h b3_, pw_cell_below h b4_, pw_cell_below h b5_, pw_cell_below h b6_, pw_cell_below h b7_, pw_cell_below h b8_, pw_cell_below h b9_⟩⟩⟩
   have HB0 : Below wr.heap.size wr wr.drew := below_drew (Below.refl _ _)
   clear a0_ b0_ a1_ b1_ a2_ b2_ a3_ b3_ a4_ b4_ a5_ b5_ a6_ b6_ a7_ b7_ a8_ b8_ a9_ b9_ ja3 jb3 ja4 jb4 ja5 jb5 ja6 jb6 ja7 jb7 ja8 jb8
   go_upto_region 6 with fail
   refine Za.regionL (fun w' => (w'.cell? (ada.add (k * 10)) = some (.int .i64 x.f0) ∧ w'.cell? ⟨(ada.add (k * 10)).block, (ada.add (k * 10)).off + 1, none⟩ = some (.int .i64 x.f1) ∧ w'.cell? ⟨(ada.add (k * 10)).block, (ada.add (k * 10)).off + 2, none⟩ = some (.int .i64 x.f2) ∧ w'.cell? ⟨(ada.add (k * 10)).block, (ada.add (k * 10)).off + 3, none⟩ = some (.slice A3 x.f3.length c3) ∧ w'.cell? ⟨(ada.add (k * 10)).block, (ada.add (k * 10)).off + 4, none⟩ = some (.slice A4 x.f4.f0.length c4) ∧ w'.cell? ⟨(ada.add (k * 10)).block, (ada.add (k * 10)).off + 5, none⟩ = some (.slice A5 x.f4.f1.length c5) ∧ w'.cell? ⟨(ada.add (k * 10)).block, (ada.add (k * 10)).off + 6, none⟩ = some (.slice A6 x.f5.f0.length c6) ∧ w'.cell? ⟨(ada.add (k * 10)).block, (ada.add (k * 10)).off + 7, none⟩ = some (.slice A7 x.f5.f1.length c7) ∧ w'.cell? ⟨(ada.add (k * 10)).block, (ada.add (k * 10)).off + 8, none⟩ = some (.slice A8 x.f6.length c8) ∧ w'.cell? ⟨(ada.add (k * 10)).block, (ada.add (k * 10)).off + 9, none⟩ = some (.int .i64 x.f7)) ∧ (w'.cell? (adb.add (k * 10)) = some (.int .i64 x.f0) ∧ w'.cell? ⟨(adb.add (k * 10)).block, (adb.add (k * 10)).off + 1, none⟩ = some (.int .i64 x.f1) ∧ w'.cell? ⟨(adb.add (k * 10)).block, (adb.add (k * 10)).off + 2, none⟩ = some (.int .i64 x.f2) ∧ w'.cell? ⟨(adb.add (k * 10)).block, (adb.add (k * 10)).off + 3, none⟩ = some (.slice B3 x.f3.length d3) ∧ w'.cell? ⟨(adb.add (k * 10)).block, (adb.add (k * 10)).off + 4, none⟩ = some (.slice B4 x.f4.f0.length d4) ∧ w'.cell? ⟨(adb.add (k * 10)).block, (adb.add (k * 10)).off + 5, none⟩ = some (.slice B5 x.f4.f1.length d5) ∧ w'.cell? ⟨(adb.add (k * 10)).block, (adb.add (k * 10)).off + 6, none⟩ = some (.slice B6 x.f5.f0.length d6) ∧ w'.cell? ⟨(adb.add (k * 10)).block, (adb.add (k * 10)).off + 7, none⟩ = some (.slice B7 x.f5.f1.length d7) ∧ w'.cell? ⟨(adb.add (k * 10)).block, (adb.add (k * 10)).off + 8, none⟩ = some (.slice B8 x.f6.length d8) ∧ w'.cell? ⟨(adb.add (k * 10)).block, (adb.add (k * 10)).off + 9, none⟩ = some (.int .i64 x.f7))) [] (by kernel_rfl) ?_
   have HS : (fun w' => (w'.cell? (ada.add (k * 10)) = some (.int .i64 x.f0) ∧ w'.cell? ⟨(ada.add (k * 10)).block, (ada.add (k * 10)).off + 1, none⟩ = some (.int .i64 x.f1) ∧ w'.cell? ⟨(ada.add (k * 10)).block, (ada.add (k * 10)).off + 2, none⟩ = some (.int .i64 x.f2) ∧ w'.cell? ⟨(ada.add (k * 10)).block, (ada.add (k * 10)).off + 3, none⟩ = some (.slice A3 x.f3.length c3) ∧ w'.cell? ⟨(ada.add (k * 10)).block, (ada.add (k * 10)).off + 4, none⟩ = some (.slice A4 x.f4.f0.length c4) ∧ w'.cell? ⟨(ada.add (k * 10)).block, (ada.add (k * 10)).off + 5, none⟩ = some (.slice A5 x.f4.f1.length c5) ∧ w'.cell? ⟨(ada.add (k * 10)).block, (ada.add (k * 10)).off + 6, none⟩ = some (.slice A6 x.f5.f0.length c6) ∧ w'.cell? ⟨(ada.add (k * 10)).block, (ada.add (k * 10)).off + 7, none⟩ = some (.slice A7 x.f5.f1.length c7) ∧ w'.cell? ⟨(ada.add (k * 10)).block, (ada.add (k * 10)).off + 8, none⟩ = some (.slice A8 x.f6.length c8) ∧ w'.cell? ⟨(ada.add (k * 10)).block, (ada.add (k * 10)).off + 9, none⟩ = some (.int .i64 x.f7)) ∧ (w'.cell? (adb.add (k * 10)) = some (.int .i64 x.f0) ∧ w'.cell? ⟨(adb.add (k * 10)).block, (adb.add (k * 10)).off + 1, none⟩ = some (.int .i64 x.f1) ∧ w'.cell? ⟨(adb.add (k * 10)).block, (adb.add (k * 10)).off + 2, none⟩ = some (.int .i64 x.f2) ∧ w'.cell? ⟨(adb.add (k * 10)).block, (adb.add (k * 10)).off + 3, none⟩ = some (.slice B3 x.f3.length d3) ∧ w'.cell? ⟨(adb.add (k * 10)).block, (adb.add (k * 10)).off + 4, none⟩ = some (.slice B4 x.f4.f0.length d4) ∧ w'.cell? ⟨(adb.add (k * 10)).block, (adb.add (k * 10)).off + 5, none⟩ = some (.slice B5 x.f4.f1.length d5) ∧ w'.cell? ⟨(adb.add (k * 10)).block, (adb.add (k * 10)).off + 6, none⟩ = some (.slice B6 x.f5.f0.length d6) ∧ w'.cell? ⟨(adb.add (k * 10)).block, (adb.add (k * 10)).off + 7, none⟩ = some (.slice B7 x.f5.f1.length d7) ∧ w'.cell? ⟨(adb.add (k * 10)).block, (adb.add (k * 10)).off + 8, none⟩ = some (.slice B8 x.f6.length d8) ∧ w'.cell? ⟨(adb.add (k * 10)).block, (adb.add (k * 10)).off + 9, none⟩ = some (.int .i64 x.f7))) wr.drew := HF6.out _ HB0
   refine Za.takeL 0 (v := ?va0) rfl (by kernel_rfl) (by kernel_rfl) (by kernel_rfl) (by kernel_rfl) (fun _ _ _ h => h) (Or.inl ⟨by rfl, ?hya0⟩) HS ?resta0
   case hya0 => (intro w hSw; (try dsimp only at hSw); go_simp; try with_reducible rfl)
   (try simp only [Act.put, List.setIfInBounds_toArray, List.set_cons_zero, List.set_cons_succ])
   refine Za.takeL 1 (v := ?va1) rfl (by kernel_rfl) (by kernel_rfl) (by kernel_rfl) (by kernel_rfl) (fun _ _ _ h => h) (Or.inl ⟨by rfl, ?hya1⟩) HS ?resta1
   case hya1 => (intro w hSw; (try dsimp only at hSw); go_simp; try with_reducible rfl)
   (try simp only [Act.put, List.setIfInBounds_toArray, List.set_cons_zero, List.set_cons_succ])
   refine Za.takeL 2 (v := ?va2) rfl (by kernel_rfl) (by kernel_rfl) (by kernel_rfl) (by kernel_rfl) (fun _ _ _ h => h) (Or.inl ⟨by rfl, ?hya2⟩) HS ?resta2
   case hya2 => (intro w hSw; (try dsimp only at hSw); go_simp; try with_reducible rfl)
   (try simp only [Act.put, List.setIfInBounds_toArray, List.set_cons_zero, List.set_cons_succ])
   refine Za.takeL 3 (v := ?va3) rfl (by kernel_rfl) (by kernel_rfl) (by kernel_rfl) (by kernel_rfl) (fun _ _ _ h => h) (Or.inl ⟨by rfl, ?hya3⟩) HS ?resta3
   case hya3 => (intro w hSw; (try dsimp only at hSw); go_simp; try with_reducible rfl)
   (try simp only [Act.put, List.setIfInBounds_toArray, List.set_cons_zero, List.set_cons_succ])
   refine Za.takeL 4 (v := ?va4) rfl (by kernel_rfl) (by kernel_rfl) (by kernel_rfl) (by kernel_rfl) (fun _ _ _ h => h) (Or.inl ⟨by rfl, ?hya4⟩) HS ?resta4
   case hya4 => (intro w hSw; (try dsimp only at hSw); go_simp; try with_reducible rfl)
   (try simp only [Act.put, List.setIfInBounds_toArray, List.set_cons_zero, List.set_cons_succ])
   refine Za.takeL 5 (v := ?va5) rfl (by kernel_rfl) (by kernel_rfl) (by kernel_rfl) (by kernel_rfl) (fun _ _ _ h => h) (Or.inl ⟨by rfl, ?hya5⟩) HS ?resta5
   case hya5 => (intro w hSw; (try dsimp only at hSw); go_simp; try with_reducible rfl)
   (try simp only [Act.put, List.setIfInBounds_toArray, List.set_cons_zero, List.set_cons_succ])
   refine Za.takeL 6 (v := ?va6) rfl (by kernel_rfl) (by kernel_rfl) (by kernel_rfl) (by kernel_rfl) (fun _ _ _ h => h) (Or.inl ⟨by rfl, ?hya6⟩) HS ?resta6
   case hya6 => (intro w hSw; (try dsimp only at hSw); go_simp; try with_reducible rfl)
   (try simp only [Act.put, List.setIfInBounds_toArray, List.set_cons_zero, List.set_cons_succ])
   refine Za.takeL 7 (v := ?va7) rfl (by kernel_rfl) (by kernel_rfl) (by kernel_rfl) (by kernel_rfl) (fun _ _ _ h => h) (Or.inl ⟨by rfl, ?hya7⟩) HS ?resta7
   case hya7 => (intro w hSw; (try dsimp only at hSw); go_simp; try with_reducible rfl)
   (try simp only [Act.put, List.setIfInBounds_toArray, List.set_cons_zero, List.set_cons_succ])
   clear HS
   refine Za.nextL 8 (by kernel_rfl) rfl (fun K' hK => ?_)
   go_simp
   (go_at_call 113; refine (eqNode_any x A3 c3 A4 c4 A5 c5 A6 c6 A7 c7 A8 c8 B3 d3 B4 d4 B5 d5 B6 d6 B7 d7 B8 d8 _ (HIX3.out.below HB0) (HIX4.out.below HB0) (HIX5.out.below HB0) (HIX6.out.below HB0) (HIX7.out.below HB0) (HIX8.out.below HB0) (HIY3.out.below HB0) (HIY4.out.below HB0) (HIY5.out.below HB0) (HIY6.out.below HB0) (HIY7.out.below HB0) (HIY8.out.below HB0)).mono ?_; rintro e w4 ⟨rfl, hb4⟩; have HB4 : Below wr.heap.size wr w4 := keepD hb4; have HB5 := Aside0.mk HB4; clear hb4)
   go_wp2_with fail
   refine hK.out _ _ ⟨fun _ => HF6.out _ HB4, ?_⟩
   clear hK K'
   (try simp only [Act.put, List.setIfInBounds_toArray, List.set_cons_zero, List.set_cons_succ])
   have HS : (fun w' => (w'.cell? (ada.add (k * 10)) = some (.int .i64 x.f0) ∧ w'.cell? ⟨(ada.add (k * 10)).block, (ada.add (k * 10)).off + 1, none⟩ = some (.int .i64 x.f1) ∧ w'.cell? ⟨(ada.add (k * 10)).block, (ada.add (k * 10)).off + 2, none⟩ = some (.int .i64 x.f2) ∧ w'.cell? ⟨(ada.add (k * 10)).block, (ada.add (k * 10)).off + 3, none⟩ = some (.slice A3 x.f3.length c3) ∧ w'.cell? ⟨(ada.add (k * 10)).block, (ada.add (k * 10)).off + 4, none⟩ = some (.slice A4 x.f4.f0.length c4) ∧ w'.cell? ⟨(ada.add (k * 10)).block, (ada.add (k * 10)).off + 5, none⟩ = some (.slice A5 x.f4.f1.length c5) ∧ w'.cell? ⟨(ada.add (k * 10)).block, (ada.add (k * 10)).off + 6, none⟩ = some (.slice A6 x.f5.f0.length c6) ∧ w'.cell? ⟨(ada.add (k * 10)).block, (ada.add (k * 10)).off + 7, none⟩ = some (.slice A7 x.f5.f1.length c7) ∧ w'.cell? ⟨(ada.add (k * 10)).block, (ada.add (k * 10)).off + 8, none⟩ = some (.slice A8 x.f6.length c8) ∧ w'.cell? ⟨(ada.add (k * 10)).block, (ada.add (k * 10)).off + 9, none⟩ = some (.int .i64 x.f7)) ∧ (w'.cell? (adb.add (k * 10)) = some (.int .i64 x.f0) ∧ w'.cell? ⟨(adb.add (k * 10)).block, (adb.add (k * 10)).off + 1, none⟩ = some (.int .i64 x.f1) ∧ w'.cell? ⟨(adb.add (k * 10)).block, (adb.add (k * 10)).off + 2, none⟩ = some (.int .i64 x.f2) ∧ w'.cell? ⟨(adb.add (k * 10)).block, (adb.add (k * 10)).off + 3, none⟩ = some (.slice B3 x.f3.length d3) ∧ w'.cell? ⟨(adb.add (k * 10)).block, (adb.add (k * 10)).off + 4, none⟩ = some (.slice B4 x.f4.f0.length d4) ∧ w'.cell? ⟨(adb.add (k * 10)).block, (adb.add (k * 10)).off + 5, none⟩ = some (.slice B5 x.f4.f1.length d5) ∧ w'.cell? ⟨(adb.add (k * 10)).block, (adb.add (k * 10)).off + 6, none⟩ = some (.slice B6 x.f5.f0.length d6) ∧ w'.cell? ⟨(adb.add (k * 10)).block, (adb.add (k * 10)).off + 7, none⟩ = some (.slice B7 x.f5.f1.length d7) ∧ w'.cell? ⟨(adb.add (k * 10)).block, (adb.add (k * 10)).off + 8, none⟩ = some (.slice B8 x.f6.length d8) ∧ w'.cell? ⟨(adb.add (k * 10)).block, (adb.add (k * 10)).off + 9, none⟩ = some (.int .i64 x.f7))) w4 := HF6.out _ HB4
   refine Za.takeL 9 (v := ?va9) rfl (by kernel_rfl) (by kernel_rfl) (by kernel_rfl) (by kernel_rfl) (fun _ _ _ h => h) (Or.inl ⟨by rfl, ?hya9⟩) HS ?resta9
   case hya9 => (intro w hSw; (try dsimp only at hSw); go_simp; try with_reducible rfl)
   (try simp only [Act.put, List.setIfInBounds_toArray, List.set_cons_zero, List.set_cons_succ])
   refine Za.Walk.done (by kernel_rfl) ?_
   clear HS
   go_wp2
   go_roundw
   case rel => exact ⟨k + 1, by omega, by go_num, ⟨below_then HB.out HB.out.size HB5.out⟩⟩
   case measure => simp [intOf]; omega
  ·have g1 : decide (k < a.length) = false := decide_eq_false hlt
   go_wp2
   go_ret
   exact ⟨rfl, HB.out⟩
set_option maxHeartbeats 4000000 in
set_option maxRecDepth 100000 in
theorem eqGraph_any (x : TGraph) (A1 : Option Addr) (c1 : Nat) (B1 : Option Addr) (d1 : Nat) (w : World) (hA1 : IsS kNode w x.f1 A1 c1) (hB1 : IsS kNode w x.f1 B1 d1) :
  Calls Tryz.prog 60 #[.agg #[.int .i64 x.f0, .slice A1 x.f1.length c1, .int .i64 x.f2, .int .i64 x.f3, .bool x.f4], .agg #[.int .i64 x.f0, .slice B1 x.f1.length d1, .int .i64 x.f2, .int .i64 x.f3, .bool x.f4]] w fun e w' => e = .returned (.bool true) ∧ Below w.heap.size w w' := by
 obtain ⟨hb0, bP, bQ⟩ := boxes2 w #[.int .i64 x.f0, .slice A1 x.f1.length c1, .int .i64 x.f2, .int .i64 x.f3, .bool x.f4] #[.int .i64 x.f0, .slice B1 x.f1.length d1, .int .i64 x.f2, .int .i64 x.f3, .bool x.f4] 89 89
 have HA1 := Aside0.mk (hA1.below hb0)
 have HB1 := Aside0.mk (hB1.below hb0)
 clear hA1 hB1
 go_enter Tryz.func60, Tryz.ntmps60
 go_upto_region 1 with fail
 generalize (w.alloc (.cells #[.int .i64 x.f0, .slice A1 x.f1.length c1, .int .i64 x.f2, .int .i64 x.f3, .bool x.f4] 89)).alloc (.cells #[.int .i64 x.f0, .slice B1 x.f1.length d1, .int .i64 x.f2, .int .i64 x.f3, .bool x.f4] 89) = W at hb0 bP bQ HA1 HB1 ⊢
 have HX := Aside0.mk hb0
 clear hb0
 have p0 := (blk_cell bP 0).trans rfl
 have q0 := (blk_cell bQ 0).trans rfl
 have p1 := (blk_cell bP 1).trans rfl
 have q1 := (blk_cell bQ 1).trans rfl
 have p2 := (blk_cell bP 2).trans rfl
 have q2 := (blk_cell bQ 2).trans rfl
 have p3 := (blk_cell bP 3).trans rfl
 have q3 := (blk_cell bQ 3).trans rfl
 have p4 := (blk_cell bP 4).trans rfl
 have q4 := (blk_cell bQ 4).trans rfl
 have HC0 : Aside0 (Below W.heap.size W W) := ⟨Below.refl _ _⟩
 have x0 : (x.f0 != x.f0) = false := by simp
 have x2 : (x.f2 != x.f2) = false := by simp
 have x3 : (x.f3 != x.f3) = false := by simp
 have x4 : (x.f4 != x.f4) = false := by simp
 go_wp2_with (go_at_call 90; refine (eqNodeS_any A1 B1 c1 d1 x.f1 _ (HA1.out.below HC0.out) (HB1.out.below HC0.out)).mono ?_; rintro e w1 ⟨rfl, hb1⟩; have p1_0 := pw_cell_below hb1 p0; have q1_0 := pw_cell_below hb1 q0; have p1_1 := pw_cell_below hb1 p1; have q1_1 := pw_cell_below hb1 q1; have p1_2 := pw_cell_below hb1 p2; have q1_2 := pw_cell_below hb1 q2; have p1_3 := pw_cell_below hb1 p3; have q1_3 := pw_cell_below hb1 q3; have p1_4 := pw_cell_below hb1 p4; have q1_4 := pw_cell_below hb1 q4; have HC1 := Aside0.mk (below_then HC0.out HC0.out.size hb1); clear hb1)
 go_ret
 exact ⟨rfl, below_then HX.out HX.out.size HC1.out⟩
set_option maxHeartbeats 4000000 in
set_option maxRecDepth 100000 in
theorem eqGraphS_any (A B : Option Addr) (c cb : Nat) (a : List TGraph) (w : World) (ha : IsS kGraph w a A c) (hb : IsS kGraph w a B cb) :
  Calls Tryz.prog 26 #[.slice A a.length c, .slice B a.length cb] w fun e w' => e = .returned (.bool true) ∧ Below w.heap.size w w' := by
 have HA := Aside0.mk ha
 have HBb := Aside0.mk hb
 have hna := ha.len
 have hl2 : ((a.length : Int) != (a.length : Int)) = false := by simp
 clear ha hb
 go_enter Tryz.func26, Tryz.ntmps26
 go_wp2
 go_loopw [5] (fun vi wr => ∃ (k : Nat), k ≤ a.length ∧ vi = .int .i64 k ∧ Aside0 (Below w.heap.size w wr)) (fun vi _ => a.length - (intOf vi).toNat)
 case atStart => exact ⟨0, by omega, rfl, ⟨Below.refl _ _⟩⟩
 case round =>
  obtain ⟨k, hk, rfl, HB⟩ := hrel
  by_cases hlt : k < a.length
  ·have g1 : decide (k < a.length) = true := decide_eq_true hlt
   have k1 : (k : Int) < a.length := by omega
   obtain ⟨ada, A1, c1, eXa, a0_, a1_, a2_, a3_, a4_, ja1⟩ := atGraph (HA.out.below HB.out) k hlt
   obtain ⟨adb, B1, d1, eXb, b0_, b1_, b2_, b3_, b4_, jb1⟩ := atGraph (HBb.out.below HB.out) k hlt
   subst eXa eXb
   generalize a.getD k zGraph = x at a0_ b0_ a1_ b1_ a2_ b2_ a3_ b3_ a4_ b4_ ja1 jb1
   have HIX1 := Aside0.mk ja1
   have HIY1 := Aside0.mk jb1
   have HF6 : Aside0 (∀ w', Below wr.heap.size wr w' → (fun w' => (w'.cell? (ada.add (k * 5)) = some (.int .i64 x.f0) ∧ w'.cell? ⟨(ada.add (k * 5)).block, (ada.add (k * 5)).off + 1, none⟩ = some (.slice A1 x.f1.length c1) ∧ w'.cell? ⟨(ada.add (k * 5)).block, (ada.add (k * 5)).off + 2, none⟩ = some (.int .i64 x.f2) ∧ w'.cell? ⟨(ada.add (k * 5)).block, (ada.add (k * 5)).off + 3, none⟩ = some (.int .i64 x.f3) ∧ w'.cell? ⟨(ada.add (k * 5)).block, (ada.add (k * 5)).off + 4, none⟩ = some (.bool x.f4)) ∧ (w'.cell? (adb.add (k * 5)) = some (.int .i64 x.f0) ∧ w'.cell? ⟨(adb.add (k * 5)).block, (adb.add (k * 5)).off + 1, none⟩ = some (.slice B1 x.f1.length d1) ∧ w'.cell? ⟨(adb.add (k * 5)).block, (adb.add (k * 5)).off + 2, none⟩ = some (.int .i64 x.f2) ∧ w'.cell? ⟨(adb.add (k * 5)).block, (adb.add (k * 5)).off + 3, none⟩ = some (.int .i64 x.f3) ∧ w'.cell? ⟨(adb.add (k * 5)).block, (adb.add (k * 5)).off + 4, none⟩ = some (.bool x.f4))) w') := ⟨fun w' h => ⟨⟨pw_cell_below h a0_, pw_cell_below h a1_, pw_cell_below h a2_, pw_cell_below h a3_, pw_cell_below h a4_⟩, ⟨pw_cell_below h b0_, pw_cell_below h b1_, pw_cell_below h b2_, pw_cell_below h b3_, pw_cell_below h b4_⟩⟩⟩
   have HB0 : Below wr.heap.size wr wr.drew := below_drew (Below.refl _ _)
   clear a0_ b0_ a1_ b1_ a2_ b2_ a3_ b3_ a4_ b4_ ja1 jb1
   go_upto_region 6 with fail
   refine Za.regionL (fun w' => (w'.cell? (ada.add (k * 5)) = some (.int .i64 x.f0) ∧ w'.cell? ⟨(ada.add (k * 5)).block, (ada.add (k * 5)).off + 1, none⟩ = some (.slice A1 x.f1.length c1) ∧ w'.cell? ⟨(ada.add (k * 5)).block, (ada.add (k * 5)).off + 2, none⟩ = some (.int .i64 x.f2) ∧ w'.cell? ⟨(ada.add (k * 5)).block, (ada.add (k * 5)).off + 3, none⟩ = some (.int .i64 x.f3) ∧ w'.cell? ⟨(ada.add (k * 5)).block, (ada.add (k * 5)).off + 4, none⟩ = some (.bool x.f4)) ∧ (w'.cell? (adb.add (k * 5)) = some (.int .i64 x.f0) ∧ w'.cell? ⟨(adb.add (k * 5)).block, (adb.add (k * 5)).off + 1, none⟩ = some (.slice B1 x.f1.length d1) ∧ w'.cell? ⟨(adb.add (k * 5)).block, (adb.add (k * 5)).off + 2, none⟩ = some (.int .i64 x.f2) ∧ w'.cell? ⟨(adb.add (k * 5)).block, (adb.add (k * 5)).off + 3, none⟩ = some (.int .i64 x.f3) ∧ w'.cell? ⟨(adb.add (k * 5)).block, (adb.add (k * 5)).off + 4, none⟩ = some (.bool x.f4))) [] (by kernel_rfl) ?_
   have HS : (fun w' => (w'.cell? (ada.add (k * 5)) = some (.int .i64 x.f0) ∧ w'.cell? ⟨(ada.add (k * 5)).block, (ada.add (k * 5)).off + 1, none⟩ = some (.slice A1 x.f1.length c1) ∧ w'.cell? ⟨(ada.add (k * 5)).block, (ada.add (k * 5)).off + 2, none⟩ = some (.int .i64 x.f2) ∧ w'.cell? ⟨(ada.add (k * 5)).block, (ada.add (k * 5)).off + 3, none⟩ = some (.int .i64 x.f3) ∧ w'.cell? ⟨(ada.add (k * 5)).block, (ada.add (k * 5)).off + 4, none⟩ = some (.bool x.f4)) ∧ (w'.cell? (adb.add (k * 5)) = some (.int .i64 x.f0) ∧ w'.cell? ⟨(adb.add (k * 5)).block, (adb.add (k * 5)).off + 1, none⟩ = some (.slice B1 x.f1.length d1) ∧ w'.cell? ⟨(adb.add (k * 5)).block, (adb.add (k * 5)).off + 2, none⟩ = some (.int .i64 x.f2) ∧ w'.cell? ⟨(adb.add (k * 5)).block, (adb.add (k * 5)).off + 3, none⟩ = some (.int .i64 x.f3) ∧ w'.cell? ⟨(adb.add (k * 5)).block, (adb.add (k * 5)).off + 4, none⟩ = some (.bool x.f4))) wr.drew := HF6.out _ HB0
   refine Za.takeL 0 (v := ?va0) rfl (by kernel_rfl) (by kernel_rfl) (by kernel_rfl) (by kernel_rfl) (fun _ _ _ h => h) (Or.inl ⟨by rfl, ?hya0⟩) HS ?resta0
   case hya0 => (intro w hSw; (try dsimp only at hSw); go_simp; try with_reducible rfl)
   (try simp only [Act.put, List.setIfInBounds_toArray, List.set_cons_zero, List.set_cons_succ])
   refine Za.takeL 1 (v := ?va1) rfl (by kernel_rfl) (by kernel_rfl) (by kernel_rfl) (by kernel_rfl) (fun _ _ _ h => h) (Or.inl ⟨by rfl, ?hya1⟩) HS ?resta1
   case hya1 => (intro w hSw; (try dsimp only at hSw); go_simp; try with_reducible rfl)
   (try simp only [Act.put, List.setIfInBounds_toArray, List.set_cons_zero, List.set_cons_succ])
   refine Za.takeL 2 (v := ?va2) rfl (by kernel_rfl) (by kernel_rfl) (by kernel_rfl) (by kernel_rfl) (fun _ _ _ h => h) (Or.inl ⟨by rfl, ?hya2⟩) HS ?resta2
   case hya2 => (intro w hSw; (try dsimp only at hSw); go_simp; try with_reducible rfl)
   (try simp only [Act.put, List.setIfInBounds_toArray, List.set_cons_zero, List.set_cons_succ])
   refine Za.takeL 3 (v := ?va3) rfl (by kernel_rfl) (by kernel_rfl) (by kernel_rfl) (by kernel_rfl) (fun _ _ _ h => h) (Or.inl ⟨by rfl, ?hya3⟩) HS ?resta3
   case hya3 => (intro w hSw; (try dsimp only at hSw); go_simp; try with_reducible rfl)
   (try simp only [Act.put, List.setIfInBounds_toArray, List.set_cons_zero, List.set_cons_succ])
   refine Za.takeL 4 (v := ?va4) rfl (by kernel_rfl) (by kernel_rfl) (by kernel_rfl) (by kernel_rfl) (fun _ _ _ h => h) (Or.inl ⟨by rfl, ?hya4⟩) HS ?resta4
   case hya4 => (intro w hSw; (try dsimp only at hSw); go_simp; try with_reducible rfl)
   (try simp only [Act.put, List.setIfInBounds_toArray, List.set_cons_zero, List.set_cons_succ])
   refine Za.takeL 5 (v := ?va5) rfl (by kernel_rfl) (by kernel_rfl) (by kernel_rfl) (by kernel_rfl) (fun _ _ _ h => h) (Or.inl ⟨by rfl, ?hya5⟩) HS ?resta5
   case hya5 => (intro w hSw; (try dsimp only at hSw); go_simp; try with_reducible rfl)
   (try simp only [Act.put, List.setIfInBounds_toArray, List.set_cons_zero, List.set_cons_succ])
   refine Za.takeL 6 (v := ?va6) rfl (by kernel_rfl) (by kernel_rfl) (by kernel_rfl) (by kernel_rfl) (fun _ _ _ h => h) (Or.inl ⟨by rfl, ?hya6⟩) HS ?resta6
   case hya6 => (intro w hSw; (try dsimp only at hSw); go_simp; try with_reducible rfl)
   (try simp only [Act.put, List.setIfInBounds_toArray, List.set_cons_zero, List.set_cons_succ])
   refine Za.takeL 7 (v := ?va7) rfl (by kernel_rfl) (by kernel_rfl) (by kernel_rfl) (by kernel_rfl) (fun _ _ _ h => h) (Or.inl ⟨by rfl, ?hya7⟩) HS ?resta7
   case hya7 => (intro w hSw; (try dsimp only at hSw); go_simp; try with_reducible rfl)
   (try simp only [Act.put, List.setIfInBounds_toArray, List.set_cons_zero, List.set_cons_succ])
   clear HS
   refine Za.nextL 8 (by kernel_rfl) rfl (fun K' hK => ?_)
   go_simp
   (go_at_call 60; refine (eqGraph_any x A1 c1 B1 d1 _ (HIX1.out.below HB0) (HIY1.out.below HB0)).mono ?_; rintro e w4 ⟨rfl, hb4⟩; have HB4 : Below wr.heap.size wr w4 := keepD hb4; have HB5 := Aside0.mk HB4; clear hb4)
   go_wp2_with fail
   refine hK.out _ _ ⟨fun _ => HF6.out _ HB4, ?_⟩
   clear hK K'
   (try simp only [Act.put, List.setIfInBounds_toArray, List.set_cons_zero, List.set_cons_succ])
   have HS : (fun w' => (w'.cell? (ada.add (k * 5)) = some (.int .i64 x.f0) ∧ w'.cell? ⟨(ada.add (k * 5)).block, (ada.add (k * 5)).off + 1, none⟩ = some (.slice A1 x.f1.length c1) ∧ w'.cell? ⟨(ada.add (k * 5)).block, (ada.add (k * 5)).off + 2, none⟩ = some (.int .i64 x.f2) ∧ w'.cell? ⟨(ada.add (k * 5)).block, (ada.add (k * 5)).off + 3, none⟩ = some (.int .i64 x.f3) ∧ w'.cell? ⟨(ada.add (k * 5)).block, (ada.add (k * 5)).off + 4, none⟩ = some (.bool x.f4)) ∧ (w'.cell? (adb.add (k * 5)) = some (.int .i64 x.f0) ∧ w'.cell? ⟨(adb.add (k * 5)).block, (adb.add (k * 5)).off + 1, none⟩ = some (.slice B1 x.f1.length d1) ∧ w'.cell? ⟨(adb.add (k * 5)).block, (adb.add (k * 5)).off + 2, none⟩ = some (.int .i64 x.f2) ∧ w'.cell? ⟨(adb.add (k * 5)).block, (adb.add (k * 5)).off + 3, none⟩ = some (.int .i64 x.f3) ∧ w'.cell? ⟨(adb.add (k * 5)).block, (adb.add (k * 5)).off + 4, none⟩ = some (.bool x.f4))) w4 := HF6.out _ HB4
   refine Za.takeL 9 (v := ?va9) rfl (by kernel_rfl) (by kernel_rfl) (by kernel_rfl) (by kernel_rfl) (fun _ _ _ h => h) (Or.inl ⟨by rfl, ?hya9⟩) HS ?resta9
   case hya9 => (intro w hSw; (try dsimp only at hSw); go_simp; try with_reducible rfl)
   (try simp only [Act.put, List.setIfInBounds_toArray, List.set_cons_zero, List.set_cons_succ])
   refine Za.Walk.done (by kernel_rfl) ?_
   clear HS
   go_wp2
   go_roundw
   case rel => exact ⟨k + 1, by omega, by go_num, ⟨below_then HB.out HB.out.size HB5.out⟩⟩
   case measure => simp [intOf]; omega
  ·have g1 : decide (k < a.length) = false := decide_eq_false hlt
   go_wp2
   go_ret
   exact ⟨rfl, HB.out⟩
set_option maxHeartbeats 4000000 in
set_option maxRecDepth 100000 in
theorem eqEv_any (x : TEv)   (w : World)   :
  Calls Tryz.prog 61 #[.agg #[.int .i64 x.f0, .int .i64 x.f1, .int .i64 x.f2], .agg #[.int .i64 x.f0, .int .i64 x.f1, .int .i64 x.f2]] w fun e w' => e = .returned (.bool true) ∧ Below w.heap.size w w' := by
 obtain ⟨hb0, bP, bQ⟩ := boxes2 w #[.int .i64 x.f0, .int .i64 x.f1, .int .i64 x.f2] #[.int .i64 x.f0, .int .i64 x.f1, .int .i64 x.f2] 97 97
 go_enter Tryz.func61, Tryz.ntmps61
 go_upto_region 1 with fail
 generalize (w.alloc (.cells #[.int .i64 x.f0, .int .i64 x.f1, .int .i64 x.f2] 97)).alloc (.cells #[.int .i64 x.f0, .int .i64 x.f1, .int .i64 x.f2] 97) = W at hb0 bP bQ  ⊢
 have HX := Aside0.mk hb0
 clear hb0
 have p0 := (blk_cell bP 0).trans rfl
 have q0 := (blk_cell bQ 0).trans rfl
 have p1 := (blk_cell bP 1).trans rfl
 have q1 := (blk_cell bQ 1).trans rfl
 have p2 := (blk_cell bP 2).trans rfl
 have q2 := (blk_cell bQ 2).trans rfl
 have HC0 : Aside0 (Below W.heap.size W W) := ⟨Below.refl _ _⟩
 have x0 : (x.f0 != x.f0) = false := by simp
 have x1 : (x.f1 != x.f1) = false := by simp
 have x2 : (x.f2 != x.f2) = false := by simp
 go_wp2
 go_ret
 exact ⟨rfl, below_then HX.out HX.out.size HC0.out⟩
set_option maxHeartbeats 4000000 in
set_option maxRecDepth 100000 in
theorem eqEvS_any (A B : Option Addr) (c cb : Nat) (a : List TEv) (w : World) (ha : IsS kEv w a A c) (hb : IsS kEv w a B cb) :
  Calls Tryz.prog 27 #[.slice A a.length c, .slice B a.length cb] w fun e w' => e = .returned (.bool true) ∧ Below w.heap.size w w' := by
 have HA := Aside0.mk ha
 have HBb := Aside0.mk hb
 have hna := ha.len
 have hl2 : ((a.length : Int) != (a.length : Int)) = false := by simp
 clear ha hb
 go_enter Tryz.func27, Tryz.ntmps27
 go_wp2
 go_loopw [5] (fun vi wr => ∃ (k : Nat), k ≤ a.length ∧ vi = .int .i64 k ∧ Aside0 (Below w.heap.size w wr)) (fun vi _ => a.length - (intOf vi).toNat)
 case atStart => exact ⟨0, by omega, rfl, ⟨Below.refl _ _⟩⟩
 case round =>
  obtain ⟨k, hk, rfl, HB⟩ := hrel
  by_cases hlt : k < a.length
  ·have g1 : decide (k < a.length) = true := decide_eq_true hlt
   have k1 : (k : Int) < a.length := by omega
   obtain ⟨ada, eXa, a0_, a1_, a2_⟩ := atEv (HA.out.below HB.out) k hlt
   obtain ⟨adb, eXb, b0_, b1_, b2_⟩ := atEv (HBb.out.below HB.out) k hlt
   subst eXa eXb
   generalize a.getD k zEv = x at a0_ b0_ a1_ b1_ a2_ b2_
   have HF6 : Aside0 (∀ w', Below wr.heap.size wr w' → (fun w' => (w'.cell? (ada.add (k * 3)) = some (.int .i64 x.f0) ∧ w'.cell? ⟨(ada.add (k * 3)).block, (ada.add (k * 3)).off + 1, none⟩ = some (.int .i64 x.f1) ∧ w'.cell? ⟨(ada.add (k * 3)).block, (ada.add (k * 3)).off + 2, none⟩ = some (.int .i64 x.f2)) ∧ (w'.cell? (adb.add (k * 3)) = some (.int .i64 x.f0) ∧ w'.cell? ⟨(adb.add (k * 3)).block, (adb.add (k * 3)).off + 1, none⟩ = some (.int .i64 x.f1) ∧ w'.cell? ⟨(adb.add (k * 3)).block, (adb.add (k * 3)).off + 2, none⟩ = some (.int .i64 x.f2))) w') := ⟨fun w' h => ⟨⟨pw_cell_below h a0_, pw_cell_below h a1_, pw_cell_below h a2_⟩, ⟨pw_cell_below h b0_, pw_cell_below h b1_, pw_cell_below h b2_⟩⟩⟩
   have HB0 : Below wr.heap.size wr wr.drew := below_drew (Below.refl _ _)
   clear a0_ b0_ a1_ b1_ a2_ b2_
   go_upto_region 6 with fail
   refine Za.regionL (fun w' => (w'.cell? (ada.add (k * 3)) = some (.int .i64 x.f0) ∧ w'.cell? ⟨(ada.add (k * 3)).block, (ada.add (k * 3)).off + 1, none⟩ = some (.int .i64 x.f1) ∧ w'.cell? ⟨(ada.add (k * 3)).block, (ada.add (k * 3)).off + 2, none⟩ = some (.int .i64 x.f2)) ∧ (w'.cell? (adb.add (k * 3)) = some (.int .i64 x.f0) ∧ w'.cell? ⟨(adb.add (k * 3)).block, (adb.add (k * 3)).off + 1, none⟩ = some (.int .i64 x.f1) ∧ w'.cell? ⟨(adb.add (k * 3)).block, (adb.add (k * 3)).off + 2, none⟩ = some (.int .i64 x.f2))) [] (by kernel_rfl) ?_
   have HS : (fun w' => (w'.cell? (ada.add (k * 3)) = some (.int .i64 x.f0) ∧ w'.cell? ⟨(ada.add (k * 3)).block, (ada.add (k * 3)).off + 1, none⟩ = some (.int .i64 x.f1) ∧ w'.cell? ⟨(ada.add (k * 3)).block, (ada.add (k * 3)).off + 2, none⟩ = some (.int .i64 x.f2)) ∧ (w'.cell? (adb.add (k * 3)) = some (.int .i64 x.f0) ∧ w'.cell? ⟨(adb.add (k * 3)).block, (adb.add (k * 3)).off + 1, none⟩ = some (.int .i64 x.f1) ∧ w'.cell? ⟨(adb.add (k * 3)).block, (adb.add (k * 3)).off + 2, none⟩ = some (.int .i64 x.f2))) wr.drew := HF6.out _ HB0
   refine Za.takeL 0 (v := ?va0) rfl (by kernel_rfl) (by kernel_rfl) (by kernel_rfl) (by kernel_rfl) (fun _ _ _ h => h) (Or.inl ⟨by rfl, ?hya0⟩) HS ?resta0
   case hya0 => (intro w hSw; (try dsimp only at hSw); go_simp; try with_reducible rfl)
   (try simp only [Act.put, List.setIfInBounds_toArray, List.set_cons_zero, List.set_cons_succ])
   refine Za.takeL 1 (v := ?va1) rfl (by kernel_rfl) (by kernel_rfl) (by kernel_rfl) (by kernel_rfl) (fun _ _ _ h => h) (Or.inl ⟨by rfl, ?hya1⟩) HS ?resta1
   case hya1 => (intro w hSw; (try dsimp only at hSw); go_simp; try with_reducible rfl)
   (try simp only [Act.put, List.setIfInBounds_toArray, List.set_cons_zero, List.set_cons_succ])
   refine Za.takeL 2 (v := ?va2) rfl (by kernel_rfl) (by kernel_rfl) (by kernel_rfl) (by kernel_rfl) (fun _ _ _ h => h) (Or.inl ⟨by rfl, ?hya2⟩) HS ?resta2
   case hya2 => (intro w hSw; (try dsimp only at hSw); go_simp; try with_reducible rfl)
   (try simp only [Act.put, List.setIfInBounds_toArray, List.set_cons_zero, List.set_cons_succ])
   refine Za.takeL 3 (v := ?va3) rfl (by kernel_rfl) (by kernel_rfl) (by kernel_rfl) (by kernel_rfl) (fun _ _ _ h => h) (Or.inl ⟨by rfl, ?hya3⟩) HS ?resta3
   case hya3 => (intro w hSw; (try dsimp only at hSw); go_simp; try with_reducible rfl)
   (try simp only [Act.put, List.setIfInBounds_toArray, List.set_cons_zero, List.set_cons_succ])
   refine Za.takeL 4 (v := ?va4) rfl (by kernel_rfl) (by kernel_rfl) (by kernel_rfl) (by kernel_rfl) (fun _ _ _ h => h) (Or.inl ⟨by rfl, ?hya4⟩) HS ?resta4
   case hya4 => (intro w hSw; (try dsimp only at hSw); go_simp; try with_reducible rfl)
   (try simp only [Act.put, List.setIfInBounds_toArray, List.set_cons_zero, List.set_cons_succ])
   refine Za.takeL 5 (v := ?va5) rfl (by kernel_rfl) (by kernel_rfl) (by kernel_rfl) (by kernel_rfl) (fun _ _ _ h => h) (Or.inl ⟨by rfl, ?hya5⟩) HS ?resta5
   case hya5 => (intro w hSw; (try dsimp only at hSw); go_simp; try with_reducible rfl)
   (try simp only [Act.put, List.setIfInBounds_toArray, List.set_cons_zero, List.set_cons_succ])
   refine Za.takeL 6 (v := ?va6) rfl (by kernel_rfl) (by kernel_rfl) (by kernel_rfl) (by kernel_rfl) (fun _ _ _ h => h) (Or.inl ⟨by rfl, ?hya6⟩) HS ?resta6
   case hya6 => (intro w hSw; (try dsimp only at hSw); go_simp; try with_reducible rfl)
   (try simp only [Act.put, List.setIfInBounds_toArray, List.set_cons_zero, List.set_cons_succ])
   refine Za.takeL 7 (v := ?va7) rfl (by kernel_rfl) (by kernel_rfl) (by kernel_rfl) (by kernel_rfl) (fun _ _ _ h => h) (Or.inl ⟨by rfl, ?hya7⟩) HS ?resta7
   case hya7 => (intro w hSw; (try dsimp only at hSw); go_simp; try with_reducible rfl)
   (try simp only [Act.put, List.setIfInBounds_toArray, List.set_cons_zero, List.set_cons_succ])
   clear HS
   refine Za.nextL 8 (by kernel_rfl) rfl (fun K' hK => ?_)
   go_simp
   (go_at_call 61; refine (eqEv_any x   _  ).mono ?_; rintro e w4 ⟨rfl, hb4⟩; have HB4 : Below wr.heap.size wr w4 := keepD hb4; have HB5 := Aside0.mk HB4; clear hb4)
   go_wp2_with fail
   refine hK.out _ _ ⟨fun _ => HF6.out _ HB4, ?_⟩
   clear hK K'
   (try simp only [Act.put, List.setIfInBounds_toArray, List.set_cons_zero, List.set_cons_succ])
   have HS : (fun w' => (w'.cell? (ada.add (k * 3)) = some (.int .i64 x.f0) ∧ w'.cell? ⟨(ada.add (k * 3)).block, (ada.add (k * 3)).off + 1, none⟩ = some (.int .i64 x.f1) ∧ w'.cell? ⟨(ada.add (k * 3)).block, (ada.add (k * 3)).off + 2, none⟩ = some (.int .i64 x.f2)) ∧ (w'.cell? (adb.add (k * 3)) = some (.int .i64 x.f0) ∧ w'.cell? ⟨(adb.add (k * 3)).block, (adb.add (k * 3)).off + 1, none⟩ = some (.int .i64 x.f1) ∧ w'.cell? ⟨(adb.add (k * 3)).block, (adb.add (k * 3)).off + 2, none⟩ = some (.int .i64 x.f2))) w4 := HF6.out _ HB4
   refine Za.takeL 9 (v := ?va9) rfl (by kernel_rfl) (by kernel_rfl) (by kernel_rfl) (by kernel_rfl) (fun _ _ _ h => h) (Or.inl ⟨by rfl, ?hya9⟩) HS ?resta9
   case hya9 => (intro w hSw; (try dsimp only at hSw); go_simp; try with_reducible rfl)
   (try simp only [Act.put, List.setIfInBounds_toArray, List.set_cons_zero, List.set_cons_succ])
   refine Za.Walk.done (by kernel_rfl) ?_
   clear HS
   go_wp2
   go_roundw
   case rel => exact ⟨k + 1, by omega, by go_num, ⟨below_then HB.out HB.out.size HB5.out⟩⟩
   case measure => simp [intOf]; omega
  ·have g1 : decide (k < a.length) = false := decide_eq_false hlt
   go_wp2
   go_ret
   exact ⟨rfl, HB.out⟩
set_option maxHeartbeats 4000000 in
set_option maxRecDepth 100000 in
theorem eqFire_any (x : TFire) (A3 : Option Addr) (c3 : Nat) (B3 : Option Addr) (d3 : Nat) (w : World) (hA3 : IsS (Kd.int .i64) w x.f1.f2 A3 c3) (hB3 : IsS (Kd.int .i64) w x.f1.f2 B3 d3) :
  Calls Tryz.prog 62 #[.agg #[.int .i64 x.f0, .int .i64 x.f1.f0, .int .i64 x.f1.f1, .slice A3 x.f1.f2.length c3], .agg #[.int .i64 x.f0, .int .i64 x.f1.f0, .int .i64 x.f1.f1, .slice B3 x.f1.f2.length d3]] w fun e w' => e = .returned (.bool true) ∧ Below w.heap.size w w' := by
 obtain ⟨hb0, bP, bQ⟩ := boxes2 w #[.int .i64 x.f0, .int .i64 x.f1.f0, .int .i64 x.f1.f1, .slice A3 x.f1.f2.length c3] #[.int .i64 x.f0, .int .i64 x.f1.f0, .int .i64 x.f1.f1, .slice B3 x.f1.f2.length d3] 56 56
 have HA3 := Aside0.mk (hA3.below hb0)
 have HB3 := Aside0.mk (hB3.below hb0)
 clear hA3 hB3
 go_enter Tryz.func62, Tryz.ntmps62
 go_upto_region 1 with fail
 generalize (w.alloc (.cells #[.int .i64 x.f0, .int .i64 x.f1.f0, .int .i64 x.f1.f1, .slice A3 x.f1.f2.length c3] 56)).alloc (.cells #[.int .i64 x.f0, .int .i64 x.f1.f0, .int .i64 x.f1.f1, .slice B3 x.f1.f2.length d3] 56) = W at hb0 bP bQ HA3 HB3 ⊢
 have HX := Aside0.mk hb0
 clear hb0
 have p0 := (blk_cell bP 0).trans rfl
 have q0 := (blk_cell bQ 0).trans rfl
 have p1 := (blk_cell bP 1).trans rfl
 have q1 := (blk_cell bQ 1).trans rfl
 have p2 := (blk_cell bP 2).trans rfl
 have q2 := (blk_cell bQ 2).trans rfl
 have p3 := (blk_cell bP 3).trans rfl
 have q3 := (blk_cell bQ 3).trans rfl
 have HC0 : Aside0 (Below W.heap.size W W) := ⟨Below.refl _ _⟩
 have x0 : (x.f0 != x.f0) = false := by simp
 go_wp2_with (go_at_call 91; refine (eqOcc_any x.f1 A3 c3 B3 d3 _ (HA3.out.below HC0.out) (HB3.out.below HC0.out)).mono ?_; rintro e w1 ⟨rfl, hb1⟩; have p1_0 := pw_cell_below hb1 p0; have q1_0 := pw_cell_below hb1 q0; have p1_1 := pw_cell_below hb1 p1; have q1_1 := pw_cell_below hb1 q1; have p1_2 := pw_cell_below hb1 p2; have q1_2 := pw_cell_below hb1 q2; have p1_3 := pw_cell_below hb1 p3; have q1_3 := pw_cell_below hb1 q3; have HC1 := Aside0.mk (below_then HC0.out HC0.out.size hb1); clear hb1)
 go_ret
 exact ⟨rfl, below_then HX.out HX.out.size HC1.out⟩
set_option maxHeartbeats 4000000 in
set_option maxRecDepth 100000 in
theorem eqFireS_any (A B : Option Addr) (c cb : Nat) (a : List TFire) (w : World) (ha : IsS kFire w a A c) (hb : IsS kFire w a B cb) :
  Calls Tryz.prog 28 #[.slice A a.length c, .slice B a.length cb] w fun e w' => e = .returned (.bool true) ∧ Below w.heap.size w w' := by
 have HA := Aside0.mk ha
 have HBb := Aside0.mk hb
 have hna := ha.len
 have hl2 : ((a.length : Int) != (a.length : Int)) = false := by simp
 clear ha hb
 go_enter Tryz.func28, Tryz.ntmps28
 go_wp2
 go_loopw [5] (fun vi wr => ∃ (k : Nat), k ≤ a.length ∧ vi = .int .i64 k ∧ Aside0 (Below w.heap.size w wr)) (fun vi _ => a.length - (intOf vi).toNat)
 case atStart => exact ⟨0, by omega, rfl, ⟨Below.refl _ _⟩⟩
 case round =>
  obtain ⟨k, hk, rfl, HB⟩ := hrel
  by_cases hlt : k < a.length
  ·have g1 : decide (k < a.length) = true := decide_eq_true hlt
   have k1 : (k : Int) < a.length := by omega
   obtain ⟨ada, A3, c3, eXa, a0_, a1_, a2_, a3_, ja3⟩ := atFire (HA.out.below HB.out) k hlt
   obtain ⟨adb, B3, d3, eXb, b0_, b1_, b2_, b3_, jb3⟩ := atFire (HBb.out.below HB.out) k hlt
   subst eXa eXb
   generalize a.getD k zFire = x at a0_ b0_ a1_ b1_ a2_ b2_ a3_ b3_ ja3 jb3
   have HIX3 := Aside0.mk ja3
   have HIY3 := Aside0.mk jb3
   have HF6 : Aside0 (∀ w', Below wr.heap.size wr w' → (fun w' => (w'.cell? (ada.add (k * 4)) = some (.int .i64 x.f0) ∧ w'.cell? ⟨(ada.add (k * 4)).block, (ada.add (k * 4)).off + 1, none⟩ = some (.int .i64 x.f1.f0) ∧ w'.cell? ⟨(ada.add (k * 4)).block, (ada.add (k * 4)).off + 2, none⟩ = some (.int .i64 x.f1.f1) ∧ w'.cell? ⟨(ada.add (k * 4)).block, (ada.add (k * 4)).off + 3, none⟩ = some (.slice A3 x.f1.f2.length c3)) ∧ (w'.cell? (adb.add (k * 4)) = some (.int .i64 x.f0) ∧ w'.cell? ⟨(adb.add (k * 4)).block, (adb.add (k * 4)).off + 1, none⟩ = some (.int .i64 x.f1.f0) ∧ w'.cell? ⟨(adb.add (k * 4)).block, (adb.add (k * 4)).off + 2, none⟩ = some (.int .i64 x.f1.f1) ∧ w'.cell? ⟨(adb.add (k * 4)).block, (adb.add (k * 4)).off + 3, none⟩ = some (.slice B3 x.f1.f2.length d3))) w') := ⟨fun w' h => ⟨⟨pw_cell_below h a0_, pw_cell_below h a1_, pw_cell_below h a2_, pw_cell_below h a3_⟩, ⟨pw_cell_below h b0_, pw_cell_below h b1_, pw_cell_below h b2_, pw_cell_below h b3_⟩⟩⟩
   have HB0 : Below wr.heap.size wr wr.drew := below_drew (Below.refl _ _)
   clear a0_ b0_ a1_ b1_ a2_ b2_ a3_ b3_ ja3 jb3
   go_upto_region 6 with fail
   refine Za.regionL (fun w' => (w'.cell? (ada.add (k * 4)) = some (.int .i64 x.f0) ∧ w'.cell? ⟨(ada.add (k * 4)).block, (ada.add (k * 4)).off + 1, none⟩ = some (.int .i64 x.f1.f0) ∧ w'.cell? ⟨(ada.add (k * 4)).block, (ada.add (k * 4)).off + 2, none⟩ = some (.int .i64 x.f1.f1) ∧ w'.cell? ⟨(ada.add (k * 4)).block, (ada.add (k * 4)).off + 3, none⟩ = some (.slice A3 x.f1.f2.length c3)) ∧ (w'.cell? (adb.add (k * 4)) = some (.int .i64 x.f0) ∧ w'.cell? ⟨(adb.add (k * 4)).block, (adb.add (k * 4)).off + 1, none⟩ = some (.int .i64 x.f1.f0) ∧ w'.cell? ⟨(adb.add (k * 4)).block, (adb.add (k * 4)).off + 2, none⟩ = some (.int .i64 x.f1.f1) ∧ w'.cell? ⟨(adb.add (k * 4)).block, (adb.add (k * 4)).off + 3, none⟩ = some (.slice B3 x.f1.f2.length d3))) [] (by kernel_rfl) ?_
   have HS : (fun w' => (w'.cell? (ada.add (k * 4)) = some (.int .i64 x.f0) ∧ w'.cell? ⟨(ada.add (k * 4)).block, (ada.add (k * 4)).off + 1, none⟩ = some (.int .i64 x.f1.f0) ∧ w'.cell? ⟨(ada.add (k * 4)).block, (ada.add (k * 4)).off + 2, none⟩ = some (.int .i64 x.f1.f1) ∧ w'.cell? ⟨(ada.add (k * 4)).block, (ada.add (k * 4)).off + 3, none⟩ = some (.slice A3 x.f1.f2.length c3)) ∧ (w'.cell? (adb.add (k * 4)) = some (.int .i64 x.f0) ∧ w'.cell? ⟨(adb.add (k * 4)).block, (adb.add (k * 4)).off + 1, none⟩ = some (.int .i64 x.f1.f0) ∧ w'.cell? ⟨(adb.add (k * 4)).block, (adb.add (k * 4)).off + 2, none⟩ = some (.int .i64 x.f1.f1) ∧ w'.cell? ⟨(adb.add (k * 4)).block, (adb.add (k * 4)).off + 3, none⟩ = some (.slice B3 x.f1.f2.length d3))) wr.drew := HF6.out _ HB0
   refine Za.takeL 0 (v := ?va0) rfl (by kernel_rfl) (by kernel_rfl) (by kernel_rfl) (by kernel_rfl) (fun _ _ _ h => h) (Or.inl ⟨by rfl, ?hya0⟩) HS ?resta0
   case hya0 => (intro w hSw; (try dsimp only at hSw); go_simp; try with_reducible rfl)
   (try simp only [Act.put, List.setIfInBounds_toArray, List.set_cons_zero, List.set_cons_succ])
   refine Za.takeL 1 (v := ?va1) rfl (by kernel_rfl) (by kernel_rfl) (by kernel_rfl) (by kernel_rfl) (fun _ _ _ h => h) (Or.inl ⟨by rfl, ?hya1⟩) HS ?resta1
   case hya1 => (intro w hSw; (try dsimp only at hSw); go_simp; try with_reducible rfl)
   (try simp only [Act.put, List.setIfInBounds_toArray, List.set_cons_zero, List.set_cons_succ])
   refine Za.takeL 2 (v := ?va2) rfl (by kernel_rfl) (by kernel_rfl) (by kernel_rfl) (by kernel_rfl) (fun _ _ _ h => h) (Or.inl ⟨by rfl, ?hya2⟩) HS ?resta2
   case hya2 => (intro w hSw; (try dsimp only at hSw); go_simp; try with_reducible rfl)
   (try simp only [Act.put, List.setIfInBounds_toArray, List.set_cons_zero, List.set_cons_succ])
   refine Za.takeL 3 (v := ?va3) rfl (by kernel_rfl) (by kernel_rfl) (by kernel_rfl) (by kernel_rfl) (fun _ _ _ h => h) (Or.inl ⟨by rfl, ?hya3⟩) HS ?resta3
   case hya3 => (intro w hSw; (try dsimp only at hSw); go_simp; try with_reducible rfl)
   (try simp only [Act.put, List.setIfInBounds_toArray, List.set_cons_zero, List.set_cons_succ])
   refine Za.takeL 4 (v := ?va4) rfl (by kernel_rfl) (by kernel_rfl) (by kernel_rfl) (by kernel_rfl) (fun _ _ _ h => h) (Or.inl ⟨by rfl, ?hya4⟩) HS ?resta4
   case hya4 => (intro w hSw; (try dsimp only at hSw); go_simp; try with_reducible rfl)
   (try simp only [Act.put, List.setIfInBounds_toArray, List.set_cons_zero, List.set_cons_succ])
   refine Za.takeL 5 (v := ?va5) rfl (by kernel_rfl) (by kernel_rfl) (by kernel_rfl) (by kernel_rfl) (fun _ _ _ h => h) (Or.inl ⟨by rfl, ?hya5⟩) HS ?resta5
   case hya5 => (intro w hSw; (try dsimp only at hSw); go_simp; try with_reducible rfl)
   (try simp only [Act.put, List.setIfInBounds_toArray, List.set_cons_zero, List.set_cons_succ])
   refine Za.takeL 6 (v := ?va6) rfl (by kernel_rfl) (by kernel_rfl) (by kernel_rfl) (by kernel_rfl) (fun _ _ _ h => h) (Or.inl ⟨by rfl, ?hya6⟩) HS ?resta6
   case hya6 => (intro w hSw; (try dsimp only at hSw); go_simp; try with_reducible rfl)
   (try simp only [Act.put, List.setIfInBounds_toArray, List.set_cons_zero, List.set_cons_succ])
   refine Za.takeL 7 (v := ?va7) rfl (by kernel_rfl) (by kernel_rfl) (by kernel_rfl) (by kernel_rfl) (fun _ _ _ h => h) (Or.inl ⟨by rfl, ?hya7⟩) HS ?resta7
   case hya7 => (intro w hSw; (try dsimp only at hSw); go_simp; try with_reducible rfl)
   (try simp only [Act.put, List.setIfInBounds_toArray, List.set_cons_zero, List.set_cons_succ])
   clear HS
   refine Za.nextL 8 (by kernel_rfl) rfl (fun K' hK => ?_)
   go_simp
   (go_at_call 62; refine (eqFire_any x A3 c3 B3 d3 _ (HIX3.out.below HB0) (HIY3.out.below HB0)).mono ?_; rintro e w4 ⟨rfl, hb4⟩; have HB4 : Below wr.heap.size wr w4 := keepD hb4; have HB5 := Aside0.mk HB4; clear hb4)
   go_wp2_with fail
   refine hK.out _ _ ⟨fun _ => HF6.out _ HB4, ?_⟩
   clear hK K'
   (try simp only [Act.put, List.setIfInBounds_toArray, List.set_cons_zero, List.set_cons_succ])
   have HS : (fun w' => (w'.cell? (ada.add (k * 4)) = some (.int .i64 x.f0) ∧ w'.cell? ⟨(ada.add (k * 4)).block, (ada.add (k * 4)).off + 1, none⟩ = some (.int .i64 x.f1.f0) ∧ w'.cell? ⟨(ada.add (k * 4)).block, (ada.add (k * 4)).off + 2, none⟩ = some (.int .i64 x.f1.f1) ∧ w'.cell? ⟨(ada.add (k * 4)).block, (ada.add (k * 4)).off + 3, none⟩ = some (.slice A3 x.f1.f2.length c3)) ∧ (w'.cell? (adb.add (k * 4)) = some (.int .i64 x.f0) ∧ w'.cell? ⟨(adb.add (k * 4)).block, (adb.add (k * 4)).off + 1, none⟩ = some (.int .i64 x.f1.f0) ∧ w'.cell? ⟨(adb.add (k * 4)).block, (adb.add (k * 4)).off + 2, none⟩ = some (.int .i64 x.f1.f1) ∧ w'.cell? ⟨(adb.add (k * 4)).block, (adb.add (k * 4)).off + 3, none⟩ = some (.slice B3 x.f1.f2.length d3))) w4 := HF6.out _ HB4
   refine Za.takeL 9 (v := ?va9) rfl (by kernel_rfl) (by kernel_rfl) (by kernel_rfl) (by kernel_rfl) (fun _ _ _ h => h) (Or.inl ⟨by rfl, ?hya9⟩) HS ?resta9
   case hya9 => (intro w hSw; (try dsimp only at hSw); go_simp; try with_reducible rfl)
   (try simp only [Act.put, List.setIfInBounds_toArray, List.set_cons_zero, List.set_cons_succ])
   refine Za.Walk.done (by kernel_rfl) ?_
   clear HS
   go_wp2
   go_roundw
   case rel => exact ⟨k + 1, by omega, by go_num, ⟨below_then HB.out HB.out.size HB5.out⟩⟩
   case measure => simp [intOf]; omega
  ·have g1 : decide (k < a.length) = false := decide_eq_false hlt
   go_wp2
   go_ret
   exact ⟨rfl, HB.out⟩
set_option maxHeartbeats 4000000 in
set_option maxRecDepth 100000 in
theorem eqRule_any (x : TRule) (A6 : Option Addr) (c6 : Nat) (B6 : Option Addr) (d6 : Nat) (w : World) (hA6 : IsS (kE 50) w x.f3.f3 A6 c6) (hB6 : IsS (kE 50) w x.f3.f3 B6 d6) :
  Calls Tryz.prog 59 #[.agg #[.string x.f0, .int .i64 x.f1, .int .i64 x.f2, .int .i64 x.f3.f0, .int .i64 x.f3.f1, .int .i64 x.f3.f2, .slice A6 x.f3.f3.length c6, .int .i64 x.f4, .int .i64 x.f5, .int .i64 x.f6, .int .i64 x.f7, .int .i64 x.f8], .agg #[.string x.f0, .int .i64 x.f1, .int .i64 x.f2, .int .i64 x.f3.f0, .int .i64 x.f3.f1, .int .i64 x.f3.f2, .slice B6 x.f3.f3.length d6, .int .i64 x.f4, .int .i64 x.f5, .int .i64 x.f6, .int .i64 x.f7, .int .i64 x.f8]] w fun e w' => e = .returned (.bool true) ∧ Below w.heap.size w w' := by
 obtain ⟨hb0, bP, bQ⟩ := boxes2 w #[.string x.f0, .int .i64 x.f1, .int .i64 x.f2, .int .i64 x.f3.f0, .int .i64 x.f3.f1, .int .i64 x.f3.f2, .slice A6 x.f3.f3.length c6, .int .i64 x.f4, .int .i64 x.f5, .int .i64 x.f6, .int .i64 x.f7, .int .i64 x.f8] #[.string x.f0, .int .i64 x.f1, .int .i64 x.f2, .int .i64 x.f3.f0, .int .i64 x.f3.f1, .int .i64 x.f3.f2, .slice B6 x.f3.f3.length d6, .int .i64 x.f4, .int .i64 x.f5, .int .i64 x.f6, .int .i64 x.f7, .int .i64 x.f8] 52 52
 have HA6 := Aside0.mk (hA6.below hb0)
 have HB6 := Aside0.mk (hB6.below hb0)
 clear hA6 hB6
 go_enter Tryz.func59, Tryz.ntmps59
 go_upto_region 1 with fail
 generalize (w.alloc (.cells #[.string x.f0, .int .i64 x.f1, .int .i64 x.f2, .int .i64 x.f3.f0, .int .i64 x.f3.f1, .int .i64 x.f3.f2, .slice A6 x.f3.f3.length c6, .int .i64 x.f4, .int .i64 x.f5, .int .i64 x.f6, .int .i64 x.f7, .int .i64 x.f8] 52)).alloc (.cells #[.string x.f0, .int .i64 x.f1, .int .i64 x.f2, .int .i64 x.f3.f0, .int .i64 x.f3.f1, .int .i64 x.f3.f2, .slice B6 x.f3.f3.length d6, .int .i64 x.f4, .int .i64 x.f5, .int .i64 x.f6, .int .i64 x.f7, .int .i64 x.f8] 52) = W at hb0 bP bQ HA6 HB6 ⊢
 have HX := Aside0.mk hb0
 clear hb0
 have p0 := (blk_cell bP 0).trans rfl
 have q0 := (blk_cell bQ 0).trans rfl
 have p1 := (blk_cell bP 1).trans rfl
 have q1 := (blk_cell bQ 1).trans rfl
 have p2 := (blk_cell bP 2).trans rfl
 have q2 := (blk_cell bQ 2).trans rfl
 have p3 := (blk_cell bP 3).trans rfl
 have q3 := (blk_cell bQ 3).trans rfl
 have p4 := (blk_cell bP 4).trans rfl
 have q4 := (blk_cell bQ 4).trans rfl
 have p5 := (blk_cell bP 5).trans rfl
 have q5 := (blk_cell bQ 5).trans rfl
 have p6 := (blk_cell bP 6).trans rfl
 have q6 := (blk_cell bQ 6).trans rfl
 have p7 := (blk_cell bP 7).trans rfl
 have q7 := (blk_cell bQ 7).trans rfl
 have p8 := (blk_cell bP 8).trans rfl
 have q8 := (blk_cell bQ 8).trans rfl
 have p9 := (blk_cell bP 9).trans rfl
 have q9 := (blk_cell bQ 9).trans rfl
 have p10 := (blk_cell bP 10).trans rfl
 have q10 := (blk_cell bQ 10).trans rfl
 have p11 := (blk_cell bP 11).trans rfl
 have q11 := (blk_cell bQ 11).trans rfl
 have HC0 : Aside0 (Below W.heap.size W W) := ⟨Below.refl _ _⟩
 have x0 : (x.f0 != x.f0) = false := str_ne x.f0
 have x1 : (x.f1 != x.f1) = false := by simp
 have x2 : (x.f2 != x.f2) = false := by simp
 have x4 : (x.f4 != x.f4) = false := by simp
 have x5 : (x.f5 != x.f5) = false := by simp
 have x6 : (x.f6 != x.f6) = false := by simp
 have x7 : (x.f7 != x.f7) = false := by simp
 have x8 : (x.f8 != x.f8) = false := by simp
 go_wp2_with (go_at_call 89; refine (eqEx_any x.f3 A6 B6 c6 d6 _ (HA6.out.below HC0.out) (HB6.out.below HC0.out)).mono ?_; rintro e w1 ⟨rfl, hb1⟩; have p1_0 := pw_cell_below hb1 p0; have q1_0 := pw_cell_below hb1 q0; have p1_1 := pw_cell_below hb1 p1; have q1_1 := pw_cell_below hb1 q1; have p1_2 := pw_cell_below hb1 p2; have q1_2 := pw_cell_below hb1 q2; have p1_3 := pw_cell_below hb1 p3; have q1_3 := pw_cell_below hb1 q3; have p1_4 := pw_cell_below hb1 p4; have q1_4 := pw_cell_below hb1 q4; have p1_5 := pw_cell_below hb1 p5; have q1_5 := pw_cell_below hb1 q5; have p1_6 := pw_cell_below hb1 p6; have q1_6 := pw_cell_below hb1 q6; have p1_7 := pw_cell_below hb1 p7; have q1_7 := pw_cell_below hb1 q7; have p1_8 := pw_cell_below hb1 p8; have q1_8 := pw_cell_below hb1 q8; have p1_9 := pw_cell_below hb1 p9; have q1_9 := pw_cell_below hb1 q9; have p1_10 := pw_cell_below hb1 p10; have q1_10 := pw_cell_below hb1 q10; have p1_11 := pw_cell_below hb1 p11; have q1_11 := pw_cell_below hb1 q11; have HC1 := Aside0.mk (below_then HC0.out HC0.out.size hb1); clear hb1)
 go_ret
 exact ⟨rfl, below_then HX.out HX.out.size HC1.out⟩
set_option maxHeartbeats 4000000 in
set_option maxRecDepth 100000 in
theorem eqRuleS_any (A B : Option Addr) (c cb : Nat) (a : List TRule) (w : World) (ha : IsS kRule w a A c) (hb : IsS kRule w a B cb) :
  Calls Tryz.prog 25 #[.slice A a.length c, .slice B a.length cb] w fun e w' => e = .returned (.bool true) ∧ Below w.heap.size w w' := by
 have HA := Aside0.mk ha
 have HBb := Aside0.mk hb
 have hna := ha.len
 have hl2 : ((a.length : Int) != (a.length : Int)) = false := by simp
 clear ha hb
 go_enter Tryz.func25, Tryz.ntmps25
 go_wp2
 go_loopw [5] (fun vi wr => ∃ (k : Nat), k ≤ a.length ∧ vi = .int .i64 k ∧ Aside0 (Below w.heap.size w wr)) (fun vi _ => a.length - (intOf vi).toNat)
 case atStart => exact ⟨0, by omega, rfl, ⟨Below.refl _ _⟩⟩
 case round =>
  obtain ⟨k, hk, rfl, HB⟩ := hrel
  by_cases hlt : k < a.length
  ·have g1 : decide (k < a.length) = true := decide_eq_true hlt
   have k1 : (k : Int) < a.length := by omega
   obtain ⟨ada, A6, c6, eXa, a0_, a1_, a2_, a3_, a4_, a5_, a6_, a7_, a8_, a9_, a10_, a11_, ja6⟩ := atRule (HA.out.below HB.out) k hlt
   obtain ⟨adb, B6, d6, eXb, b0_, b1_, b2_, b3_, b4_, b5_, b6_, b7_, b8_, b9_, b10_, b11_, jb6⟩ := atRule (HBb.out.below HB.out) k hlt
   subst eXa eXb
   generalize a.getD k zRule = x at a0_ b0_ a1_ b1_ a2_ b2_ a3_ b3_ a4_ b4_ a5_ b5_ a6_ b6_ a7_ b7_ a8_ b8_ a9_ b9_ a10_ b10_ a11_ b11_ ja6 jb6
   have HIX6 := Aside0.mk ja6
   have HIY6 := Aside0.mk jb6
   have HF6 : Aside0 (∀ w', Below wr.heap.size wr w' → (fun w' => (w'.cell? (ada.add (k * 12)) = some (.string x.f0) ∧ w'.cell? ⟨(ada.add (k * 12)).block, (ada.add (k * 12)).off + 1, none⟩ = some (.int .i64 x.f1) ∧ w'.cell? ⟨(ada.add (k * 12)).block, (ada.add (k * 12)).off + 2, none⟩ = some (.int .i64 x.f2) ∧ w'.cell? ⟨(ada.add (k * 12)).block, (ada.add (k * 12)).off + 3, none⟩ = some (.int .i64 x.f3.f0) ∧ w'.cell? ⟨(ada.add (k * 12)).block, (ada.add (k * 12)).off + 4, none⟩ = some (.int .i64 x.f3.f1) ∧ w'.cell? ⟨(ada.add (k * 12)).block, (ada.add (k * 12)).off + 5, none⟩ = some (.int .i64 x.f3.f2) ∧ w'.cell? ⟨(ada.add (k * 12)).block, (ada.add (k * 12)).off + 6, none⟩ = some (.slice A6 x.f3.f3.length c6) ∧ w'.cell? ⟨(ada.add (k * 12)).block, (ada.add (k * 12)).off + 7, none⟩ = some (.int .i64 x.f4) ∧ w'.cell? ⟨(ada.add (k * 12)).block, (ada.add (k * 12)).off + 8, none⟩ = some (.int .i64 x.f5) ∧ w'.cell? ⟨(ada.add (k * 12)).block, (ada.add (k * 12)).off + 9, none⟩ = some (.int .i64 x.f6) ∧ w'.cell? ⟨(ada.add (k * 12)).block, (ada.add (k * 12)).off + 10, none⟩ = some (.int .i64 x.f7) ∧ w'.cell? ⟨(ada.add (k * 12)).block, (ada.add (k * 12)).off + 11, none⟩ = some (.int .i64 x.f8)) ∧ (w'.cell? (adb.add (k * 12)) = some (.string x.f0) ∧ w'.cell? ⟨(adb.add (k * 12)).block, (adb.add (k * 12)).off + 1, none⟩ = some (.int .i64 x.f1) ∧ w'.cell? ⟨(adb.add (k * 12)).block, (adb.add (k * 12)).off + 2, none⟩ = some (.int .i64 x.f2) ∧ w'.cell? ⟨(adb.add (k * 12)).block, (adb.add (k * 12)).off + 3, none⟩ = some (.int .i64 x.f3.f0) ∧ w'.cell? ⟨(adb.add (k * 12)).block, (adb.add (k * 12)).off + 4, none⟩ = some (.int .i64 x.f3.f1) ∧ w'.cell? ⟨(adb.add (k * 12)).block, (adb.add (k * 12)).off + 5, none⟩ = some (.int .i64 x.f3.f2) ∧ w'.cell? ⟨(adb.add (k * 12)).block, (adb.add (k * 12)).off + 6, none⟩ = some (.slice B6 x.f3.f3.length d6) ∧ w'.cell? ⟨(adb.add (k * 12)).block, (adb.add (k * 12)).off + 7, none⟩ = some (.int .i64 x.f4) ∧ w'.cell? ⟨(adb.add (k * 12)).block, (adb.add (k * 12)).off + 8, none⟩ = some (.int .i64 x.f5) ∧ w'.cell? ⟨(adb.add (k * 12)).block, (adb.add (k * 12)).off + 9, none⟩ = some (.int .i64 x.f6) ∧ w'.cell? ⟨(adb.add (k * 12)).block, (adb.add (k * 12)).off + 10, none⟩ = some (.int .i64 x.f7) ∧ w'.cell? ⟨(adb.add (k * 12)).block, (adb.add (k * 12)).off + 11, none⟩ = some (.int .i64 x.f8))) w') := ⟨fun w' h => ⟨⟨pw_cell_below h a0_, pw_cell_below h a1_, pw_cell_below h a2_, pw_cell_below h a3_, pw_cell_below h a4_, pw_cell_below h a5_, pw_cell_below h a6_, pw_cell_below h a7_, pw_cell_below h a8_, pw_cell_below h a9_, pw_cell_below h a10_, pw_cell_below h a11_⟩, ⟨pw_cell_below h b0_, pw_cell_below h b1_, pw_cell_below h b2_, pw_cell_below h b3_, pw_cell_below h b4_, pw_cell_below h b5_, pw_cell_below h b6_, pw_cell_below h b7_, pw_cell_below h b8_, pw_cell_below h b9_, pw_cell_below h b10_, pw_cell_below h b11_⟩⟩⟩
   have HB0 : Below wr.heap.size wr wr.drew := below_drew (Below.refl _ _)
   clear a0_ b0_ a1_ b1_ a2_ b2_ a3_ b3_ a4_ b4_ a5_ b5_ a6_ b6_ a7_ b7_ a8_ b8_ a9_ b9_ a10_ b10_ a11_ b11_ ja6 jb6
   go_upto_region 6 with fail
   refine Za.regionL (fun w' => (w'.cell? (ada.add (k * 12)) = some (.string x.f0) ∧ w'.cell? ⟨(ada.add (k * 12)).block, (ada.add (k * 12)).off + 1, none⟩ = some (.int .i64 x.f1) ∧ w'.cell? ⟨(ada.add (k * 12)).block, (ada.add (k * 12)).off + 2, none⟩ = some (.int .i64 x.f2) ∧ w'.cell? ⟨(ada.add (k * 12)).block, (ada.add (k * 12)).off + 3, none⟩ = some (.int .i64 x.f3.f0) ∧ w'.cell? ⟨(ada.add (k * 12)).block, (ada.add (k * 12)).off + 4, none⟩ = some (.int .i64 x.f3.f1) ∧ w'.cell? ⟨(ada.add (k * 12)).block, (ada.add (k * 12)).off + 5, none⟩ = some (.int .i64 x.f3.f2) ∧ w'.cell? ⟨(ada.add (k * 12)).block, (ada.add (k * 12)).off + 6, none⟩ = some (.slice A6 x.f3.f3.length c6) ∧ w'.cell? ⟨(ada.add (k * 12)).block, (ada.add (k * 12)).off + 7, none⟩ = some (.int .i64 x.f4) ∧ w'.cell? ⟨(ada.add (k * 12)).block, (ada.add (k * 12)).off + 8, none⟩ = some (.int .i64 x.f5) ∧ w'.cell? ⟨(ada.add (k * 12)).block, (ada.add (k * 12)).off + 9, none⟩ = some (.int .i64 x.f6) ∧ w'.cell? ⟨(ada.add (k * 12)).block, (ada.add (k * 12)).off + 10, none⟩ = some (.int .i64 x.f7) ∧ w'.cell? ⟨(ada.add (k * 12)).block, (ada.add (k * 12)).off + 11, none⟩ = some (.int .i64 x.f8)) ∧ (w'.cell? (adb.add (k * 12)) = some (.string x.f0) ∧ w'.cell? ⟨(adb.add (k * 12)).block, (adb.add (k * 12)).off + 1, none⟩ = some (.int .i64 x.f1) ∧ w'.cell? ⟨(adb.add (k * 12)).block, (adb.add (k * 12)).off + 2, none⟩ = some (.int .i64 x.f2) ∧ w'.cell? ⟨(adb.add (k * 12)).block, (adb.add (k * 12)).off + 3, none⟩ = some (.int .i64 x.f3.f0) ∧ w'.cell? ⟨(adb.add (k * 12)).block, (adb.add (k * 12)).off + 4, none⟩ = some (.int .i64 x.f3.f1) ∧ w'.cell? ⟨(adb.add (k * 12)).block, (adb.add (k * 12)).off + 5, none⟩ = some (.int .i64 x.f3.f2) ∧ w'.cell? ⟨(adb.add (k * 12)).block, (adb.add (k * 12)).off + 6, none⟩ = some (.slice B6 x.f3.f3.length d6) ∧ w'.cell? ⟨(adb.add (k * 12)).block, (adb.add (k * 12)).off + 7, none⟩ = some (.int .i64 x.f4) ∧ w'.cell? ⟨(adb.add (k * 12)).block, (adb.add (k * 12)).off + 8, none⟩ = some (.int .i64 x.f5) ∧ w'.cell? ⟨(adb.add (k * 12)).block, (adb.add (k * 12)).off + 9, none⟩ = some (.int .i64 x.f6) ∧ w'.cell? ⟨(adb.add (k * 12)).block, (adb.add (k * 12)).off + 10, none⟩ = some (.int .i64 x.f7) ∧ w'.cell? ⟨(adb.add (k * 12)).block, (adb.add (k * 12)).off + 11, none⟩ = some (.int .i64 x.f8))) [] (by kernel_rfl) ?_
   have HS : (fun w' => (w'.cell? (ada.add (k * 12)) = some (.string x.f0) ∧ w'.cell? ⟨(ada.add (k * 12)).block, (ada.add (k * 12)).off + 1, none⟩ = some (.int .i64 x.f1) ∧ w'.cell? ⟨(ada.add (k * 12)).block, (ada.add (k * 12)).off + 2, none⟩ = some (.int .i64 x.f2) ∧ w'.cell? ⟨(ada.add (k * 12)).block, (ada.add (k * 12)).off + 3, none⟩ = some (.int .i64 x.f3.f0) ∧ w'.cell? ⟨(ada.add (k * 12)).block, (ada.add (k * 12)).off + 4, none⟩ = some (.int .i64 x.f3.f1) ∧ w'.cell? ⟨(ada.add (k * 12)).block, (ada.add (k * 12)).off + 5, none⟩ = some (.int .i64 x.f3.f2) ∧ w'.cell? ⟨(ada.add (k * 12)).block, (ada.add (k * 12)).off + 6, none⟩ = some (.slice A6 x.f3.f3.length c6) ∧ w'.cell? ⟨(ada.add (k * 12)).block, (ada.add (k * 12)).off + 7, none⟩ = some (.int .i64 x.f4) ∧ w'.cell? ⟨(ada.add (k * 12)).block, (ada.add (k * 12)).off + 8, none⟩ = some (.int .i64 x.f5) ∧ w'.cell? ⟨(ada.add (k * 12)).block, (ada.add (k * 12)).off + 9, none⟩ = some (.int .i64 x.f6) ∧ w'.cell? ⟨(ada.add (k * 12)).block, (ada.add (k * 12)).off + 10, none⟩ = some (.int .i64 x.f7) ∧ w'.cell? ⟨(ada.add (k * 12)).block, (ada.add (k * 12)).off + 11, none⟩ = some (.int .i64 x.f8)) ∧ (w'.cell? (adb.add (k * 12)) = some (.string x.f0) ∧ w'.cell? ⟨(adb.add (k * 12)).block, (adb.add (k * 12)).off + 1, none⟩ = some (.int .i64 x.f1) ∧ w'.cell? ⟨(adb.add (k * 12)).block, (adb.add (k * 12)).off + 2, none⟩ = some (.int .i64 x.f2) ∧ w'.cell? ⟨(adb.add (k * 12)).block, (adb.add (k * 12)).off + 3, none⟩ = some (.int .i64 x.f3.f0) ∧ w'.cell? ⟨(adb.add (k * 12)).block, (adb.add (k * 12)).off + 4, none⟩ = some (.int .i64 x.f3.f1) ∧ w'.cell? ⟨(adb.add (k * 12)).block, (adb.add (k * 12)).off + 5, none⟩ = some (.int .i64 x.f3.f2) ∧ w'.cell? ⟨(adb.add (k * 12)).block, (adb.add (k * 12)).off + 6, none⟩ = some (.slice B6 x.f3.f3.length d6) ∧ w'.cell? ⟨(adb.add (k * 12)).block, (adb.add (k * 12)).off + 7, none⟩ = some (.int .i64 x.f4) ∧ w'.cell? ⟨(adb.add (k * 12)).block, (adb.add (k * 12)).off + 8, none⟩ = some (.int .i64 x.f5) ∧ w'.cell? ⟨(adb.add (k * 12)).block, (adb.add (k * 12)).off + 9, none⟩ = some (.int .i64 x.f6) ∧ w'.cell? ⟨(adb.add (k * 12)).block, (adb.add (k * 12)).off + 10, none⟩ = some (.int .i64 x.f7) ∧ w'.cell? ⟨(adb.add (k * 12)).block, (adb.add (k * 12)).off + 11, none⟩ = some (.int .i64 x.f8))) wr.drew := HF6.out _ HB0
   refine Za.takeL 0 (v := ?va0) rfl (by kernel_rfl) (by kernel_rfl) (by kernel_rfl) (by kernel_rfl) (fun _ _ _ h => h) (Or.inl ⟨by rfl, ?hya0⟩) HS ?resta0
   case hya0 => (intro w hSw; (try dsimp only at hSw); go_simp; try with_reducible rfl)
   (try simp only [Act.put, List.setIfInBounds_toArray, List.set_cons_zero, List.set_cons_succ])
   refine Za.takeL 1 (v := ?va1) rfl (by kernel_rfl) (by kernel_rfl) (by kernel_rfl) (by kernel_rfl) (fun _ _ _ h => h) (Or.inl ⟨by rfl, ?hya1⟩) HS ?resta1
   case hya1 => (intro w hSw; (try dsimp only at hSw); go_simp; try with_reducible rfl)
   (try simp only [Act.put, List.setIfInBounds_toArray, List.set_cons_zero, List.set_cons_succ])
   refine Za.takeL 2 (v := ?va2) rfl (by kernel_rfl) (by kernel_rfl) (by kernel_rfl) (by kernel_rfl) (fun _ _ _ h => h) (Or.inl ⟨by rfl, ?hya2⟩) HS ?resta2
   case hya2 => (intro w hSw; (try dsimp only at hSw); go_simp; try with_reducible rfl)
   (try simp only [Act.put, List.setIfInBounds_toArray, List.set_cons_zero, List.set_cons_succ])
   refine Za.takeL 3 (v := ?va3) rfl (by kernel_rfl) (by kernel_rfl) (by kernel_rfl) (by kernel_rfl) (fun _ _ _ h => h) (Or.inl ⟨by rfl, ?hya3⟩) HS ?resta3
   case hya3 => (intro w hSw; (try dsimp only at hSw); go_simp; try with_reducible rfl)
   (try simp only [Act.put, List.setIfInBounds_toArray, List.set_cons_zero, List.set_cons_succ])
   refine Za.takeL 4 (v := ?va4) rfl (by kernel_rfl) (by kernel_rfl) (by kernel_rfl) (by kernel_rfl) (fun _ _ _ h => h) (Or.inl ⟨by rfl, ?hya4⟩) HS ?resta4
   case hya4 => (intro w hSw; (try dsimp only at hSw); go_simp; try with_reducible rfl)
   (try simp only [Act.put, List.setIfInBounds_toArray, List.set_cons_zero, List.set_cons_succ])
   refine Za.takeL 5 (v := ?va5) rfl (by kernel_rfl) (by kernel_rfl) (by kernel_rfl) (by kernel_rfl) (fun _ _ _ h => h) (Or.inl ⟨by rfl, ?hya5⟩) HS ?resta5
   case hya5 => (intro w hSw; (try dsimp only at hSw); go_simp; try with_reducible rfl)
   (try simp only [Act.put, List.setIfInBounds_toArray, List.set_cons_zero, List.set_cons_succ])
   refine Za.takeL 6 (v := ?va6) rfl (by kernel_rfl) (by kernel_rfl) (by kernel_rfl) (by kernel_rfl) (fun _ _ _ h => h) (Or.inl ⟨by rfl, ?hya6⟩) HS ?resta6
   case hya6 => (intro w hSw; (try dsimp only at hSw); go_simp; try with_reducible rfl)
   (try simp only [Act.put, List.setIfInBounds_toArray, List.set_cons_zero, List.set_cons_succ])
   refine Za.takeL 7 (v := ?va7) rfl (by kernel_rfl) (by kernel_rfl) (by kernel_rfl) (by kernel_rfl) (fun _ _ _ h => h) (Or.inl ⟨by rfl, ?hya7⟩) HS ?resta7
   case hya7 => (intro w hSw; (try dsimp only at hSw); go_simp; try with_reducible rfl)
   (try simp only [Act.put, List.setIfInBounds_toArray, List.set_cons_zero, List.set_cons_succ])
   clear HS
   refine Za.nextL 8 (by kernel_rfl) rfl (fun K' hK => ?_)
   go_simp
   (go_at_call 59; refine (eqRule_any x A6 c6 B6 d6 _ (HIX6.out.below HB0) (HIY6.out.below HB0)).mono ?_; rintro e w4 ⟨rfl, hb4⟩; have HB4 : Below wr.heap.size wr w4 := keepD hb4; have HB5 := Aside0.mk HB4; clear hb4)
   go_wp2_with fail
   refine hK.out _ _ ⟨fun _ => HF6.out _ HB4, ?_⟩
   clear hK K'
   (try simp only [Act.put, List.setIfInBounds_toArray, List.set_cons_zero, List.set_cons_succ])
   have HS : (fun w' => (w'.cell? (ada.add (k * 12)) = some (.string x.f0) ∧ w'.cell? ⟨(ada.add (k * 12)).block, (ada.add (k * 12)).off + 1, none⟩ = some (.int .i64 x.f1) ∧ w'.cell? ⟨(ada.add (k * 12)).block, (ada.add (k * 12)).off + 2, none⟩ = some (.int .i64 x.f2) ∧ w'.cell? ⟨(ada.add (k * 12)).block, (ada.add (k * 12)).off + 3, none⟩ = some (.int .i64 x.f3.f0) ∧ w'.cell? ⟨(ada.add (k * 12)).block, (ada.add (k * 12)).off + 4, none⟩ = some (.int .i64 x.f3.f1) ∧ w'.cell? ⟨(ada.add (k * 12)).block, (ada.add (k * 12)).off + 5, none⟩ = some (.int .i64 x.f3.f2) ∧ w'.cell? ⟨(ada.add (k * 12)).block, (ada.add (k * 12)).off + 6, none⟩ = some (.slice A6 x.f3.f3.length c6) ∧ w'.cell? ⟨(ada.add (k * 12)).block, (ada.add (k * 12)).off + 7, none⟩ = some (.int .i64 x.f4) ∧ w'.cell? ⟨(ada.add (k * 12)).block, (ada.add (k * 12)).off + 8, none⟩ = some (.int .i64 x.f5) ∧ w'.cell? ⟨(ada.add (k * 12)).block, (ada.add (k * 12)).off + 9, none⟩ = some (.int .i64 x.f6) ∧ w'.cell? ⟨(ada.add (k * 12)).block, (ada.add (k * 12)).off + 10, none⟩ = some (.int .i64 x.f7) ∧ w'.cell? ⟨(ada.add (k * 12)).block, (ada.add (k * 12)).off + 11, none⟩ = some (.int .i64 x.f8)) ∧ (w'.cell? (adb.add (k * 12)) = some (.string x.f0) ∧ w'.cell? ⟨(adb.add (k * 12)).block, (adb.add (k * 12)).off + 1, none⟩ = some (.int .i64 x.f1) ∧ w'.cell? ⟨(adb.add (k * 12)).block, (adb.add (k * 12)).off + 2, none⟩ = some (.int .i64 x.f2) ∧ w'.cell? ⟨(adb.add (k * 12)).block, (adb.add (k * 12)).off + 3, none⟩ = some (.int .i64 x.f3.f0) ∧ w'.cell? ⟨(adb.add (k * 12)).block, (adb.add (k * 12)).off + 4, none⟩ = some (.int .i64 x.f3.f1) ∧ w'.cell? ⟨(adb.add (k * 12)).block, (adb.add (k * 12)).off + 5, none⟩ = some (.int .i64 x.f3.f2) ∧ w'.cell? ⟨(adb.add (k * 12)).block, (adb.add (k * 12)).off + 6, none⟩ = some (.slice B6 x.f3.f3.length d6) ∧ w'.cell? ⟨(adb.add (k * 12)).block, (adb.add (k * 12)).off + 7, none⟩ = some (.int .i64 x.f4) ∧ w'.cell? ⟨(adb.add (k * 12)).block, (adb.add (k * 12)).off + 8, none⟩ = some (.int .i64 x.f5) ∧ w'.cell? ⟨(adb.add (k * 12)).block, (adb.add (k * 12)).off + 9, none⟩ = some (.int .i64 x.f6) ∧ w'.cell? ⟨(adb.add (k * 12)).block, (adb.add (k * 12)).off + 10, none⟩ = some (.int .i64 x.f7) ∧ w'.cell? ⟨(adb.add (k * 12)).block, (adb.add (k * 12)).off + 11, none⟩ = some (.int .i64 x.f8))) w4 := HF6.out _ HB4
   refine Za.takeL 9 (v := ?va9) rfl (by kernel_rfl) (by kernel_rfl) (by kernel_rfl) (by kernel_rfl) (fun _ _ _ h => h) (Or.inl ⟨by rfl, ?hya9⟩) HS ?resta9
   case hya9 => (intro w hSw; (try dsimp only at hSw); go_simp; try with_reducible rfl)
   (try simp only [Act.put, List.setIfInBounds_toArray, List.set_cons_zero, List.set_cons_succ])
   refine Za.Walk.done (by kernel_rfl) ?_
   clear HS
   go_wp2
   go_roundw
   case rel => exact ⟨k + 1, by omega, by go_num, ⟨below_then HB.out HB.out.size HB5.out⟩⟩
   case measure => simp [intOf]; omega
  ·have g1 : decide (k < a.length) = false := decide_eq_false hlt
   go_wp2
   go_ret
   exact ⟨rfl, HB.out⟩
set_option maxHeartbeats 4000000 in
set_option maxRecDepth 100000 in
theorem eqEng_any (x : TEng) (A0 : Option Addr) (c0 : Nat) (A1 : Option Addr) (c1 : Nat) (A2 : Option Addr) (c2 : Nat) (A3 : Option Addr) (c3 : Nat) (A4 : Option Addr) (c4 : Nat) (B0 : Option Addr) (d0 : Nat) (B1 : Option Addr) (d1 : Nat) (B2 : Option Addr) (d2 : Nat) (B3 : Option Addr) (d3 : Nat) (B4 : Option Addr) (d4 : Nat) (w : World) (hA0 : IsS kRule w x.f0 A0 c0) (hA1 : IsS kGraph w x.f1 A1 c1) (hA2 : IsS kEv w x.f2 A2 c2) (hA3 : IsS (Kd.int .i64) w x.f3 A3 c3) (hA4 : IsS kFire w x.f4 A4 c4) (hB0 : IsS kRule w x.f0 B0 d0) (hB1 : IsS kGraph w x.f1 B1 d1) (hB2 : IsS kEv w x.f2 B2 d2) (hB3 : IsS (Kd.int .i64) w x.f3 B3 d3) (hB4 : IsS kFire w x.f4 B4 d4) :
  Calls Tryz.prog 9 #[.agg #[.slice A0 x.f0.length c0, .slice A1 x.f1.length c1, .slice A2 x.f2.length c2, .slice A3 x.f3.length c3, .slice A4 x.f4.length c4], .agg #[.slice B0 x.f0.length d0, .slice B1 x.f1.length d1, .slice B2 x.f2.length d2, .slice B3 x.f3.length d3, .slice B4 x.f4.length d4]] w fun e w' => e = .returned (.bool true) ∧ Below w.heap.size w w' := by
 obtain ⟨hb0, bP, bQ⟩ := boxes2 w #[.slice A0 x.f0.length c0, .slice A1 x.f1.length c1, .slice A2 x.f2.length c2, .slice A3 x.f3.length c3, .slice A4 x.f4.length c4] #[.slice B0 x.f0.length d0, .slice B1 x.f1.length d1, .slice B2 x.f2.length d2, .slice B3 x.f3.length d3, .slice B4 x.f4.length d4] 36 36
 have HA0 := Aside0.mk (hA0.below hb0)
 have HB0 := Aside0.mk (hB0.below hb0)
 have HA1 := Aside0.mk (hA1.below hb0)
 have HB1 := Aside0.mk (hB1.below hb0)
 have HA2 := Aside0.mk (hA2.below hb0)
 have HB2 := Aside0.mk (hB2.below hb0)
 have HA3 := Aside0.mk (hA3.below hb0)
 have HB3 := Aside0.mk (hB3.below hb0)
 have HA4 := Aside0.mk (hA4.below hb0)
 have HB4 := Aside0.mk (hB4.below hb0)
 clear hA0 hB0 hA1 hB1 hA2 hB2 hA3 hB3 hA4 hB4
 go_enter Tryz.func9, Tryz.ntmps9
 go_upto_region 1 with fail
 generalize (w.alloc (.cells #[.slice A0 x.f0.length c0, .slice A1 x.f1.length c1, .slice A2 x.f2.length c2, .slice A3 x.f3.length c3, .slice A4 x.f4.length c4] 36)).alloc (.cells #[.slice B0 x.f0.length d0, .slice B1 x.f1.length d1, .slice B2 x.f2.length d2, .slice B3 x.f3.length d3, .slice B4 x.f4.length d4] 36) = W at hb0 bP bQ HA0 HB0 HA1 HB1 HA2 HB2 HA3 HB3 HA4 HB4 ⊢
 have HX := Aside0.mk hb0
 clear hb0
 have p0 := (blk_cell bP 0).trans rfl
 have q0 := (blk_cell bQ 0).trans rfl
 have p1 := (blk_cell bP 1).trans rfl
 have q1 := (blk_cell bQ 1).trans rfl
 have p2 := (blk_cell bP 2).trans rfl
 have q2 := (blk_cell bQ 2).trans rfl
 have p3 := (blk_cell bP 3).trans rfl
 have q3 := (blk_cell bQ 3).trans rfl
 have p4 := (blk_cell bP 4).trans rfl
 have q4 := (blk_cell bQ 4).trans rfl
 have HC0 : Aside0 (Below W.heap.size W W) := ⟨Below.refl _ _⟩
 go_wp2_with (first | (go_at_call 28; refine (eqFireS_any A4 B4 c4 d4 x.f4 _ (HA4.out.below HC4.out) (HB4.out.below HC4.out)).mono ?_; rintro e w5 ⟨rfl, hb5⟩; have p5_0 := pw_cell_below hb5 p4_0; have q5_0 := pw_cell_below hb5 q4_0; have p5_1 := pw_cell_below hb5 p4_1; have q5_1 := pw_cell_below hb5 q4_1; have p5_2 := pw_cell_below hb5 p4_2; have q5_2 := pw_cell_below hb5 q4_2; have p5_3 := pw_cell_below hb5 p4_3; have q5_3 := pw_cell_below hb5 q4_3; have p5_4 := pw_cell_below hb5 p4_4; have q5_4 := pw_cell_below hb5 q4_4; have HC5 := Aside0.mk (below_then HC4.out HC4.out.size hb5); clear hb5) | (go_at_call 8; refine (eqIntS_any A3 B3 c3 d3 x.f3 _ (HA3.out.below HC3.out) (HB3.out.below HC3.out)).mono ?_; rintro e w4 ⟨rfl, hb4⟩; have p4_0 := pw_cell_below hb4 p3_0; have q4_0 := pw_cell_below hb4 q3_0; have p4_1 := pw_cell_below hb4 p3_1; have q4_1 := pw_cell_below hb4 q3_1; have p4_2 := pw_cell_below hb4 p3_2; have q4_2 := pw_cell_below hb4 q3_2; have p4_3 := pw_cell_below hb4 p3_3; have q4_3 := pw_cell_below hb4 q3_3; have p4_4 := pw_cell_below hb4 p3_4; have q4_4 := pw_cell_below hb4 q3_4; have HC4 := Aside0.mk (below_then HC3.out HC3.out.size hb4); clear hb4) | (go_at_call 27; refine (eqEvS_any A2 B2 c2 d2 x.f2 _ (HA2.out.below HC2.out) (HB2.out.below HC2.out)).mono ?_; rintro e w3 ⟨rfl, hb3⟩; have p3_0 := pw_cell_below hb3 p2_0; have q3_0 := pw_cell_below hb3 q2_0; have p3_1 := pw_cell_below hb3 p2_1; have q3_1 := pw_cell_below hb3 q2_1; have p3_2 := pw_cell_below hb3 p2_2; have q3_2 := pw_cell_below hb3 q2_2; have p3_3 := pw_cell_below hb3 p2_3; have q3_3 := pw_cell_below hb3 q2_3; have p3_4 := pw_cell_below hb3 p2_4; have q3_4 := pw_cell_below hb3 q2_4; have HC3 := Aside0.mk (below_then HC2.out HC2.out.size hb3); clear hb3) | (go_at_call 26; refine (eqGraphS_any A1 B1 c1 d1 x.f1 _ (HA1.out.below HC1.out) (HB1.out.below HC1.out)).mono ?_; rintro e w2 ⟨rfl, hb2⟩; have p2_0 := pw_cell_below hb2 p1_0; have q2_0 := pw_cell_below hb2 q1_0; have p2_1 := pw_cell_below hb2 p1_1; have q2_1 := pw_cell_below hb2 q1_1; have p2_2 := pw_cell_below hb2 p1_2; have q2_2 := pw_cell_below hb2 q1_2; have p2_3 := pw_cell_below hb2 p1_3; have q2_3 := pw_cell_below hb2 q1_3; have p2_4 := pw_cell_below hb2 p1_4; have q2_4 := pw_cell_below hb2 q1_4; have HC2 := Aside0.mk (below_then HC1.out HC1.out.size hb2); clear hb2) | (go_at_call 25; refine (eqRuleS_any A0 B0 c0 d0 x.f0 _ (HA0.out.below HC0.out) (HB0.out.below HC0.out)).mono ?_; rintro e w1 ⟨rfl, hb1⟩; have p1_0 := pw_cell_below hb1 p0; have q1_0 := pw_cell_below hb1 q0; have p1_1 := pw_cell_below hb1 p1; have q1_1 := pw_cell_below hb1 q1; have p1_2 := pw_cell_below hb1 p2; have q1_2 := pw_cell_below hb1 q2; have p1_3 := pw_cell_below hb1 p3; have q1_3 := pw_cell_below hb1 q3; have p1_4 := pw_cell_below hb1 p4; have q1_4 := pw_cell_below hb1 q4; have HC1 := Aside0.mk (below_then HC0.out HC0.out.size hb1); clear hb1))
 go_ret
 exact ⟨rfl, below_then HX.out HX.out.size HC5.out⟩
end Go.Proofs.YtckblabkapeigaaGreat.Kc
