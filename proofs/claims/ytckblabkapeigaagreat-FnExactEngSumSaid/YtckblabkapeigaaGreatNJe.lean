
/- Comparisons of expressions that are equal: the laws' own functions. -/
import Derived.Test.YtckblabkapeigaaGreatNJd
set_option linter.unusedVariables false
set_option linter.unusedSimpArgs false
namespace Go.Proofs.YtckblabkapeigaaGreat.Je
open Go.RowKit Go.Proofs.YtckblabkapeigaaGreatW.PrintWords Go.Proofs.YtckblabkapeigaaGreat.Ja Go.Proofs.YtckblabkapeigaaGreat.Jb Go.Proofs.YtckblabkapeigaaGreat.Jc Go.Proofs.YtckblabkapeigaaGreat.Jd

set_option maxHeartbeats 1000000 in
set_option maxRecDepth 100000 in
theorem eqEx_of (f0 f1 f2 : Int) (A B : Option Addr) (c d : Nat) (l : List Ex) (w : World) (ha : IsEL 50 w l A c) (hb : IsEL 50 w l B d)
  (hS : ∀ w', IsEL 50 w' l A c → IsEL 50 w' l B d → Calls Tryz.prog 112 #[.slice A l.length c, .slice B l.length d] w' fun e w'' => e = .returned (.bool true) ∧ Below w'.heap.size w' w'') :
  Calls Tryz.prog 89 #[X f0 f1 f2 A l.length c, X f0 f1 f2 B l.length d] w fun e w' => e = .returned (.bool true) ∧ Below w.heap.size w w' := by
 obtain ⟨hb0, bP, bQ⟩ := boxes2 w #[.int .i64 f0, .int .i64 f1, .int .i64 f2, .slice A l.length c] #[.int .i64 f0, .int .i64 f1, .int .i64 f2, .slice B l.length d] 50 50
 have HA := Aside0.mk (ha.below hb0)
 have HBo := Aside0.mk (hb.below hb0)
 have HB0 := Aside0.mk hb0
 have HS := Aside0.mk hS
 clear ha hb hS
 go_enter Tryz.func89, Tryz.ntmps89
 go_upto_region 1 with fail
 generalize (w.alloc (.cells #[.int .i64 f0, .int .i64 f1, .int .i64 f2, .slice A l.length c] 50)).alloc (.cells #[.int .i64 f0, .int .i64 f1, .int .i64 f2, .slice B l.length d] 50) = W at hb0 bP bQ HA HBo HB0 ⊢
 clear hb0
 have p0 := (blk_cell bP 0).trans rfl
 have p1 := (blk_cell bP 1).trans rfl
 have p2 := (blk_cell bP 2).trans rfl
 have p3 := (blk_cell bP 3).trans rfl
 have q0 := (blk_cell bQ 0).trans rfl
 have q1 := (blk_cell bQ 1).trans rfl
 have q2 := (blk_cell bQ 2).trans rfl
 have q3 := (blk_cell bQ 3).trans rfl
 have x0 : (f0 != f0) = false := by simp
 have x1 : (f1 != f1) = false := by simp
 have x2 : (f2 != f2) = false := by simp
 go_wp2_with (go_at_call 112; refine (HS.out _ HA.out HBo.out).mono ?_; rintro e w2 ⟨rfl, hb2⟩; have HB2 := Aside0.mk (below_then HB0.out HB0.out.size hb2); clear hb2)
 go_ret
 exact ⟨rfl, HB2.out⟩

set_option maxHeartbeats 4000000 in
set_option maxRecDepth 100000 in
theorem eqExS_of (A B : Option Addr) (c cb : Nat) (a : List Ex) (w : World) (ha : IsEL 50 w a A c) (hb : IsEL 50 w a B cb)
  (hE : ∀ x, x ∈ a → ∀ A B c d w', IsEL 50 w' x.f3 A c → IsEL 50 w' x.f3 B d → Calls Tryz.prog 89 #[X x.f0 x.f1 x.f2 A x.f3.length c, X x.f0 x.f1 x.f2 B x.f3.length d] w' fun e w'' => e = .returned (.bool true) ∧ Below w'.heap.size w' w'') :
  Calls Tryz.prog 112 #[.slice A a.length c, .slice B a.length cb] w fun e w' => e = .returned (.bool true) ∧ Below w.heap.size w w' := by
 have HA := Aside0.mk ha
 have HBb := Aside0.mk hb
 have HE := Aside0.mk hE
 have hna := ha.len
 have hl2 : ((a.length : Int) != (a.length : Int)) = false := by simp
 clear ha hb hE
 go_enter Tryz.func112, Tryz.ntmps112
 go_wp2
 go_loopw [5] (fun vi wr => ∃ (k : Nat), k ≤ a.length ∧ vi = .int .i64 k ∧ Aside0 (Below w.heap.size w wr)) (fun vi _ => a.length - (intOf vi).toNat)
 case atStart => exact ⟨0, by omega, rfl, ⟨Below.refl _ _⟩⟩
 case round =>
  obtain ⟨k, hk, rfl, HB⟩ := hrel
  by_cases hlt : k < a.length
  ·have g1 : decide (k < a.length) = true := decide_eq_true hlt
   have k1 : (k : Int) < a.length := by omega
   obtain ⟨ada, A2, c2, eXa, a0, a1, a2, a3, hix⟩ := atE (HA.out.below HB.out) k hlt
   obtain ⟨adb, B2, d2, eXb, b0, b1, b2, b3, hiy⟩ := atE (HBb.out.below HB.out) k hlt
   subst eXa eXb
   have HQ := Aside0.mk (HE.out _ (getE_mem hlt))
   generalize a.getD k zE = x at a0 a1 a2 a3 b0 b1 b2 b3 hix hiy HQ
   have HIX := Aside0.mk hix
   have HIY := Aside0.mk hiy
   have HF6 : Aside0 (∀ w', Below wr.heap.size wr w' → (fun w' => (w'.cell? (ada.add (k * 4)) = some (.int .i64 x.f0) ∧ w'.cell? ⟨(ada.add (k * 4)).block, (ada.add (k * 4)).off + 1, none⟩ = some (.int .i64 x.f1) ∧ w'.cell? ⟨(ada.add (k * 4)).block, (ada.add (k * 4)).off + 2, none⟩ = some (.int .i64 x.f2) ∧ w'.cell? ⟨(ada.add (k * 4)).block, (ada.add (k * 4)).off + 3, none⟩ = some (.slice A2 x.f3.length c2)) ∧ (w'.cell? (adb.add (k * 4)) = some (.int .i64 x.f0) ∧ w'.cell? ⟨(adb.add (k * 4)).block, (adb.add (k * 4)).off + 1, none⟩ = some (.int .i64 x.f1) ∧ w'.cell? ⟨(adb.add (k * 4)).block, (adb.add (k * 4)).off + 2, none⟩ = some (.int .i64 x.f2) ∧ w'.cell? ⟨(adb.add (k * 4)).block, (adb.add (k * 4)).off + 3, none⟩ = some (.slice B2 x.f3.length d2))) w') := ⟨fun w' h => ⟨⟨pw_cell_below h a0, pw_cell_below h a1, pw_cell_below h a2, pw_cell_below h a3⟩, ⟨pw_cell_below h b0, pw_cell_below h b1, pw_cell_below h b2, pw_cell_below h b3⟩⟩⟩
   have HB0 : Below wr.heap.size wr wr.drew := below_drew (Below.refl _ _)
   clear hix hiy a0 a1 a2 a3 b0 b1 b2 b3
   go_upto_region 6 with fail
   refine Za.regionL (fun w' => (w'.cell? (ada.add (k * 4)) = some (.int .i64 x.f0) ∧ w'.cell? ⟨(ada.add (k * 4)).block, (ada.add (k * 4)).off + 1, none⟩ = some (.int .i64 x.f1) ∧ w'.cell? ⟨(ada.add (k * 4)).block, (ada.add (k * 4)).off + 2, none⟩ = some (.int .i64 x.f2) ∧ w'.cell? ⟨(ada.add (k * 4)).block, (ada.add (k * 4)).off + 3, none⟩ = some (.slice A2 x.f3.length c2)) ∧ (w'.cell? (adb.add (k * 4)) = some (.int .i64 x.f0) ∧ w'.cell? ⟨(adb.add (k * 4)).block, (adb.add (k * 4)).off + 1, none⟩ = some (.int .i64 x.f1) ∧ w'.cell? ⟨(adb.add (k * 4)).block, (adb.add (k * 4)).off + 2, none⟩ = some (.int .i64 x.f2) ∧ w'.cell? ⟨(adb.add (k * 4)).block, (adb.add (k * 4)).off + 3, none⟩ = some (.slice B2 x.f3.length d2))) [] (by kernel_rfl) ?_
   have HS : (fun w' => (w'.cell? (ada.add (k * 4)) = some (.int .i64 x.f0) ∧ w'.cell? ⟨(ada.add (k * 4)).block, (ada.add (k * 4)).off + 1, none⟩ = some (.int .i64 x.f1) ∧ w'.cell? ⟨(ada.add (k * 4)).block, (ada.add (k * 4)).off + 2, none⟩ = some (.int .i64 x.f2) ∧ w'.cell? ⟨(ada.add (k * 4)).block, (ada.add (k * 4)).off + 3, none⟩ = some (.slice A2 x.f3.length c2)) ∧ (w'.cell? (adb.add (k * 4)) = some (.int .i64 x.f0) ∧ w'.cell? ⟨(adb.add (k * 4)).block, (adb.add (k * 4)).off + 1, none⟩ = some (.int .i64 x.f1) ∧ w'.cell? ⟨(adb.add (k * 4)).block, (adb.add (k * 4)).off + 2, none⟩ = some (.int .i64 x.f2) ∧ w'.cell? ⟨(adb.add (k * 4)).block, (adb.add (k * 4)).off + 3, none⟩ = some (.slice B2 x.f3.length d2))) wr.drew := HF6.out _ HB0
   refine Za.takeL 0 (v := ?va0) rfl (by kernel_rfl) (by kernel_rfl) (by kernel_rfl) (by kernel_rfl) (fun _ _ _ h => h) (Or.inl ⟨by rfl, ?hya0⟩) HS ?resta0
   case hya0 => (intro w hSw; (try dsimp only at hSw); go_simp; try with_reducible rfl)
   (try simp only [Act.put, List.setIfInBounds_toArray, List.set_cons_zero, List.set_cons_succ])
   refine Za.takeL 1 (v := ?va1) rfl (by kernel_rfl) (by kernel_rfl) (by kernel_rfl) (by kernel_rfl) (fun _ _ _ h => h) (Or.inl ⟨by rfl, ?hya1⟩) HS ?resta1
   case hya1 => (intro w hSw; (try dsimp only at hSw); go_simp; try with_reducible rfl)
   (try simp only [Act.put, List.setIfInBounds_toArray, List.set_cons_zero, List.set_cons_succ])
   refine Za.takeL 2 (v := ?va2) rfl (by kernel_rfl) (by kernel_rfl) (by kernel_rfl) (by kernel_rfl) (fun _ _ _ h => h) (Or.inl ⟨by rfl, ?hya2⟩) HS ?resta2
   case hya2 => (intro w hSw; (try dsimp only at hSw); go_simp; try with_reducible rfl)
   (try simp only [Act.put, List.setIfInBounds_toArray, List.set_cons_zero, List.set_cons_succ])
   refine Za.takeL 3 (v := ?va3) rfl (by kernel_rfl) (by kernel_rfl) (by kernel_rfl) (by kernel_rfl) (fun _ _ _ h => h) (Or.inl ⟨by rfl, ?hya3⟩) HS ?resta3
   case hya3 => (intro w hSw; (try dsimp only at hSw); go_simp; try with_reducible rfl)
   (try simp only [Act.put, List.setIfInBounds_toArray, List.set_cons_zero, List.set_cons_succ])
   refine Za.takeL 4 (v := ?va4) rfl (by kernel_rfl) (by kernel_rfl) (by kernel_rfl) (by kernel_rfl) (fun _ _ _ h => h) (Or.inl ⟨by rfl, ?hya4⟩) HS ?resta4
   case hya4 => (intro w hSw; (try dsimp only at hSw); go_simp; try with_reducible rfl)
   (try simp only [Act.put, List.setIfInBounds_toArray, List.set_cons_zero, List.set_cons_succ])
   refine Za.takeL 5 (v := ?va5) rfl (by kernel_rfl) (by kernel_rfl) (by kernel_rfl) (by kernel_rfl) (fun _ _ _ h => h) (Or.inl ⟨by rfl, ?hya5⟩) HS ?resta5
   case hya5 => (intro w hSw; (try dsimp only at hSw); go_simp; try with_reducible rfl)
   (try simp only [Act.put, List.setIfInBounds_toArray, List.set_cons_zero, List.set_cons_succ])
   refine Za.takeL 6 (v := ?va6) rfl (by kernel_rfl) (by kernel_rfl) (by kernel_rfl) (by kernel_rfl) (fun _ _ _ h => h) (Or.inl ⟨by rfl, ?hya6⟩) HS ?resta6
   case hya6 => (intro w hSw; (try dsimp only at hSw); go_simp; try with_reducible rfl)
   (try simp only [Act.put, List.setIfInBounds_toArray, List.set_cons_zero, List.set_cons_succ])
   refine Za.takeL 7 (v := ?va7) rfl (by kernel_rfl) (by kernel_rfl) (by kernel_rfl) (by kernel_rfl) (fun _ _ _ h => h) (Or.inl ⟨by rfl, ?hya7⟩) HS ?resta7
   case hya7 => (intro w hSw; (try dsimp only at hSw); go_simp; try with_reducible rfl)
   (try simp only [Act.put, List.setIfInBounds_toArray, List.set_cons_zero, List.set_cons_succ])
   clear HS
   refine Za.nextL 8 (by kernel_rfl) rfl (fun K' hK => ?_)
   go_simp
   (go_at_call 89; refine (HQ.out _ _ _ _ _ (HIX.out.below HB0) (HIY.out.below HB0)).mono ?_; rintro e w4 ⟨rfl, hb4⟩; have HB4 : Below wr.heap.size wr w4 := keepD hb4; have HB5 := Aside0.mk HB4; clear hb4)
   go_wp2_with fail
   refine hK.out _ _ ⟨fun _ => HF6.out _ HB4, ?_⟩
   clear hK K'
   (try simp only [Act.put, List.setIfInBounds_toArray, List.set_cons_zero, List.set_cons_succ])
   have HS : (fun w' => (w'.cell? (ada.add (k * 4)) = some (.int .i64 x.f0) ∧ w'.cell? ⟨(ada.add (k * 4)).block, (ada.add (k * 4)).off + 1, none⟩ = some (.int .i64 x.f1) ∧ w'.cell? ⟨(ada.add (k * 4)).block, (ada.add (k * 4)).off + 2, none⟩ = some (.int .i64 x.f2) ∧ w'.cell? ⟨(ada.add (k * 4)).block, (ada.add (k * 4)).off + 3, none⟩ = some (.slice A2 x.f3.length c2)) ∧ (w'.cell? (adb.add (k * 4)) = some (.int .i64 x.f0) ∧ w'.cell? ⟨(adb.add (k * 4)).block, (adb.add (k * 4)).off + 1, none⟩ = some (.int .i64 x.f1) ∧ w'.cell? ⟨(adb.add (k * 4)).block, (adb.add (k * 4)).off + 2, none⟩ = some (.int .i64 x.f2) ∧ w'.cell? ⟨(adb.add (k * 4)).block, (adb.add (k * 4)).off + 3, none⟩ = some (.slice B2 x.f3.length d2))) w4 := HF6.out _ HB4
   refine Za.takeL 9 (v := ?va9) rfl (by kernel_rfl) (by kernel_rfl) (by kernel_rfl) (by kernel_rfl) (fun _ _ _ h => h) (Or.inl ⟨by rfl, ?hya9⟩) HS ?resta9
   case hya9 => (intro w hSw; (try dsimp only at hSw); go_simp; try with_reducible rfl)
   (try simp only [Act.put, List.setIfInBounds_toArray, List.set_cons_zero, List.set_cons_succ])
   refine Za.Walk.done (by kernel_rfl) ?_
   clear HS
   go_wp2
   go_roundw
   case rel => exact ⟨k + 1, by omega, by go_num, ⟨below_then HB.out HB.out.size HB5.out⟩⟩
   case measure => simp [intOf]; omega
  ·have g1 : decide (k < a.length) = false := decide_eq_false hlt
   go_wp2
   go_ret
   exact ⟨rfl, HB.out⟩
theorem eqExS_any (l : List Ex) (A B : Option Addr) (c d : Nat) (w : World) (ha : IsEL 50 w l A c) (hb : IsEL 50 w l B d) :
  Calls Tryz.prog 112 #[.slice A l.length c, .slice B l.length d] w fun e w' => e = .returned (.bool true) ∧ Below w.heap.size w w' :=
 eqExS_of A B c d l w ha hb (fun x hx A2 B2 c2 d2 w2 h2 h3 => eqEx_of x.f0 x.f1 x.f2 A2 B2 c2 d2 x.f3 w2 h2 h3 (fun w3 h4 h5 =>
  have := cnt_mem hx
  eqExS_any x.f3 A2 B2 c2 d2 w3 h4 h5))
termination_by cntL l
theorem eqEx_any (x : Ex) (A B : Option Addr) (c d : Nat) (w : World) (ha : IsEL 50 w x.f3 A c) (hb : IsEL 50 w x.f3 B d) :
  Calls Tryz.prog 89 #[X x.f0 x.f1 x.f2 A x.f3.length c, X x.f0 x.f1 x.f2 B x.f3.length d] w fun e w' => e = .returned (.bool true) ∧ Below w.heap.size w w' :=
 eqEx_of x.f0 x.f1 x.f2 A B c d x.f3 w ha hb (fun w3 h3 h4 => eqExS_any x.f3 A B c d w3 h3 h4)
end Go.Proofs.YtckblabkapeigaaGreat.Je
