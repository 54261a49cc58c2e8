
/- Two texts compared; the closure that compares two expressions by their texts. -/
import Derived.Test.YtbbdkhffacoglaaDoorNf
import Derived.Test.YtbbdkhffacoglaaDoorNc
set_option linter.unusedVariables false
set_option linter.unusedSimpArgs false
namespace Go.Proofs.YtbbdkhffacoglaaDoor.Ng
open Go.RowKit Go.Proofs.YtbbdkhffacoglaaDoorW.PrintWords Go.Proofs.YtbbdkhffacoglaaDoor.Ja Go.Proofs.YtbbdkhffacoglaaDoor.Jb Go.Proofs.YtbbdkhffacoglaaDoor.Jc Go.Proofs.YtbbdkhffacoglaaDoor.Jd Go.Proofs.YtbbdkhffacoglaaDoor.Jg Go.Proofs.YtbbdkhffacoglaaDoor.Na Go.Proofs.YtbbdkhffacoglaaDoor.Nb Go.Proofs.YtbbdkhffacoglaaDoor.Nd Go.Proofs.YtbbdkhffacoglaaDoor.Ne Go.Proofs.YtbbdkhffacoglaaDoor.Nf

def cmpT (s t : List UInt8) : Int := if Op.bytesLess s t = true then -1 else if s = t then 0 else 1
theorem gtr_any (X Y : ByteArray) (w : World) : (binOp .gtr 9 (.string X) (.string Y)).run Tryd.prog w = .ok (.bool (!(Op.bytesLess X.toList Y.toList || X.toList == Y.toList))) w := by
  simp [binOp, Op.stringOp, Tryd.underlying9]
set_option maxHeartbeats 1000000 in
set_option maxRecDepth 100000 in
theorem cmpT_any (s t : List UInt8) (w : World) : Calls Tryd.prog 65 #[.string (bs s), .string (bs t)] w fun e w' => e = .returned (.int .i64 (cmpT s t)) ∧ w' = w := by
  have e1 : ((bs s).toList == (bs s).toList) = true := by simp
  have e2 : ((bs t).toList == (bs t).toList) = true := by simp
  have hs := bs_list s
  have ht := bs_list t
  generalize bs s = X at *
  generalize bs t = Y at *
  cases hl : Op.bytesLess s t with
  | true =>
    have HC := Aside0.mk (show cmpT s t = -1 by unfold cmpT; rw [if_pos hl])
    have d1 : Op.bytesLess X.toList Y.toList = true := by rw [hs, ht]; exact hl
    clear hs ht hl
    go_enter Tryd.func65, Tryd.ntmps65
    go_wp2
    go_ret
    exact ⟨by (rw [HC.out]; try rfl), rfl⟩
  | false =>
    have d1 : Op.bytesLess X.toList Y.toList = false := by rw [hs, ht]; exact hl
    by_cases he : s = t
    · have HC := Aside0.mk (show cmpT s t = 0 by unfold cmpT; rw [hl, if_neg (by simp), if_pos he])
      have d2 : (X.toList == Y.toList) = true := by rw [hs, ht]; simp [he]
      have hgt : ∀ w, (binOp .gtr 9 (.string X) (.string Y)).run Tryd.prog w = .ok (.bool (!(Op.bytesLess X.toList Y.toList || X.toList == Y.toList))) w := gtr_any X Y
      rw [d1, d2] at hgt
      clear hs ht hl he
      go_enter Tryd.func65, Tryd.ntmps65
      go_wp2
      go_ret
      exact ⟨by (rw [HC.out]; try rfl), rfl⟩
    · have HC := Aside0.mk (show cmpT s t = 1 by unfold cmpT; rw [hl, if_neg (by simp), if_neg he])
      have d2 : (X.toList == Y.toList) = false := by rw [hs, ht]; simp [he]
      have hgt : ∀ w, (binOp .gtr 9 (.string X) (.string Y)).run Tryd.prog w = .ok (.bool (!(Op.bytesLess X.toList Y.toList || X.toList == Y.toList))) w := gtr_any X Y
      rw [d1, d2] at hgt
      clear hs ht hl he
      go_enter Tryd.func65, Tryd.ntmps65
      go_wp2
      go_ret
      exact ⟨by (rw [HC.out]; try rfl), rfl⟩
def cmpX (x y : Ex) : Int := cmpT (textB x) (textB y)
theorem cmpX_lt (x y : Ex) : decide (cmpX x y < 0) = ltE x y := by
  unfold cmpX cmpT ltE
  cases h : Op.bytesLess (textB x) (textB y) with
  | true => simp
  | false =>
    by_cases he : textB x = textB y
    · simp [he]
    · simp [he]
set_option maxHeartbeats 2000000 in
set_option maxRecDepth 100000 in
theorem cmpX_any (x y : Ex) (hx : formB x = true) (hy : formB y = true) (cx : cntL x.f3 ≤ 1048576) (cy : cntL y.f3 ≤ 1048576) (A B : Option Addr) (c d : Nat) (w : World) (hW0 : Words w) (hA : IsEL 29 w x.f3 A c) (hB : IsEL 29 w y.f3 B d) :
    Calls Tryd.prog 64 #[.agg #[.int .i64 x.f0, .int .i64 x.f1, .int .i64 x.f2, .slice A x.f3.length c], .agg #[.int .i64 y.f0, .int .i64 y.f1, .int .i64 y.f2, .slice B y.f3.length d]] w fun e w' => e = .returned (.int .i64 (cmpX x y)) ∧ Gw w w' := by
  obtain ⟨hb0, bA, bB⟩ := boxes2 w #[.int .i64 x.f0, .int .i64 x.f1, .int .i64 x.f2, .slice A x.f3.length c] #[.int .i64 y.f0, .int .i64 y.f1, .int .i64 y.f2, .slice B y.f3.length d] 29 29
  have hg0 : Gw w ((w.alloc (.cells #[.int .i64 x.f0, .int .i64 x.f1, .int .i64 x.f2, .slice A x.f3.length c] 29)).alloc (.cells #[.int .i64 y.f0, .int .i64 y.f1, .int .i64 y.f2, .slice B y.f3.length d] 29)) := ((Gw.refl w).alloc _).alloc _
  obtain ⟨W, hW⟩ : ∃ W, W = (w.alloc (.cells #[.int .i64 x.f0, .int .i64 x.f1, .int .i64 x.f2, .slice A x.f3.length c] 29)).alloc (.cells #[.int .i64 y.f0, .int .i64 y.f1, .int .i64 y.f2, .slice B y.f3.length d] 29) := ⟨_, rfl⟩
  rw [← hW] at hb0 bA bB hg0
  have HW := Aside0.mk hW
  have HX := Aside0.mk hg0
  have HLA := Aside0.mk (hA.below hb0)
  have HLB := Aside0.mk (hB.below hb0)
  have HWD := Aside0.mk (hW0.below hb0)
  have BA := Aside0.mk bA
  have BB := Aside0.mk bB
  clear hW hA hB hW0 bA bB hb0 hg0
  go_enter Tryd.func64, Tryd.ntmps64
  go_upto_region 1 with fail
  rw [← HW.out]
  have F : ∀ w', Below W.heap.size W w' → (fun w' => (w'.cell? ⟨w.heap.size, 0, none⟩ = some (.int .i64 x.f0) ∧ w'.cell? ⟨w.heap.size, 1, none⟩ = some (.int .i64 x.f1) ∧ w'.cell? ⟨w.heap.size, 2, none⟩ = some (.int .i64 x.f2) ∧ w'.cell? ⟨w.heap.size, 3, none⟩ = some (.slice A x.f3.length c)) ∧ (w'.cell? ⟨(w.heap.size + 1), 0, none⟩ = some (.int .i64 y.f0) ∧ w'.cell? ⟨(w.heap.size + 1), 1, none⟩ = some (.int .i64 y.f1) ∧ w'.cell? ⟨(w.heap.size + 1), 2, none⟩ = some (.int .i64 y.f2) ∧ w'.cell? ⟨(w.heap.size + 1), 3, none⟩ = some (.slice B y.f3.length d))) w' := fun w' h => ⟨⟨(blk_cell (blk_below BA.out h) 0).trans rfl, (blk_cell (blk_below BA.out h) 1).trans rfl, (blk_cell (blk_below BA.out h) 2).trans rfl, (blk_cell (blk_below BA.out h) 3).trans rfl⟩, ⟨(blk_cell (blk_below BB.out h) 0).trans rfl, (blk_cell (blk_below BB.out h) 1).trans rfl, (blk_cell (blk_below BB.out h) 2).trans rfl, (blk_cell (blk_below BB.out h) 3).trans rfl⟩⟩
  have HD : Gw W W.drew := (Gw.refl W).drew
  refine Za.regionL (fun w' => (w'.cell? ⟨w.heap.size, 0, none⟩ = some (.int .i64 x.f0) ∧ w'.cell? ⟨w.heap.size, 1, none⟩ = some (.int .i64 x.f1) ∧ w'.cell? ⟨w.heap.size, 2, none⟩ = some (.int .i64 x.f2) ∧ w'.cell? ⟨w.heap.size, 3, none⟩ = some (.slice A x.f3.length c)) ∧ (w'.cell? ⟨(w.heap.size + 1), 0, none⟩ = some (.int .i64 y.f0) ∧ w'.cell? ⟨(w.heap.size + 1), 1, none⟩ = some (.int .i64 y.f1) ∧ w'.cell? ⟨(w.heap.size + 1), 2, none⟩ = some (.int .i64 y.f2) ∧ w'.cell? ⟨(w.heap.size + 1), 3, none⟩ = some (.slice B y.f3.length d))) [] (by kernel_rfl) ?_
  have HS : (fun w' => (w'.cell? ⟨w.heap.size, 0, none⟩ = some (.int .i64 x.f0) ∧ w'.cell? ⟨w.heap.size, 1, none⟩ = some (.int .i64 x.f1) ∧ w'.cell? ⟨w.heap.size, 2, none⟩ = some (.int .i64 x.f2) ∧ w'.cell? ⟨w.heap.size, 3, none⟩ = some (.slice A x.f3.length c)) ∧ (w'.cell? ⟨(w.heap.size + 1), 0, none⟩ = some (.int .i64 y.f0) ∧ w'.cell? ⟨(w.heap.size + 1), 1, none⟩ = some (.int .i64 y.f1) ∧ w'.cell? ⟨(w.heap.size + 1), 2, none⟩ = some (.int .i64 y.f2) ∧ w'.cell? ⟨(w.heap.size + 1), 3, none⟩ = some (.slice B y.f3.length d))) W.drew := F _ HD.b
  refine Za.takeL 0 (v := ?va0) rfl (by kernel_rfl) (by kernel_rfl) (by kernel_rfl) (by kernel_rfl) (fun _ _ _ h => h) (Or.inl ⟨by rfl, ?hya0⟩) HS ?resta0
  case hya0 => (intro w hSw; (try dsimp only at hSw); go_simp; try with_reducible rfl)
  (try simp only [Act.put, List.setIfInBounds_toArray, List.set_cons_zero, List.set_cons_succ])
  refine Za.takeL 2 (v := ?va2) rfl (by kernel_rfl) (by kernel_rfl) (by kernel_rfl) (by kernel_rfl) (fun _ _ _ h => h) (Or.inl ⟨by rfl, ?hya2⟩) HS ?resta2
  case hya2 => (intro w hSw; (try dsimp only at hSw); go_simp; try with_reducible rfl)
  (try simp only [Act.put, List.setIfInBounds_toArray, List.set_cons_zero, List.set_cons_succ])
  clear HS
  refine Za.nextL 1 (by kernel_rfl) rfl (fun K' hK => ?_)
  go_simp
  (go_at_call 66; refine (text_any x hx cx A c _ (HWD.out.below HD.b) (HLA.out.below HD.b)).mono ?_; rintro e w4 ⟨rfl, hb⟩; have HV4 := HD.then hb; clear hb)
  go_wp2_with fail
  refine hK.out _ _ ⟨fun _ => F _ HV4.b, ?_⟩
  clear hK K'
  (try simp only [Act.put, List.setIfInBounds_toArray, List.set_cons_zero, List.set_cons_succ])
  have HS : (fun w' => (w'.cell? ⟨w.heap.size, 0, none⟩ = some (.int .i64 x.f0) ∧ w'.cell? ⟨w.heap.size, 1, none⟩ = some (.int .i64 x.f1) ∧ w'.cell? ⟨w.heap.size, 2, none⟩ = some (.int .i64 x.f2) ∧ w'.cell? ⟨w.heap.size, 3, none⟩ = some (.slice A x.f3.length c)) ∧ (w'.cell? ⟨(w.heap.size + 1), 0, none⟩ = some (.int .i64 y.f0) ∧ w'.cell? ⟨(w.heap.size + 1), 1, none⟩ = some (.int .i64 y.f1) ∧ w'.cell? ⟨(w.heap.size + 1), 2, none⟩ = some (.int .i64 y.f2) ∧ w'.cell? ⟨(w.heap.size + 1), 3, none⟩ = some (.slice B y.f3.length d))) w4 := F _ HV4.b
  clear HS
  refine Za.nextL 3 (by kernel_rfl) rfl (fun K' hK => ?_)
  go_simp
  (have hh := HV4; clear hh; go_at_call 66; refine (text_any y hy cy B d _ (HWD.out.below HV4.b) (HLB.out.below HV4.b)).mono ?_; rintro e w5 ⟨rfl, hb⟩; have HV5 := HV4.then hb; clear hb)
  go_wp2_with fail
  refine hK.out _ _ ⟨fun _ => F _ HV5.b, ?_⟩
  clear hK K'
  (try simp only [Act.put, List.setIfInBounds_toArray, List.set_cons_zero, List.set_cons_succ])
  have HS : (fun w' => (w'.cell? ⟨w.heap.size, 0, none⟩ = some (.int .i64 x.f0) ∧ w'.cell? ⟨w.heap.size, 1, none⟩ = some (.int .i64 x.f1) ∧ w'.cell? ⟨w.heap.size, 2, none⟩ = some (.int .i64 x.f2) ∧ w'.cell? ⟨w.heap.size, 3, none⟩ = some (.slice A x.f3.length c)) ∧ (w'.cell? ⟨(w.heap.size + 1), 0, none⟩ = some (.int .i64 y.f0) ∧ w'.cell? ⟨(w.heap.size + 1), 1, none⟩ = some (.int .i64 y.f1) ∧ w'.cell? ⟨(w.heap.size + 1), 2, none⟩ = some (.int .i64 y.f2) ∧ w'.cell? ⟨(w.heap.size + 1), 3, none⟩ = some (.slice B y.f3.length d))) w5 := F _ HV5.b
  clear HS
  refine Za.nextL 4 (by kernel_rfl) rfl (fun K' hK => ?_)
  go_simp
  (go_at_call 65; refine (cmpT_any _ _ _).mono ?_; rintro e w6 ⟨rfl, he6⟩; have he7 := he6.symm; subst he7; clear he6)
  go_wp2_with fail
  refine hK.out _ _ ⟨fun _ => F _ HV5.b, ?_⟩
  clear hK K'
  (try simp only [Act.put, List.setIfInBounds_toArray, List.set_cons_zero, List.set_cons_succ])
  have HS : (fun w' => (w'.cell? ⟨w.heap.size, 0, none⟩ = some (.int .i64 x.f0) ∧ w'.cell? ⟨w.heap.size, 1, none⟩ = some (.int .i64 x.f1) ∧ w'.cell? ⟨w.heap.size, 2, none⟩ = some (.int .i64 x.f2) ∧ w'.cell? ⟨w.heap.size, 3, none⟩ = some (.slice A x.f3.length c)) ∧ (w'.cell? ⟨(w.heap.size + 1), 0, none⟩ = some (.int .i64 y.f0) ∧ w'.cell? ⟨(w.heap.size + 1), 1, none⟩ = some (.int .i64 y.f1) ∧ w'.cell? ⟨(w.heap.size + 1), 2, none⟩ = some (.int .i64 y.f2) ∧ w'.cell? ⟨(w.heap.size + 1), 3, none⟩ = some (.slice B y.f3.length d))) w5 := F _ HV5.b
  refine Za.takeL 5 (v := ?va5) rfl (by kernel_rfl) (by kernel_rfl) (by kernel_rfl) (by kernel_rfl) (fun _ _ _ h => h) (Or.inl ⟨by rfl, ?hya5⟩) HS ?resta5
  case hya5 => (intro w hSw; (try dsimp only at hSw); go_simp; try with_reducible rfl)
  (try simp only [Act.put, List.setIfInBounds_toArray, List.set_cons_zero, List.set_cons_succ])
  refine Za.Walk.done (by kernel_rfl) ?_
  clear HS
  go_wp2
  go_ret
  exact ⟨rfl, HX.out.then HV5⟩
end Go.Proofs.YtbbdkhffacoglaaDoor.Ng
