
/- Are two expressions one, two rules, two lists of rules: the reference's. Printed by genTy.py. -/
import Derived.Test.YtbbdkhffacoglaaKn
set_option linter.unusedVariables false
set_option linter.unusedSimpArgs false
namespace Go.Proofs.Ytbbdkhffacoglaa.Ko
open Go.RowKit Go.Proofs.YtbbdkhffacoglaaW.PrintWords Go.Proofs.Ytbbdkhffacoglaa.Ja Go.Proofs.Ytbbdkhffacoglaa.Jb Go.Proofs.Ytbbdkhffacoglaa.Jc Go.Proofs.Ytbbdkhffacoglaa.Jd Go.Proofs.Ytbbdkhffacoglaa.Ka Go.Proofs.Ytbbdkhffacoglaa.Ke Go.Proofs.Ytbbdkhffacoglaa.Kf Go.Proofs.Ytbbdkhffacoglaa.Kg Go.Proofs.Ytbbdkhffacoglaa.Kh Go.Proofs.Ytbbdkhffacoglaa.Ki Go.Proofs.Ytbbdkhffacoglaa.Kj Go.Proofs.Ytbbdkhffacoglaa.Kk Go.Proofs.Ytbbdkhffacoglaa.Kl Go.Proofs.Ytbbdkhffacoglaa.Km
abbrev SCall (x y : Ex) : Prop := ∀ A3 c3 B3 d3 w, IsS (kE 83) w x.f3 A3 c3 → IsS (kE 83) w y.f3 B3 d3 → Calls Try.prog 64 #[.agg #[.int .i64 x.f0, .int .i64 x.f1, .int .i64 x.f2, .slice A3 x.f3.length c3], .agg #[.int .i64 y.f0, .int .i64 y.f1, .int .i64 y.f2, .slice B3 y.f3.length d3]] w fun e w' => e = .returned (.bool (sameE x y)) ∧ Below w.heap.size w w'
set_option maxHeartbeats 4000000 in
set_option maxRecDepth 100000 in
theorem sExSame_of (x y : Ex) (hq : ∀ a, a ∈ x.f3 → ∀ b, b ∈ y.f3 → SCall a b) : SCall x y := fun A3 c3 B3 d3 w hA hB => by
  obtain ⟨hb0, bP, bQ⟩ := boxes2 w #[.int .i64 x.f0, .int .i64 x.f1, .int .i64 x.f2, .slice A3 x.f3.length c3] #[.int .i64 y.f0, .int .i64 y.f1, .int .i64 y.f2, .slice B3 y.f3.length d3] 83 83
  have hna := hA.len
  have hnb := hB.len
  have HA := Aside0.mk (hA.below hb0)
  have HBb := Aside0.mk (hB.below hb0)
  have HQ0 := Aside0.mk hq
  obtain ⟨W, hW⟩ : ∃ W, W = (w.alloc (.cells #[.int .i64 x.f0, .int .i64 x.f1, .int .i64 x.f2, .slice A3 x.f3.length c3] 83)).alloc (.cells #[.int .i64 y.f0, .int .i64 y.f1, .int .i64 y.f2, .slice B3 y.f3.length d3] 83) := ⟨_, rfl⟩
  rw [← hW] at hb0 bP bQ HA HBb
  have HW := Aside0.mk hW
  have HX := Aside0.mk hb0
  have BP := Aside0.mk bP
  have BQ := Aside0.mk bQ
  clear hb0 hW hA hB hq
  have p0 := (blk_cell bP 0).trans rfl
  have q0 := (blk_cell bQ 0).trans rfl
  have p1 := (blk_cell bP 1).trans rfl
  have q1 := (blk_cell bQ 1).trans rfl
  have p2 := (blk_cell bP 2).trans rfl
  have q2 := (blk_cell bQ 2).trans rfl
  have p3 := (blk_cell bP 3).trans rfl
  have q3 := (blk_cell bQ 3).trans rfl
  clear bP bQ
  have HV := Aside0.mk (sameE_eq x y)
  cases h0 : (x.f0 == y.f0) with
  | false =>
    have n0 : (x.f0 != y.f0) = true := by rw [bne, h0]; rfl
    have HF : Aside0 (sameE x y = false) := ⟨by rw [HV.out, h0]; simp⟩
    clear h0
    go_enter Try.func64, Try.ntmps64
    go_upto_region 1 with fail
    rw [← HW.out]
    go_wp2
    go_ret
    exact ⟨ret_bool HF.out.symm, HX.out⟩
  | true =>
  have n0 : (x.f0 != y.f0) = false := by rw [bne, h0]; rfl
  cases h1 : (x.f1 == y.f1) with
  | false =>
    have n1 : (x.f1 != y.f1) = true := by rw [bne, h1]; rfl
    have HF : Aside0 (sameE x y = false) := ⟨by rw [HV.out, h0, h1]; simp⟩
    clear h1
    go_enter Try.func64, Try.ntmps64
    go_upto_region 1 with fail
    rw [← HW.out]
    go_wp2
    go_ret
    exact ⟨ret_bool HF.out.symm, HX.out⟩
  | true =>
  have n1 : (x.f1 != y.f1) = false := by rw [bne, h1]; rfl
  cases h2 : (x.f2 == y.f2) with
  | false =>
    have n2 : (x.f2 != y.f2) = true := by rw [bne, h2]; rfl
    have HF : Aside0 (sameE x y = false) := ⟨by rw [HV.out, h0, h1, h2]; simp⟩
    clear h2
    go_enter Try.func64, Try.ntmps64
    go_upto_region 1 with fail
    rw [← HW.out]
    go_wp2
    go_ret
    exact ⟨ret_bool HF.out.symm, HX.out⟩
  | true =>
  have n2 : (x.f2 != y.f2) = false := by rw [bne, h2]; rfl
  have HVV : Aside0 (sameE x y = eqQ sameE x.f3 y.f3) := ⟨by rw [HV.out, h0, h1, h2]; simp⟩
  clear h0 h1 h2
  by_cases hl : x.f3.length = y.f3.length
  · have n3 : ((x.f3.length : Int) != (y.f3.length : Int)) = false := by simp [hl]
    have HLN := Aside0.mk hl
    clear hl
    go_enter Try.func64, Try.ntmps64
    go_upto_region 1 with fail
    rw [← HW.out]
    go_wp2
    clear n0 n1 n2 n3 p0 p1 p2 q0 q1 q2
    go_loopw [5] (fun vi wr => ∃ (k : Nat), k ≤ x.f3.length ∧ vi = .int .i64 k ∧ Aside0 (eqQ sameE (x.f3.take k) (y.f3.take k) = true) ∧ Aside0 (Below W.heap.size W wr)) (fun vi _ => x.f3.length - (intOf vi).toNat)
    case atStart => exact ⟨0, Nat.zero_le _, rfl, ⟨by simp [eqQ]⟩, ⟨Below.refl _ _⟩⟩
    case round =>
      clear p3 q3
      obtain ⟨k, hk, rfl, HN, HB⟩ := hrel
      have p3 := (blk_cell (blk_below BP.out HB.out) 3).trans rfl
      have q3 := (blk_cell (blk_below BQ.out HB.out) 3).trans rfl
      by_cases hlt : k < x.f3.length
      · have g1 : decide (k < x.f3.length) = true := decide_eq_true hlt
        have i1 : (k : Int) < x.f3.length := by omega
        have hltb : k < y.f3.length := by have := HLN.out; omega
        have i2 : (k : Int) < y.f3.length := by omega
        obtain ⟨ada, P3, r3, rfl, a0_, a1_, a2_, a3_, ja⟩ := atEx (HA.out.below HB.out) k hlt
        obtain ⟨adb, Q3, s3, rfl, b0_, b1_, b2_, b3_, jb⟩ := atEx (HBb.out.below HB.out) k hltb
        have HSN := Aside0.mk (eqQ_snoc sameE zE x.f3 y.f3 k hlt HLN.out)
        have HNO := Aside0.mk (eqQ_no sameE zE x.f3 y.f3 k hlt HLN.out)
        have HQ := Aside0.mk (HQ0.out _ (getE_mem hlt) _ (getE_mem hltb))
        generalize x.f3.getD k zE = o at a0_ a1_ a2_ a3_ ja HSN HNO HQ
        generalize y.f3.getD k zE = u at b0_ b1_ b2_ b3_ jb HSN HNO HQ
        have HIX := Aside0.mk ja
        have HIY := Aside0.mk jb
        have HF6 : Aside0 (∀ w', Below wr.heap.size wr w' → (fun w' => (w'.cell? ⟨w.heap.size, 3, none⟩ = some (.slice (some ada) x.f3.length c3) ∧ w'.cell? ⟨w.heap.size + 1, 3, none⟩ = some (.slice (some adb) y.f3.length d3)) ∧ (w'.cell? (ada.add (k * 4)) = some (.int .i64 o.f0) ∧ w'.cell? ⟨(ada.add (k * 4)).block, (ada.add (k * 4)).off + 1, none⟩ = some (.int .i64 o.f1) ∧ w'.cell? ⟨(ada.add (k * 4)).block, (ada.add (k * 4)).off + 2, none⟩ = some (.int .i64 o.f2) ∧ w'.cell? ⟨(ada.add (k * 4)).block, (ada.add (k * 4)).off + 3, none⟩ = some (.slice P3 o.f3.length r3)) ∧ (w'.cell? (adb.add (k * 4)) = some (.int .i64 u.f0) ∧ w'.cell? ⟨(adb.add (k * 4)).block, (adb.add (k * 4)).off + 1, none⟩ = some (.int .i64 u.f1) ∧ w'.cell? ⟨(adb.add (k * 4)).block, (adb.add (k * 4)).off + 2, none⟩ = some (.int .i64 u.f2) ∧ w'.cell? ⟨(adb.add (k * 4)).block, (adb.add (k * 4)).off + 3, none⟩ = some (.slice Q3 u.f3.length s3))) w') := ⟨fun w' h => ⟨⟨pw_cell_below h p3, pw_cell_below h q3⟩, ⟨pw_cell_below h a0_, pw_cell_below h a1_, pw_cell_below h a2_, pw_cell_below h a3_⟩, ⟨pw_cell_below h b0_, pw_cell_below h b1_, pw_cell_below h b2_, pw_cell_below h b3_⟩⟩⟩
        have HB0 : Below wr.heap.size wr wr.drew := below_drew (Below.refl _ _)
        clear a0_ a1_ a2_ a3_ ja b0_ b1_ b2_ b3_ jb
        cases hd : sameE o u with
        | true =>
          have HE2 : Aside0 (eqQ sameE (x.f3.take (k + 1)) (y.f3.take (k + 1)) = true) := ⟨by rw [HSN.out, HN.out, hd]; rfl⟩
          have HD := Aside0.mk hd
          clear hd
          go_upto_region 6 with fail
          refine Za.regionL (fun w' => (w'.cell? ⟨w.heap.size, 3, none⟩ = some (.slice (some ada) x.f3.length c3) ∧ w'.cell? ⟨w.heap.size + 1, 3, none⟩ = some (.slice (some adb) y.f3.length d3)) ∧ (w'.cell? (ada.add (k * 4)) = some (.int .i64 o.f0) ∧ w'.cell? ⟨(ada.add (k * 4)).block, (ada.add (k * 4)).off + 1, none⟩ = some (.int .i64 o.f1) ∧ w'.cell? ⟨(ada.add (k * 4)).block, (ada.add (k * 4)).off + 2, none⟩ = some (.int .i64 o.f2) ∧ w'.cell? ⟨(ada.add (k * 4)).block, (ada.add (k * 4)).off + 3, none⟩ = some (.slice P3 o.f3.length r3)) ∧ (w'.cell? (adb.add (k * 4)) = some (.int .i64 u.f0) ∧ w'.cell? ⟨(adb.add (k * 4)).block, (adb.add (k * 4)).off + 1, none⟩ = some (.int .i64 u.f1) ∧ w'.cell? ⟨(adb.add (k * 4)).block, (adb.add (k * 4)).off + 2, none⟩ = some (.int .i64 u.f2) ∧ w'.cell? ⟨(adb.add (k * 4)).block, (adb.add (k * 4)).off + 3, none⟩ = some (.slice Q3 u.f3.length s3))) [] (by kernel_rfl) ?_
          have HS : (fun w' => (w'.cell? ⟨w.heap.size, 3, none⟩ = some (.slice (some ada) x.f3.length c3) ∧ w'.cell? ⟨w.heap.size + 1, 3, none⟩ = some (.slice (some adb) y.f3.length d3)) ∧ (w'.cell? (ada.add (k * 4)) = some (.int .i64 o.f0) ∧ w'.cell? ⟨(ada.add (k * 4)).block, (ada.add (k * 4)).off + 1, none⟩ = some (.int .i64 o.f1) ∧ w'.cell? ⟨(ada.add (k * 4)).block, (ada.add (k * 4)).off + 2, none⟩ = some (.int .i64 o.f2) ∧ w'.cell? ⟨(ada.add (k * 4)).block, (ada.add (k * 4)).off + 3, none⟩ = some (.slice P3 o.f3.length r3)) ∧ (w'.cell? (adb.add (k * 4)) = some (.int .i64 u.f0) ∧ w'.cell? ⟨(adb.add (k * 4)).block, (adb.add (k * 4)).off + 1, none⟩ = some (.int .i64 u.f1) ∧ w'.cell? ⟨(adb.add (k * 4)).block, (adb.add (k * 4)).off + 2, none⟩ = some (.int .i64 u.f2) ∧ w'.cell? ⟨(adb.add (k * 4)).block, (adb.add (k * 4)).off + 3, none⟩ = some (.slice Q3 u.f3.length s3))) wr.drew := HF6.out _ HB0
          refine Za.takeL 0 (v := ?vat0) rfl (by kernel_rfl) (by kernel_rfl) (by kernel_rfl) (by kernel_rfl) (fun _ _ _ h => h) (Or.inl ⟨by rfl, ?hyat0⟩) HS ?restat0
          case hyat0 => (intro w hSw; (try dsimp only at hSw); go_simp; try with_reducible rfl)
          (try simp only [Act.put, List.setIfInBounds_toArray, List.set_cons_zero, List.set_cons_succ])
          refine Za.takeL 1 (v := ?vat1) rfl (by kernel_rfl) (by kernel_rfl) (by kernel_rfl) (by kernel_rfl) (fun _ _ _ h => h) (Or.inl ⟨by rfl, ?hyat1⟩) HS ?restat1
          case hyat1 => (intro w hSw; (try dsimp only at hSw); go_simp; try with_reducible rfl)
          (try simp only [Act.put, List.setIfInBounds_toArray, List.set_cons_zero, List.set_cons_succ])
          refine Za.takeL 2 (v := ?vat2) rfl (by kernel_rfl) (by kernel_rfl) (by kernel_rfl) (by kernel_rfl) (fun _ _ _ h => h) (Or.inl ⟨by rfl, ?hyat2⟩) HS ?restat2
          case hyat2 => (intro w hSw; (try dsimp only at hSw); go_simp; try with_reducible rfl)
          (try simp only [Act.put, List.setIfInBounds_toArray, List.set_cons_zero, List.set_cons_succ])
          refine Za.takeL 3 (v := ?vat3) rfl (by kernel_rfl) (by kernel_rfl) (by kernel_rfl) (by kernel_rfl) (fun _ _ _ h => h) (Or.inl ⟨by rfl, ?hyat3⟩) HS ?restat3
          case hyat3 => (intro w hSw; (try dsimp only at hSw); go_simp; try with_reducible rfl)
          (try simp only [Act.put, List.setIfInBounds_toArray, List.set_cons_zero, List.set_cons_succ])
          refine Za.takeL 4 (v := ?vat4) rfl (by kernel_rfl) (by kernel_rfl) (by kernel_rfl) (by kernel_rfl) (fun _ _ _ h => h) (Or.inl ⟨by rfl, ?hyat4⟩) HS ?restat4
          case hyat4 => (intro w hSw; (try dsimp only at hSw); go_simp; try with_reducible rfl)
          (try simp only [Act.put, List.setIfInBounds_toArray, List.set_cons_zero, List.set_cons_succ])
          refine Za.takeL 5 (v := ?vat5) rfl (by kernel_rfl) (by kernel_rfl) (by kernel_rfl) (by kernel_rfl) (fun _ _ _ h => h) (Or.inl ⟨by rfl, ?hyat5⟩) HS ?restat5
          case hyat5 => (intro w hSw; (try dsimp only at hSw); go_simp; try with_reducible rfl)
          (try simp only [Act.put, List.setIfInBounds_toArray, List.set_cons_zero, List.set_cons_succ])
          refine Za.takeL 6 (v := ?vat6) rfl (by kernel_rfl) (by kernel_rfl) (by kernel_rfl) (by kernel_rfl) (fun _ _ _ h => h) (Or.inl ⟨by rfl, ?hyat6⟩) HS ?restat6
          case hyat6 => (intro w hSw; (try dsimp only at hSw); go_simp; try with_reducible rfl)
          (try simp only [Act.put, List.setIfInBounds_toArray, List.set_cons_zero, List.set_cons_succ])
          refine Za.takeL 7 (v := ?vat7) rfl (by kernel_rfl) (by kernel_rfl) (by kernel_rfl) (by kernel_rfl) (fun _ _ _ h => h) (Or.inl ⟨by rfl, ?hyat7⟩) HS ?restat7
          case hyat7 => (intro w hSw; (try dsimp only at hSw); go_simp; try with_reducible rfl)
          (try simp only [Act.put, List.setIfInBounds_toArray, List.set_cons_zero, List.set_cons_succ])
          refine Za.takeL 8 (v := ?vat8) rfl (by kernel_rfl) (by kernel_rfl) (by kernel_rfl) (by kernel_rfl) (fun _ _ _ h => h) (Or.inl ⟨by rfl, ?hyat8⟩) HS ?restat8
          case hyat8 => (intro w hSw; (try dsimp only at hSw); go_simp; try with_reducible rfl)
          (try simp only [Act.put, List.setIfInBounds_toArray, List.set_cons_zero, List.set_cons_succ])
          refine Za.takeL 9 (v := ?vat9) rfl (by kernel_rfl) (by kernel_rfl) (by kernel_rfl) (by kernel_rfl) (fun _ _ _ h => h) (Or.inl ⟨by rfl, ?hyat9⟩) HS ?restat9
          case hyat9 => (intro w hSw; (try dsimp only at hSw); go_simp; try with_reducible rfl)
          (try simp only [Act.put, List.setIfInBounds_toArray, List.set_cons_zero, List.set_cons_succ])
          clear HS
          refine Za.nextL 10 (by kernel_rfl) rfl (fun K' hK => ?_)
          go_simp
          (go_at_call 64; refine (HQ.out P3 r3 Q3 s3 _ (HIX.out.below HB0) (HIY.out.below HB0)).mono ?_; rintro e w4 ⟨rfl, hb4⟩; rw [HD.out]; have HB4 : Below wr.heap.size wr w4 := keepD hb4; have HB5 := Aside0.mk HB4; clear hb4)
          go_wp2_with fail
          refine hK.out _ _ ⟨fun _ => HF6.out _ HB4, ?_⟩
          clear hK K'
          (try simp only [Act.put, List.setIfInBounds_toArray, List.set_cons_zero, List.set_cons_succ])
          have HS : (fun w' => (w'.cell? ⟨w.heap.size, 3, none⟩ = some (.slice (some ada) x.f3.length c3) ∧ w'.cell? ⟨w.heap.size + 1, 3, none⟩ = some (.slice (some adb) y.f3.length d3)) ∧ (w'.cell? (ada.add (k * 4)) = some (.int .i64 o.f0) ∧ w'.cell? ⟨(ada.add (k * 4)).block, (ada.add (k * 4)).off + 1, none⟩ = some (.int .i64 o.f1) ∧ w'.cell? ⟨(ada.add (k * 4)).block, (ada.add (k * 4)).off + 2, none⟩ = some (.int .i64 o.f2) ∧ w'.cell? ⟨(ada.add (k * 4)).block, (ada.add (k * 4)).off + 3, none⟩ = some (.slice P3 o.f3.length r3)) ∧ (w'.cell? (adb.add (k * 4)) = some (.int .i64 u.f0) ∧ w'.cell? ⟨(adb.add (k * 4)).block, (adb.add (k * 4)).off + 1, none⟩ = some (.int .i64 u.f1) ∧ w'.cell? ⟨(adb.add (k * 4)).block, (adb.add (k * 4)).off + 2, none⟩ = some (.int .i64 u.f2) ∧ w'.cell? ⟨(adb.add (k * 4)).block, (adb.add (k * 4)).off + 3, none⟩ = some (.slice Q3 u.f3.length s3))) w4 := HF6.out _ HB4
          refine Za.takeL 11 (v := ?vat11) rfl (by kernel_rfl) (by kernel_rfl) (by kernel_rfl) (by kernel_rfl) (fun _ _ _ h => h) (Or.inl ⟨by rfl, ?hyat11⟩) HS ?restat11
          case hyat11 => (intro w hSw; (try dsimp only at hSw); go_simp; try with_reducible rfl)
          (try simp only [Act.put, List.setIfInBounds_toArray, List.set_cons_zero, List.set_cons_succ])
          refine Za.Walk.done (by kernel_rfl) ?_
          clear HS
          go_wp2
          go_roundw
          case rel => exact ⟨k + 1, by omega, by go_num, HE2, ⟨below_then HB.out HB.out.size HB5.out⟩⟩
          case measure => simp [intOf]; omega
        | false =>
          have HE2 : Aside0 (sameE x y = false) := ⟨by rw [HVV.out]; exact HNO.out hd⟩
          have HD := Aside0.mk hd
          clear hd
          go_upto_region 6 with fail
          refine Za.regionL (fun w' => (w'.cell? ⟨w.heap.size, 3, none⟩ = some (.slice (some ada) x.f3.length c3) ∧ w'.cell? ⟨w.heap.size + 1, 3, none⟩ = some (.slice (some adb) y.f3.length d3)) ∧ (w'.cell? (ada.add (k * 4)) = some (.int .i64 o.f0) ∧ w'.cell? ⟨(ada.add (k * 4)).block, (ada.add (k * 4)).off + 1, none⟩ = some (.int .i64 o.f1) ∧ w'.cell? ⟨(ada.add (k * 4)).block, (ada.add (k * 4)).off + 2, none⟩ = some (.int .i64 o.f2) ∧ w'.cell? ⟨(ada.add (k * 4)).block, (ada.add (k * 4)).off + 3, none⟩ = some (.slice P3 o.f3.length r3)) ∧ (w'.cell? (adb.add (k * 4)) = some (.int .i64 u.f0) ∧ w'.cell? ⟨(adb.add (k * 4)).block, (adb.add (k * 4)).off + 1, none⟩ = some (.int .i64 u.f1) ∧ w'.cell? ⟨(adb.add (k * 4)).block, (adb.add (k * 4)).off + 2, none⟩ = some (.int .i64 u.f2) ∧ w'.cell? ⟨(adb.add (k * 4)).block, (adb.add (k * 4)).off + 3, none⟩ = some (.slice Q3 u.f3.length s3))) [] (by kernel_rfl) ?_
          have HS : (fun w' => (w'.cell? ⟨w.heap.size, 3, none⟩ = some (.slice (some ada) x.f3.length c3) ∧ w'.cell? ⟨w.heap.size + 1, 3, none⟩ = some (.slice (some adb) y.f3.length d3)) ∧ (w'.cell? (ada.add (k * 4)) = some (.int .i64 o.f0) ∧ w'.cell? ⟨(ada.add (k * 4)).block, (ada.add (k * 4)).off + 1, none⟩ = some (.int .i64 o.f1) ∧ w'.cell? ⟨(ada.add (k * 4)).block, (ada.add (k * 4)).off + 2, none⟩ = some (.int .i64 o.f2) ∧ w'.cell? ⟨(ada.add (k * 4)).block, (ada.add (k * 4)).off + 3, none⟩ = some (.slice P3 o.f3.length r3)) ∧ (w'.cell? (adb.add (k * 4)) = some (.int .i64 u.f0) ∧ w'.cell? ⟨(adb.add (k * 4)).block, (adb.add (k * 4)).off + 1, none⟩ = some (.int .i64 u.f1) ∧ w'.cell? ⟨(adb.add (k * 4)).block, (adb.add (k * 4)).off + 2, none⟩ = some (.int .i64 u.f2) ∧ w'.cell? ⟨(adb.add (k * 4)).block, (adb.add (k * 4)).off + 3, none⟩ = some (.slice Q3 u.f3.length s3))) wr.drew := HF6.out _ HB0
          refine Za.takeL 0 (v := ?vaf0) rfl (by kernel_rfl) (by kernel_rfl) (by kernel_rfl) (by kernel_rfl) (fun _ _ _ h => h) (Or.inl ⟨by rfl, ?hyaf0⟩) HS ?restaf0
          case hyaf0 => (intro w hSw; (try dsimp only at hSw); go_simp; try with_reducible rfl)
          (try simp only [Act.put, List.setIfInBounds_toArray, List.set_cons_zero, List.set_cons_succ])
          refine Za.takeL 1 (v := ?vaf1) rfl (by kernel_rfl) (by kernel_rfl) (by kernel_rfl) (by kernel_rfl) (fun _ _ _ h => h) (Or.inl ⟨by rfl, ?hyaf1⟩) HS ?restaf1
          case hyaf1 => (intro w hSw; (try dsimp only at hSw); go_simp; try with_reducible rfl)
          (try simp only [Act.put, List.setIfInBounds_toArray, List.set_cons_zero, List.set_cons_succ])
          refine Za.takeL 2 (v := ?vaf2) rfl (by kernel_rfl) (by kernel_rfl) (by kernel_rfl) (by kernel_rfl) (fun _ _ _ h => h) (Or.inl ⟨by rfl, ?hyaf2⟩) HS ?restaf2
          case hyaf2 => (intro w hSw; (try dsimp only at hSw); go_simp; try with_reducible rfl)
          (try simp only [Act.put, List.setIfInBounds_toArray, List.set_cons_zero, List.set_cons_succ])
          refine Za.takeL 3 (v := ?vaf3) rfl (by kernel_rfl) (by kernel_rfl) (by kernel_rfl) (by kernel_rfl) (fun _ _ _ h => h) (Or.inl ⟨by rfl, ?hyaf3⟩) HS ?restaf3
          case hyaf3 => (intro w hSw; (try dsimp only at hSw); go_simp; try with_reducible rfl)
          (try simp only [Act.put, List.setIfInBounds_toArray, List.set_cons_zero, List.set_cons_succ])
          refine Za.takeL 4 (v := ?vaf4) rfl (by kernel_rfl) (by kernel_rfl) (by kernel_rfl) (by kernel_rfl) (fun _ _ _ h => h) (Or.inl ⟨by rfl, ?hyaf4⟩) HS ?restaf4
          case hyaf4 => (intro w hSw; (try dsimp only at hSw); go_simp; try with_reducible rfl)
          (try simp only [Act.put, List.setIfInBounds_toArray, List.set_cons_zero, List.set_cons_succ])
          refine Za.takeL 5 (v := ?vaf5) rfl (by kernel_rfl) (by kernel_rfl) (by kernel_rfl) (by kernel_rfl) (fun _ _ _ h => h) (Or.inl ⟨by rfl, ?hyaf5⟩) HS ?restaf5
          case hyaf5 => (intro w hSw; (try dsimp only at hSw); go_simp; try with_reducible rfl)
          (try simp only [Act.put, List.setIfInBounds_toArray, List.set_cons_zero, List.set_cons_succ])
          refine Za.takeL 6 (v := ?vaf6) rfl (by kernel_rfl) (by kernel_rfl) (by kernel_rfl) (by kernel_rfl) (fun _ _ _ h => h) (Or.inl ⟨by rfl, ?hyaf6⟩) HS ?restaf6
          case hyaf6 => (intro w hSw; (try dsimp only at hSw); go_simp; try with_reducible rfl)
          (try simp only [Act.put, List.setIfInBounds_toArray, List.set_cons_zero, List.set_cons_succ])
          refine Za.takeL 7 (v := ?vaf7) rfl (by kernel_rfl) (by kernel_rfl) (by kernel_rfl) (by kernel_rfl) (fun _ _ _ h => h) (Or.inl ⟨by rfl, ?hyaf7⟩) HS ?restaf7
          case hyaf7 => (intro w hSw; (try dsimp only at hSw); go_simp; try with_reducible rfl)
          (try simp only [Act.put, List.setIfInBounds_toArray, List.set_cons_zero, List.set_cons_succ])
          refine Za.takeL 8 (v := ?vaf8) rfl (by kernel_rfl) (by kernel_rfl) (by kernel_rfl) (by kernel_rfl) (fun _ _ _ h => h) (Or.inl ⟨by rfl, ?hyaf8⟩) HS ?restaf8
          case hyaf8 => (intro w hSw; (try dsimp only at hSw); go_simp; try with_reducible rfl)
          (try simp only [Act.put, List.setIfInBounds_toArray, List.set_cons_zero, List.set_cons_succ])
          refine Za.takeL 9 (v := ?vaf9) rfl (by kernel_rfl) (by kernel_rfl) (by kernel_rfl) (by kernel_rfl) (fun _ _ _ h => h) (Or.inl ⟨by rfl, ?hyaf9⟩) HS ?restaf9
          case hyaf9 => (intro w hSw; (try dsimp only at hSw); go_simp; try with_reducible rfl)
          (try simp only [Act.put, List.setIfInBounds_toArray, List.set_cons_zero, List.set_cons_succ])
          clear HS
          refine Za.nextL 10 (by kernel_rfl) rfl (fun K' hK => ?_)
          go_simp
          (go_at_call 64; refine (HQ.out P3 r3 Q3 s3 _ (HIX.out.below HB0) (HIY.out.below HB0)).mono ?_; rintro e w4 ⟨rfl, hb4⟩; rw [HD.out]; have HB4 : Below wr.heap.size wr w4 := keepD hb4; have HB5 := Aside0.mk HB4; clear hb4)
          go_wp2_with fail
          refine hK.out _ _ ⟨fun _ => HF6.out _ HB4, ?_⟩
          clear hK K'
          (try simp only [Act.put, List.setIfInBounds_toArray, List.set_cons_zero, List.set_cons_succ])
          have HS : (fun w' => (w'.cell? ⟨w.heap.size, 3, none⟩ = some (.slice (some ada) x.f3.length c3) ∧ w'.cell? ⟨w.heap.size + 1, 3, none⟩ = some (.slice (some adb) y.f3.length d3)) ∧ (w'.cell? (ada.add (k * 4)) = some (.int .i64 o.f0) ∧ w'.cell? ⟨(ada.add (k * 4)).block, (ada.add (k * 4)).off + 1, none⟩ = some (.int .i64 o.f1) ∧ w'.cell? ⟨(ada.add (k * 4)).block, (ada.add (k * 4)).off + 2, none⟩ = some (.int .i64 o.f2) ∧ w'.cell? ⟨(ada.add (k * 4)).block, (ada.add (k * 4)).off + 3, none⟩ = some (.slice P3 o.f3.length r3)) ∧ (w'.cell? (adb.add (k * 4)) = some (.int .i64 u.f0) ∧ w'.cell? ⟨(adb.add (k * 4)).block, (adb.add (k * 4)).off + 1, none⟩ = some (.int .i64 u.f1) ∧ w'.cell? ⟨(adb.add (k * 4)).block, (adb.add (k * 4)).off + 2, none⟩ = some (.int .i64 u.f2) ∧ w'.cell? ⟨(adb.add (k * 4)).block, (adb.add (k * 4)).off + 3, none⟩ = some (.slice Q3 u.f3.length s3))) w4 := HF6.out _ HB4
          refine Za.takeL 11 (v := ?vaf11) rfl (by kernel_rfl) (by kernel_rfl) (by kernel_rfl) (by kernel_rfl) (fun _ _ _ h => h) (Or.inl ⟨by rfl, ?hyaf11⟩) HS ?restaf11
          case hyaf11 => (intro w hSw; (try dsimp only at hSw); go_simp; try with_reducible rfl)
          (try simp only [Act.put, List.setIfInBounds_toArray, List.set_cons_zero, List.set_cons_succ])
          refine Za.Walk.done (by kernel_rfl) ?_
          clear HS
          go_wp2
          go_ret
          exact ⟨ret_bool HE2.out.symm, below_then HX.out HX.out.size (below_then HB.out HB.out.size HB5.out)⟩
      · have hke : k = x.f3.length := by omega
        subst hke
        have g1 : decide (x.f3.length < x.f3.length) = false := decide_eq_false (by omega)
        have HE2 : Aside0 (sameE x y = true) := ⟨by have h := HN.out; rw [HVV.out]; rwa [List.take_length, HLN.out, List.take_length] at h⟩
        go_wp2
        go_ret
        exact ⟨ret_bool HE2.out.symm, below_then HX.out HX.out.size HB.out⟩
  · have n3 : ((x.f3.length : Int) != (y.f3.length : Int)) = true := by simp; omega
    have HF : Aside0 (sameE x y = false) := ⟨by rw [HVV.out]; exact eqQ_len sameE _ _ hl⟩
    clear hl
    go_enter Try.func64, Try.ntmps64
    go_upto_region 1 with fail
    rw [← HW.out]
    go_wp2
    go_ret
    exact ⟨ret_bool HF.out.symm, HX.out⟩
theorem sExSame_any (x y : Ex) : SCall x y := sExSame_of x y (fun a ha b hb =>
  have := cnt_mem ha
  sExSame_any a b)
termination_by cntL x.f3
set_option maxHeartbeats 4000000 in
set_option maxRecDepth 100000 in
theorem l8Same_any (x y : TRule) (A6 : Option Addr) (c6 : Nat) (B6 : Option Addr) (d6 : Nat) (w : World) (hA6 : IsS (kE 83) w x.f3.f3 A6 c6) (hB6 : IsS (kE 83) w y.f3.f3 B6 d6) :
    Calls Try.prog 39 #[.agg #[.string x.f0, .int .i64 x.f1, .int .i64 x.f2, .int .i64 x.f3.f0, .int .i64 x.f3.f1, .int .i64 x.f3.f2, .slice A6 x.f3.f3.length c6, .int .i64 x.f4, .int .i64 x.f5, .int .i64 x.f6, .int .i64 x.f7, .int .i64 x.f8], .agg #[.string y.f0, .int .i64 y.f1, .int .i64 y.f2, .int .i64 y.f3.f0, .int .i64 y.f3.f1, .int .i64 y.f3.f2, .slice B6 y.f3.f3.length d6, .int .i64 y.f4, .int .i64 y.f5, .int .i64 y.f6, .int .i64 y.f7, .int .i64 y.f8]] w fun e w' => e = .returned (.bool (sameR x y)) ∧ Below w.heap.size w w' := by
  obtain ⟨hb0, bP, bQ⟩ := boxes2 w #[.string x.f0, .int .i64 x.f1, .int .i64 x.f2, .int .i64 x.f3.f0, .int .i64 x.f3.f1, .int .i64 x.f3.f2, .slice A6 x.f3.f3.length c6, .int .i64 x.f4, .int .i64 x.f5, .int .i64 x.f6, .int .i64 x.f7, .int .i64 x.f8] #[.string y.f0, .int .i64 y.f1, .int .i64 y.f2, .int .i64 y.f3.f0, .int .i64 y.f3.f1, .int .i64 y.f3.f2, .slice B6 y.f3.f3.length d6, .int .i64 y.f4, .int .i64 y.f5, .int .i64 y.f6, .int .i64 y.f7, .int .i64 y.f8] 85 85
  have HA6 := Aside0.mk (hA6.below hb0)
  have HB6 := Aside0.mk (hB6.below hb0)
  clear hA6 hB6
  obtain ⟨W, hW⟩ : ∃ W, W = (w.alloc (.cells #[.string x.f0, .int .i64 x.f1, .int .i64 x.f2, .int .i64 x.f3.f0, .int .i64 x.f3.f1, .int .i64 x.f3.f2, .slice A6 x.f3.f3.length c6, .int .i64 x.f4, .int .i64 x.f5, .int .i64 x.f6, .int .i64 x.f7, .int .i64 x.f8] 85)).alloc (.cells #[.string y.f0, .int .i64 y.f1, .int .i64 y.f2, .int .i64 y.f3.f0, .int .i64 y.f3.f1, .int .i64 y.f3.f2, .slice B6 y.f3.f3.length d6, .int .i64 y.f4, .int .i64 y.f5, .int .i64 y.f6, .int .i64 y.f7, .int .i64 y.f8] 85) := ⟨_, rfl⟩
  rw [← hW] at hb0 bP bQ HA6 HB6
  have HW := Aside0.mk hW
  have HX := Aside0.mk hb0
  clear hb0 hW
  have p0 := (blk_cell bP 0).trans rfl
  have q0 := (blk_cell bQ 0).trans rfl
  have p1 := (blk_cell bP 1).trans rfl
  have q1 := (blk_cell bQ 1).trans rfl
  have p2 := (blk_cell bP 2).trans rfl
  have q2 := (blk_cell bQ 2).trans rfl
  have p3 := (blk_cell bP 3).trans rfl
  have q3 := (blk_cell bQ 3).trans rfl
  have p4 := (blk_cell bP 4).trans rfl
  have q4 := (blk_cell bQ 4).trans rfl
  have p5 := (blk_cell bP 5).trans rfl
  have q5 := (blk_cell bQ 5).trans rfl
  have p6 := (blk_cell bP 6).trans rfl
  have q6 := (blk_cell bQ 6).trans rfl
  have p7 := (blk_cell bP 7).trans rfl
  have q7 := (blk_cell bQ 7).trans rfl
  have p8 := (blk_cell bP 8).trans rfl
  have q8 := (blk_cell bQ 8).trans rfl
  have p9 := (blk_cell bP 9).trans rfl
  have q9 := (blk_cell bQ 9).trans rfl
  have p10 := (blk_cell bP 10).trans rfl
  have q10 := (blk_cell bQ 10).trans rfl
  have p11 := (blk_cell bP 11).trans rfl
  have q11 := (blk_cell bQ 11).trans rfl
  have HC0 : Aside0 (Below W.heap.size W W) := ⟨Below.refl _ _⟩
  have HV : Aside0 (sameR x y = ((x.f0.toList == y.f0.toList) && (x.f1 == y.f1) && (x.f2 == y.f2) && (sameE x.f3 y.f3) && (x.f4 == y.f4) && (x.f5 == y.f5) && (x.f6 == y.f6) && (x.f7 == y.f7) && (x.f8 == y.f8))) := ⟨by exact sameR_eq x y⟩
  cases h0 : (x.f0.toList == y.f0.toList) with
  | false =>
    have HF : Aside0 (sameR x y = false) := ⟨by rw [HV.out, h0]; simp⟩
    go_enter Try.func39, Try.ntmps39
    go_upto_region 1 with fail
    rw [← HW.out]
    go_wp2
    go_ret
    exact ⟨ret_bool HF.out.symm, below_then HX.out HX.out.size HC0.out⟩
  | true =>
  cases h1 : (x.f1 == y.f1) with
  | false =>
    have HF : Aside0 (sameR x y = false) := ⟨by rw [HV.out, h0, h1]; simp⟩
    go_enter Try.func39, Try.ntmps39
    go_upto_region 1 with fail
    rw [← HW.out]
    go_wp2
    go_ret
    exact ⟨ret_bool HF.out.symm, below_then HX.out HX.out.size HC0.out⟩
  | true =>
  cases h2 : (x.f2 == y.f2) with
  | false =>
    have HF : Aside0 (sameR x y = false) := ⟨by rw [HV.out, h0, h1, h2]; simp⟩
    go_enter Try.func39, Try.ntmps39
    go_upto_region 1 with fail
    rw [← HW.out]
    go_wp2
    go_ret
    exact ⟨ret_bool HF.out.symm, below_then HX.out HX.out.size HC0.out⟩
  | true =>
  cases h3 : (sameE x.f3 y.f3) with
  | false =>
    have HF : Aside0 (sameR x y = false) := ⟨by rw [HV.out, h0, h1, h2, h3]; simp⟩
    have HE3 := Aside0.mk h3
    clear h3
    go_enter Try.func39, Try.ntmps39
    go_upto_region 1 with fail
    rw [← HW.out]
    go_wp2_with (go_at_call 64; refine (sExSame_any x.f3 y.f3 A6 c6 B6 d6 _ (HA6.out.below HC0.out) (HB6.out.below HC0.out)).mono ?_; rintro e w1 ⟨rfl, hb1⟩; rw [HE3.out]; have p1_0 := pw_cell_below hb1 p0; have q1_0 := pw_cell_below hb1 q0; have p1_1 := pw_cell_below hb1 p1; have q1_1 := pw_cell_below hb1 q1; have p1_2 := pw_cell_below hb1 p2; have q1_2 := pw_cell_below hb1 q2; have p1_3 := pw_cell_below hb1 p3; have q1_3 := pw_cell_below hb1 q3; have p1_4 := pw_cell_below hb1 p4; have q1_4 := pw_cell_below hb1 q4; have p1_5 := pw_cell_below hb1 p5; have q1_5 := pw_cell_below hb1 q5; have p1_6 := pw_cell_below hb1 p6; have q1_6 := pw_cell_below hb1 q6; have p1_7 := pw_cell_below hb1 p7; have q1_7 := pw_cell_below hb1 q7; have p1_8 := pw_cell_below hb1 p8; have q1_8 := pw_cell_below hb1 q8; have p1_9 := pw_cell_below hb1 p9; have q1_9 := pw_cell_below hb1 q9; have p1_10 := pw_cell_below hb1 p10; have q1_10 := pw_cell_below hb1 q10; have p1_11 := pw_cell_below hb1 p11; have q1_11 := pw_cell_below hb1 q11; have HC1 := Aside0.mk (below_then HC0.out HC0.out.size hb1); clear hb1)
    go_ret
    exact ⟨ret_bool HF.out.symm, below_then HX.out HX.out.size HC1.out⟩
  | true =>
  cases h4 : (x.f4 == y.f4) with
  | false =>
    have HF : Aside0 (sameR x y = false) := ⟨by rw [HV.out, h0, h1, h2, h3, h4]; simp⟩
    have HE3 := Aside0.mk h3
    clear h3
    go_enter Try.func39, Try.ntmps39
    go_upto_region 1 with fail
    rw [← HW.out]
    go_wp2_with (go_at_call 64; refine (sExSame_any x.f3 y.f3 A6 c6 B6 d6 _ (HA6.out.below HC0.out) (HB6.out.below HC0.out)).mono ?_; rintro e w1 ⟨rfl, hb1⟩; rw [HE3.out]; have p1_0 := pw_cell_below hb1 p0; have q1_0 := pw_cell_below hb1 q0; have p1_1 := pw_cell_below hb1 p1; have q1_1 := pw_cell_below hb1 q1; have p1_2 := pw_cell_below hb1 p2; have q1_2 := pw_cell_below hb1 q2; have p1_3 := pw_cell_below hb1 p3; have q1_3 := pw_cell_below hb1 q3; have p1_4 := pw_cell_below hb1 p4; have q1_4 := pw_cell_below hb1 q4; have p1_5 := pw_cell_below hb1 p5; have q1_5 := pw_cell_below hb1 q5; have p1_6 := pw_cell_below hb1 p6; have q1_6 := pw_cell_below hb1 q6; have p1_7 := pw_cell_below hb1 p7; have q1_7 := pw_cell_below hb1 q7; have p1_8 := pw_cell_below hb1 p8; have q1_8 := pw_cell_below hb1 q8; have p1_9 := pw_cell_below hb1 p9; have q1_9 := pw_cell_below hb1 q9; have p1_10 := pw_cell_below hb1 p10; have q1_10 := pw_cell_below hb1 q10; have p1_11 := pw_cell_below hb1 p11; have q1_11 := pw_cell_below hb1 q11; have HC1 := Aside0.mk (below_then HC0.out HC0.out.size hb1); clear hb1)
    go_ret
    exact ⟨ret_bool HF.out.symm, below_then HX.out HX.out.size HC1.out⟩
  | true =>
  cases h5 : (x.f5 == y.f5) with
  | false =>
    have HF : Aside0 (sameR x y = false) := ⟨by rw [HV.out, h0, h1, h2, h3, h4, h5]; simp⟩
    have HE3 := Aside0.mk h3
    clear h3
    go_enter Try.func39, Try.ntmps39
    go_upto_region 1 with fail
    rw [← HW.out]
    go_wp2_with (go_at_call 64; refine (sExSame_any x.f3 y.f3 A6 c6 B6 d6 _ (HA6.out.below HC0.out) (HB6.out.below HC0.out)).mono ?_; rintro e w1 ⟨rfl, hb1⟩; rw [HE3.out]; have p1_0 := pw_cell_below hb1 p0; have q1_0 := pw_cell_below hb1 q0; have p1_1 := pw_cell_below hb1 p1; have q1_1 := pw_cell_below hb1 q1; have p1_2 := pw_cell_below hb1 p2; have q1_2 := pw_cell_below hb1 q2; have p1_3 := pw_cell_below hb1 p3; have q1_3 := pw_cell_below hb1 q3; have p1_4 := pw_cell_below hb1 p4; have q1_4 := pw_cell_below hb1 q4; have p1_5 := pw_cell_below hb1 p5; have q1_5 := pw_cell_below hb1 q5; have p1_6 := pw_cell_below hb1 p6; have q1_6 := pw_cell_below hb1 q6; have p1_7 := pw_cell_below hb1 p7; have q1_7 := pw_cell_below hb1 q7; have p1_8 := pw_cell_below hb1 p8; have q1_8 := pw_cell_below hb1 q8; have p1_9 := pw_cell_below hb1 p9; have q1_9 := pw_cell_below hb1 q9; have p1_10 := pw_cell_below hb1 p10; have q1_10 := pw_cell_below hb1 q10; have p1_11 := pw_cell_below hb1 p11; have q1_11 := pw_cell_below hb1 q11; have HC1 := Aside0.mk (below_then HC0.out HC0.out.size hb1); clear hb1)
    go_ret
    exact ⟨ret_bool HF.out.symm, below_then HX.out HX.out.size HC1.out⟩
  | true =>
  cases h6 : (x.f6 == y.f6) with
  | false =>
    have HF : Aside0 (sameR x y = false) := ⟨by rw [HV.out, h0, h1, h2, h3, h4, h5, h6]; simp⟩
    have HE3 := Aside0.mk h3
    clear h3
    go_enter Try.func39, Try.ntmps39
    go_upto_region 1 with fail
    rw [← HW.out]
    go_wp2_with (go_at_call 64; refine (sExSame_any x.f3 y.f3 A6 c6 B6 d6 _ (HA6.out.below HC0.out) (HB6.out.below HC0.out)).mono ?_; rintro e w1 ⟨rfl, hb1⟩; rw [HE3.out]; have p1_0 := pw_cell_below hb1 p0; have q1_0 := pw_cell_below hb1 q0; have p1_1 := pw_cell_below hb1 p1; have q1_1 := pw_cell_below hb1 q1; have p1_2 := pw_cell_below hb1 p2; have q1_2 := pw_cell_below hb1 q2; have p1_3 := pw_cell_below hb1 p3; have q1_3 := pw_cell_below hb1 q3; have p1_4 := pw_cell_below hb1 p4; have q1_4 := pw_cell_below hb1 q4; have p1_5 := pw_cell_below hb1 p5; have q1_5 := pw_cell_below hb1 q5; have p1_6 := pw_cell_below hb1 p6; have q1_6 := pw_cell_below hb1 q6; have p1_7 := pw_cell_below hb1 p7; have q1_7 := pw_cell_below hb1 q7; have p1_8 := pw_cell_below hb1 p8; have q1_8 := pw_cell_below hb1 q8; have p1_9 := pw_cell_below hb1 p9; have q1_9 := pw_cell_below hb1 q9; have p1_10 := pw_cell_below hb1 p10; have q1_10 := pw_cell_below hb1 q10; have p1_11 := pw_cell_below hb1 p11; have q1_11 := pw_cell_below hb1 q11; have HC1 := Aside0.mk (below_then HC0.out HC0.out.size hb1); clear hb1)
    go_ret
    exact ⟨ret_bool HF.out.symm, below_then HX.out HX.out.size HC1.out⟩
  | true =>
  cases h7 : (x.f7 == y.f7) with
  | false =>
    have HF : Aside0 (sameR x y = false) := ⟨by rw [HV.out, h0, h1, h2, h3, h4, h5, h6, h7]; simp⟩
    have HE3 := Aside0.mk h3
    clear h3
    go_enter Try.func39, Try.ntmps39
    go_upto_region 1 with fail
    rw [← HW.out]
    go_wp2_with (go_at_call 64; refine (sExSame_any x.f3 y.f3 A6 c6 B6 d6 _ (HA6.out.below HC0.out) (HB6.out.below HC0.out)).mono ?_; rintro e w1 ⟨rfl, hb1⟩; rw [HE3.out]; have p1_0 := pw_cell_below hb1 p0; have q1_0 := pw_cell_below hb1 q0; have p1_1 := pw_cell_below hb1 p1; have q1_1 := pw_cell_below hb1 q1; have p1_2 := pw_cell_below hb1 p2; have q1_2 := pw_cell_below hb1 q2; have p1_3 := pw_cell_below hb1 p3; have q1_3 := pw_cell_below hb1 q3; have p1_4 := pw_cell_below hb1 p4; have q1_4 := pw_cell_below hb1 q4; have p1_5 := pw_cell_below hb1 p5; have q1_5 := pw_cell_below hb1 q5; have p1_6 := pw_cell_below hb1 p6; have q1_6 := pw_cell_below hb1 q6; have p1_7 := pw_cell_below hb1 p7; have q1_7 := pw_cell_below hb1 q7; have p1_8 := pw_cell_below hb1 p8; have q1_8 := pw_cell_below hb1 q8; have p1_9 := pw_cell_below hb1 p9; have q1_9 := pw_cell_below hb1 q9; have p1_10 := pw_cell_below hb1 p10; have q1_10 := pw_cell_below hb1 q10; have p1_11 := pw_cell_below hb1 p11; have q1_11 := pw_cell_below hb1 q11; have HC1 := Aside0.mk (below_then HC0.out HC0.out.size hb1); clear hb1)
    go_ret
    exact ⟨ret_bool HF.out.symm, below_then HX.out HX.out.size HC1.out⟩
  | true =>
  cases h8 : (x.f8 == y.f8) with
  | false =>
    have HF : Aside0 (sameR x y = false) := ⟨by rw [HV.out, h0, h1, h2, h3, h4, h5, h6, h7, h8]; simp⟩
    have HE3 := Aside0.mk h3
    clear h3
    go_enter Try.func39, Try.ntmps39
    go_upto_region 1 with fail
    rw [← HW.out]
    go_wp2_with (go_at_call 64; refine (sExSame_any x.f3 y.f3 A6 c6 B6 d6 _ (HA6.out.below HC0.out) (HB6.out.below HC0.out)).mono ?_; rintro e w1 ⟨rfl, hb1⟩; rw [HE3.out]; have p1_0 := pw_cell_below hb1 p0; have q1_0 := pw_cell_below hb1 q0; have p1_1 := pw_cell_below hb1 p1; have q1_1 := pw_cell_below hb1 q1; have p1_2 := pw_cell_below hb1 p2; have q1_2 := pw_cell_below hb1 q2; have p1_3 := pw_cell_below hb1 p3; have q1_3 := pw_cell_below hb1 q3; have p1_4 := pw_cell_below hb1 p4; have q1_4 := pw_cell_below hb1 q4; have p1_5 := pw_cell_below hb1 p5; have q1_5 := pw_cell_below hb1 q5; have p1_6 := pw_cell_below hb1 p6; have q1_6 := pw_cell_below hb1 q6; have p1_7 := pw_cell_below hb1 p7; have q1_7 := pw_cell_below hb1 q7; have p1_8 := pw_cell_below hb1 p8; have q1_8 := pw_cell_below hb1 q8; have p1_9 := pw_cell_below hb1 p9; have q1_9 := pw_cell_below hb1 q9; have p1_10 := pw_cell_below hb1 p10; have q1_10 := pw_cell_below hb1 q10; have p1_11 := pw_cell_below hb1 p11; have q1_11 := pw_cell_below hb1 q11; have HC1 := Aside0.mk (below_then HC0.out HC0.out.size hb1); clear hb1)
    go_ret
    exact ⟨ret_bool HF.out.symm, below_then HX.out HX.out.size HC1.out⟩
  | true =>
  have HF : Aside0 (sameR x y = true) := ⟨by rw [HV.out, h0, h1, h2, h3, h4, h5, h6, h7, h8]; simp⟩
  have HE3 := Aside0.mk h3
  clear h3
  go_enter Try.func39, Try.ntmps39
  go_upto_region 1 with fail
  rw [← HW.out]
  go_wp2_with (go_at_call 64; refine (sExSame_any x.f3 y.f3 A6 c6 B6 d6 _ (HA6.out.below HC0.out) (HB6.out.below HC0.out)).mono ?_; rintro e w1 ⟨rfl, hb1⟩; rw [HE3.out]; have p1_0 := pw_cell_below hb1 p0; have q1_0 := pw_cell_below hb1 q0; have p1_1 := pw_cell_below hb1 p1; have q1_1 := pw_cell_below hb1 q1; have p1_2 := pw_cell_below hb1 p2; have q1_2 := pw_cell_below hb1 q2; have p1_3 := pw_cell_below hb1 p3; have q1_3 := pw_cell_below hb1 q3; have p1_4 := pw_cell_below hb1 p4; have q1_4 := pw_cell_below hb1 q4; have p1_5 := pw_cell_below hb1 p5; have q1_5 := pw_cell_below hb1 q5; have p1_6 := pw_cell_below hb1 p6; have q1_6 := pw_cell_below hb1 q6; have p1_7 := pw_cell_below hb1 p7; have q1_7 := pw_cell_below hb1 q7; have p1_8 := pw_cell_below hb1 p8; have q1_8 := pw_cell_below hb1 q8; have p1_9 := pw_cell_below hb1 p9; have q1_9 := pw_cell_below hb1 q9; have p1_10 := pw_cell_below hb1 p10; have q1_10 := pw_cell_below hb1 q10; have p1_11 := pw_cell_below hb1 p11; have q1_11 := pw_cell_below hb1 q11; have HC1 := Aside0.mk (below_then HC0.out HC0.out.size hb1); clear hb1)
  go_ret
  exact ⟨ret_bool HF.out.symm, below_then HX.out HX.out.size HC1.out⟩
set_option maxHeartbeats 4000000 in
set_option maxRecDepth 100000 in
theorem sRulesSame_any (A B : Option Addr) (c d : Nat) (a b : List TRule) (w : World) (ha : IsS kRule w a A c) (hb : IsS kRule w b B d) :
    Calls Try.prog 14 #[.slice A a.length c, .slice B b.length d] w fun e w' => e = .returned (.bool (eqQ sameR a b)) ∧ Below w.heap.size w w' := by
  have hna := ha.len
  have hnb := hb.len
  have HA := Aside0.mk ha
  have HBb := Aside0.mk hb
  clear ha hb
  by_cases hl : a.length = b.length
  · have n0 : ((a.length : Int) != (b.length : Int)) = false := by simp [hl]
    go_enter Try.func14, Try.ntmps14
    have HLN := Aside0.mk hl
    clear hl
    go_wp2
    go_loopw [5] (fun vi wr => ∃ (k : Nat), k ≤ a.length ∧ vi = .int .i64 k ∧ Aside0 (eqQ sameR (a.take k) (b.take k) = true) ∧ Aside0 (Below w.heap.size w wr)) (fun vi _ => a.length - (intOf vi).toNat)
    case atStart => exact ⟨0, Nat.zero_le _, rfl, ⟨by simp [eqQ]⟩, ⟨Below.refl _ _⟩⟩
    case round =>
      obtain ⟨k, hk, rfl, HN, HB⟩ := hrel
      by_cases hlt : k < a.length
      · have g1 : decide (k < a.length) = true := decide_eq_true hlt
        have i1 : (k : Int) < a.length := by omega
        have hltb : k < b.length := by have := HLN.out; omega
        have i2 : (k : Int) < b.length := by omega
        obtain ⟨ada, A6, c6, rfl, a0_, a1_, a2_, a3_, a4_, a5_, a6_, a7_, a8_, a9_, a10_, a11_, ja6⟩ := atRule (HA.out.below HB.out) k hlt
        obtain ⟨adb, B6, d6, rfl, b0_, b1_, b2_, b3_, b4_, b5_, b6_, b7_, b8_, b9_, b10_, b11_, jb6⟩ := atRule (HBb.out.below HB.out) k hltb
        have HSN := Aside0.mk (eqQ_snoc sameR zRule a b k hlt HLN.out)
        have HNO := Aside0.mk (eqQ_no sameR zRule a b k hlt HLN.out)
        generalize a.getD k zRule = x at a0_ a1_ a2_ a3_ a4_ a5_ a6_ a7_ a8_ a9_ a10_ a11_ ja6 HSN HNO
        generalize b.getD k zRule = y at b0_ b1_ b2_ b3_ b4_ b5_ b6_ b7_ b8_ b9_ b10_ b11_ jb6 HSN HNO
        have HIX6 := Aside0.mk ja6
        have HIY6 := Aside0.mk jb6
        have HF6 : Aside0 (∀ w', Below wr.heap.size wr w' → (fun w' => (w'.cell? (ada.add (k * 12)) = some (.string x.f0) ∧ w'.cell? ⟨(ada.add (k * 12)).block, (ada.add (k * 12)).off + 1, none⟩ = some (.int .i64 x.f1) ∧ w'.cell? ⟨(ada.add (k * 12)).block, (ada.add (k * 12)).off + 2, none⟩ = some (.int .i64 x.f2) ∧ w'.cell? ⟨(ada.add (k * 12)).block, (ada.add (k * 12)).off + 3, none⟩ = some (.int .i64 x.f3.f0) ∧ w'.cell? ⟨(ada.add (k * 12)).block, (ada.add (k * 12)).off + 4, none⟩ = some (.int .i64 x.f3.f1) ∧ w'.cell? ⟨(ada.add (k * 12)).block, (ada.add (k * 12)).off + 5, none⟩ = some (.int .i64 x.f3.f2) ∧ w'.cell? ⟨(ada.add (k * 12)).block, (ada.add (k * 12)).off + 6, none⟩ = some (.slice A6 x.f3.f3.length c6) ∧ w'.cell? ⟨(ada.add (k * 12)).block, (ada.add (k * 12)).off + 7, none⟩ = some (.int .i64 x.f4) ∧ w'.cell? ⟨(ada.add (k * 12)).block, (ada.add (k * 12)).off + 8, none⟩ = some (.int .i64 x.f5) ∧ w'.cell? ⟨(ada.add (k * 12)).block, (ada.add (k * 12)).off + 9, none⟩ = some (.int .i64 x.f6) ∧ w'.cell? ⟨(ada.add (k * 12)).block, (ada.add (k * 12)).off + 10, none⟩ = some (.int .i64 x.f7) ∧ w'.cell? ⟨(ada.add (k * 12)).block, (ada.add (k * 12)).off + 11, none⟩ = some (.int .i64 x.f8)) ∧ (w'.cell? (adb.add (k * 12)) = some (.string y.f0) ∧ w'.cell? ⟨(adb.add (k * 12)).block, (adb.add (k * 12)).off + 1, none⟩ = some (.int .i64 y.f1) ∧ w'.cell? ⟨(adb.add (k * 12)).block, (adb.add (k * 12)).off + 2, none⟩ = some (.int .i64 y.f2) ∧ w'.cell? ⟨(adb.add (k * 12)).block, (adb.add (k * 12)).off + 3, none⟩ = some (.int .i64 y.f3.f0) ∧ w'.cell? ⟨(adb.add (k * 12)).block, (adb.add (k * 12)).off + 4, none⟩ = some (.int .i64 y.f3.f1) ∧ w'.cell? ⟨(adb.add (k * 12)).block, (adb.add (k * 12)).off + 5, none⟩ = some (.int .i64 y.f3.f2) ∧ w'.cell? ⟨(adb.add (k * 12)).block, (adb.add (k * 12)).off + 6, none⟩ = some (.slice B6 y.f3.f3.length d6) ∧ w'.cell? ⟨(adb.add (k * 12)).block, (adb.add (k * 12)).off + 7, none⟩ = some (.int .i64 y.f4) ∧ w'.cell? ⟨(adb.add (k * 12)).block, (adb.add (k * 12)).off + 8, none⟩ = some (.int .i64 y.f5) ∧ w'.cell? ⟨(adb.add (k * 12)).block, (adb.add (k * 12)).off + 9, none⟩ = some (.int .i64 y.f6) ∧ w'.cell? ⟨(adb.add (k * 12)).block, (adb.add (k * 12)).off + 10, none⟩ = some (.int .i64 y.f7) ∧ w'.cell? ⟨(adb.add (k * 12)).block, (adb.add (k * 12)).off + 11, none⟩ = some (.int .i64 y.f8))) w') := ⟨fun w' h => ⟨⟨pw_cell_below h a0_, pw_cell_below h a1_, pw_cell_below h a2_, pw_cell_below h a3_, pw_cell_below h a4_, pw_cell_below h a5_, pw_cell_below h a6_, pw_cell_below h a7_, pw_cell_below h a8_, pw_cell_below h a9_, pw_cell_below h a10_, pw_cell_below h a11_⟩, ⟨pw_cell_below h b0_, pw_cell_below h b1_, pw_cell_below h b2_, pw_cell_below h b3_, pw_cell_below h b4_, pw_cell_below h b5_, pw_cell_below h b6_, pw_cell_below h b7_, pw_cell_below h b8_, pw_cell_below h b9_, pw_cell_below h b10_, pw_cell_below h b11_⟩⟩⟩
        have HB0 : Below wr.heap.size wr wr.drew := below_drew (Below.refl _ _)
        clear a0_ a1_ a2_ a3_ a4_ a5_ a6_ a7_ a8_ a9_ a10_ a11_ ja6 b0_ b1_ b2_ b3_ b4_ b5_ b6_ b7_ b8_ b9_ b10_ b11_ jb6
        cases hd : sameR x y with
        | true =>
          have HE2 : Aside0 (eqQ sameR (a.take (k + 1)) (b.take (k + 1)) = true) := ⟨by rw [HSN.out, HN.out, hd]; rfl⟩
          have HD := Aside0.mk hd
          clear hd
          go_upto_region 6 with fail
          refine Za.regionL (fun w' => (w'.cell? (ada.add (k * 12)) = some (.string x.f0) ∧ w'.cell? ⟨(ada.add (k * 12)).block, (ada.add (k * 12)).off + 1, none⟩ = some (.int .i64 x.f1) ∧ w'.cell? ⟨(ada.add (k * 12)).block, (ada.add (k * 12)).off + 2, none⟩ = some (.int .i64 x.f2) ∧ w'.cell? ⟨(ada.add (k * 12)).block, (ada.add (k * 12)).off + 3, none⟩ = some (.int .i64 x.f3.f0) ∧ w'.cell? ⟨(ada.add (k * 12)).block, (ada.add (k * 12)).off + 4, none⟩ = some (.int .i64 x.f3.f1) ∧ w'.cell? ⟨(ada.add (k * 12)).block, (ada.add (k * 12)).off + 5, none⟩ = some (.int .i64 x.f3.f2) ∧ w'.cell? ⟨(ada.add (k * 12)).block, (ada.add (k * 12)).off + 6, none⟩ = some (.slice A6 x.f3.f3.length c6) ∧ w'.cell? ⟨(ada.add (k * 12)).block, (ada.add (k * 12)).off + 7, none⟩ = some (.int .i64 x.f4) ∧ w'.cell? ⟨(ada.add (k * 12)).block, (ada.add (k * 12)).off + 8, none⟩ = some (.int .i64 x.f5) ∧ w'.cell? ⟨(ada.add (k * 12)).block, (ada.add (k * 12)).off + 9, none⟩ = some (.int .i64 x.f6) ∧ w'.cell? ⟨(ada.add (k * 12)).block, (ada.add (k * 12)).off + 10, none⟩ = some (.int .i64 x.f7) ∧ w'.cell? ⟨(ada.add (k * 12)).block, (ada.add (k * 12)).off + 11, none⟩ = some (.int .i64 x.f8)) ∧ (w'.cell? (adb.add (k * 12)) = some (.string y.f0) ∧ w'.cell? ⟨(adb.add (k * 12)).block, (adb.add (k * 12)).off + 1, none⟩ = some (.int .i64 y.f1) ∧ w'.cell? ⟨(adb.add (k * 12)).block, (adb.add (k * 12)).off + 2, none⟩ = some (.int .i64 y.f2) ∧ w'.cell? ⟨(adb.add (k * 12)).block, (adb.add (k * 12)).off + 3, none⟩ = some (.int .i64 y.f3.f0) ∧ w'.cell? ⟨(adb.add (k * 12)).block, (adb.add (k * 12)).off + 4, none⟩ = some (.int .i64 y.f3.f1) ∧ w'.cell? ⟨(adb.add (k * 12)).block, (adb.add (k * 12)).off + 5, none⟩ = some (.int .i64 y.f3.f2) ∧ w'.cell? ⟨(adb.add (k * 12)).block, (adb.add (k * 12)).off + 6, none⟩ = some (.slice B6 y.f3.f3.length d6) ∧ w'.cell? ⟨(adb.add (k * 12)).block, (adb.add (k * 12)).off + 7, none⟩ = some (.int .i64 y.f4) ∧ w'.cell? ⟨(adb.add (k * 12)).block, (adb.add (k * 12)).off + 8, none⟩ = some (.int .i64 y.f5) ∧ w'.cell? ⟨(adb.add (k * 12)).block, (adb.add (k * 12)).off + 9, none⟩ = some (.int .i64 y.f6) ∧ w'.cell? ⟨(adb.add (k * 12)).block, (adb.add (k * 12)).off + 10, none⟩ = some (.int .i64 y.f7) ∧ w'.cell? ⟨(adb.add (k * 12)).block, (adb.add (k * 12)).off + 11, none⟩ = some (.int .i64 y.f8))) [] (by kernel_rfl) ?_
          have HS : (fun w' => (w'.cell? (ada.add (k * 12)) = some (.string x.f0) ∧ w'.cell? ⟨(ada.add (k * 12)).block, (ada.add (k * 12)).off + 1, none⟩ = some (.int .i64 x.f1) ∧ w'.cell? ⟨(ada.add (k * 12)).block, (ada.add (k * 12)).off + 2, none⟩ = some (.int .i64 x.f2) ∧ w'.cell? ⟨(ada.add (k * 12)).block, (ada.add (k * 12)).off + 3, none⟩ = some (.int .i64 x.f3.f0) ∧ w'.cell? ⟨(ada.add (k * 12)).block, (ada.add (k * 12)).off + 4, none⟩ = some (.int .i64 x.f3.f1) ∧ w'.cell? ⟨(ada.add (k * 12)).block, (ada.add (k * 12)).off + 5, none⟩ = some (.int .i64 x.f3.f2) ∧ w'.cell? ⟨(ada.add (k * 12)).block, (ada.add (k * 12)).off + 6, none⟩ = some (.slice A6 x.f3.f3.length c6) ∧ w'.cell? ⟨(ada.add (k * 12)).block, (ada.add (k * 12)).off + 7, none⟩ = some (.int .i64 x.f4) ∧ w'.cell? ⟨(ada.add (k * 12)).block, (ada.add (k * 12)).off + 8, none⟩ = some (.int .i64 x.f5) ∧ w'.cell? ⟨(ada.add (k * 12)).block, (ada.add (k * 12)).off + 9, none⟩ = some (.int .i64 x.f6) ∧ w'.cell? ⟨(ada.add (k * 12)).block, (ada.add (k * 12)).off + 10, none⟩ = some (.int .i64 x.f7) ∧ w'.cell? ⟨(ada.add (k * 12)).block, (ada.add (k * 12)).off + 11, none⟩ = some (.int .i64 x.f8)) ∧ (w'.cell? (adb.add (k * 12)) = some (.string y.f0) ∧ w'.cell? ⟨(adb.add (k * 12)).block, (adb.add (k * 12)).off + 1, none⟩ = some (.int .i64 y.f1) ∧ w'.cell? ⟨(adb.add (k * 12)).block, (adb.add (k * 12)).off + 2, none⟩ = some (.int .i64 y.f2) ∧ w'.cell? ⟨(adb.add (k * 12)).block, (adb.add (k * 12)).off + 3, none⟩ = some (.int .i64 y.f3.f0) ∧ w'.cell? ⟨(adb.add (k * 12)).block, (adb.add (k * 12)).off + 4, none⟩ = some (.int .i64 y.f3.f1) ∧ w'.cell? ⟨(adb.add (k * 12)).block, (adb.add (k * 12)).off + 5, none⟩ = some (.int .i64 y.f3.f2) ∧ w'.cell? ⟨(adb.add (k * 12)).block, (adb.add (k * 12)).off + 6, none⟩ = some (.slice B6 y.f3.f3.length d6) ∧ w'.cell? ⟨(adb.add (k * 12)).block, (adb.add (k * 12)).off + 7, none⟩ = some (.int .i64 y.f4) ∧ w'.cell? ⟨(adb.add (k * 12)).block, (adb.add (k * 12)).off + 8, none⟩ = some (.int .i64 y.f5) ∧ w'.cell? ⟨(adb.add (k * 12)).block, (adb.add (k * 12)).off + 9, none⟩ = some (.int .i64 y.f6) ∧ w'.cell? ⟨(adb.add (k * 12)).block, (adb.add (k * 12)).off + 10, none⟩ = some (.int .i64 y.f7) ∧ w'.cell? ⟨(adb.add (k * 12)).block, (adb.add (k * 12)).off + 11, none⟩ = some (.int .i64 y.f8))) wr.drew := HF6.out _ HB0
          refine Za.takeL 0 (v := ?vat0) rfl (by kernel_rfl) (by kernel_rfl) (by kernel_rfl) (by kernel_rfl) (fun _ _ _ h => h) (Or.inl ⟨by rfl, ?hyat0⟩) HS ?restat0
          case hyat0 => (intro w hSw; (try dsimp only at hSw); go_simp; try with_reducible rfl)
          (try simp only [Act.put, List.setIfInBounds_toArray, List.set_cons_zero, List.set_cons_succ])
          refine Za.takeL 1 (v := ?vat1) rfl (by kernel_rfl) (by kernel_rfl) (by kernel_rfl) (by kernel_rfl) (fun _ _ _ h => h) (Or.inl ⟨by rfl, ?hyat1⟩) HS ?restat1
          case hyat1 => (intro w hSw; (try dsimp only at hSw); go_simp; try with_reducible rfl)
          (try simp only [Act.put, List.setIfInBounds_toArray, List.set_cons_zero, List.set_cons_succ])
          refine Za.takeL 2 (v := ?vat2) rfl (by kernel_rfl) (by kernel_rfl) (by kernel_rfl) (by kernel_rfl) (fun _ _ _ h => h) (Or.inl ⟨by rfl, ?hyat2⟩) HS ?restat2
          case hyat2 => (intro w hSw; (try dsimp only at hSw); go_simp; try with_reducible rfl)
          (try simp only [Act.put, List.setIfInBounds_toArray, List.set_cons_zero, List.set_cons_succ])
          refine Za.takeL 3 (v := ?vat3) rfl (by kernel_rfl) (by kernel_rfl) (by kernel_rfl) (by kernel_rfl) (fun _ _ _ h => h) (Or.inl ⟨by rfl, ?hyat3⟩) HS ?restat3
          case hyat3 => (intro w hSw; (try dsimp only at hSw); go_simp; try with_reducible rfl)
          (try simp only [Act.put, List.setIfInBounds_toArray, List.set_cons_zero, List.set_cons_succ])
          refine Za.takeL 4 (v := ?vat4) rfl (by kernel_rfl) (by kernel_rfl) (by kernel_rfl) (by kernel_rfl) (fun _ _ _ h => h) (Or.inl ⟨by rfl, ?hyat4⟩) HS ?restat4
          case hyat4 => (intro w hSw; (try dsimp only at hSw); go_simp; try with_reducible rfl)
          (try simp only [Act.put, List.setIfInBounds_toArray, List.set_cons_zero, List.set_cons_succ])
          refine Za.takeL 5 (v := ?vat5) rfl (by kernel_rfl) (by kernel_rfl) (by kernel_rfl) (by kernel_rfl) (fun _ _ _ h => h) (Or.inl ⟨by rfl, ?hyat5⟩) HS ?restat5
          case hyat5 => (intro w hSw; (try dsimp only at hSw); go_simp; try with_reducible rfl)
          (try simp only [Act.put, List.setIfInBounds_toArray, List.set_cons_zero, List.set_cons_succ])
          refine Za.takeL 6 (v := ?vat6) rfl (by kernel_rfl) (by kernel_rfl) (by kernel_rfl) (by kernel_rfl) (fun _ _ _ h => h) (Or.inl ⟨by rfl, ?hyat6⟩) HS ?restat6
          case hyat6 => (intro w hSw; (try dsimp only at hSw); go_simp; try with_reducible rfl)
          (try simp only [Act.put, List.setIfInBounds_toArray, List.set_cons_zero, List.set_cons_succ])
          refine Za.takeL 7 (v := ?vat7) rfl (by kernel_rfl) (by kernel_rfl) (by kernel_rfl) (by kernel_rfl) (fun _ _ _ h => h) (Or.inl ⟨by rfl, ?hyat7⟩) HS ?restat7
          case hyat7 => (intro w hSw; (try dsimp only at hSw); go_simp; try with_reducible rfl)
          (try simp only [Act.put, List.setIfInBounds_toArray, List.set_cons_zero, List.set_cons_succ])
          clear HS
          refine Za.nextL 8 (by kernel_rfl) rfl (fun K' hK => ?_)
          go_simp
          (go_at_call 39; refine (l8Same_any x y A6 c6 B6 d6 _ (HIX6.out.below HB0) (HIY6.out.below HB0)).mono ?_; rintro e w4 ⟨rfl, hb4⟩; rw [HD.out]; have HB4 : Below wr.heap.size wr w4 := keepD hb4; have HB5 := Aside0.mk HB4; clear hb4)
          go_wp2_with fail
          refine hK.out _ _ ⟨fun _ => HF6.out _ HB4, ?_⟩
          clear hK K'
          (try simp only [Act.put, List.setIfInBounds_toArray, List.set_cons_zero, List.set_cons_succ])
          have HS : (fun w' => (w'.cell? (ada.add (k * 12)) = some (.string x.f0) ∧ w'.cell? ⟨(ada.add (k * 12)).block, (ada.add (k * 12)).off + 1, none⟩ = some (.int .i64 x.f1) ∧ w'.cell? ⟨(ada.add (k * 12)).block, (ada.add (k * 12)).off + 2, none⟩ = some (.int .i64 x.f2) ∧ w'.cell? ⟨(ada.add (k * 12)).block, (ada.add (k * 12)).off + 3, none⟩ = some (.int .i64 x.f3.f0) ∧ w'.cell? ⟨(ada.add (k * 12)).block, (ada.add (k * 12)).off + 4, none⟩ = some (.int .i64 x.f3.f1) ∧ w'.cell? ⟨(ada.add (k * 12)).block, (ada.add (k * 12)).off + 5, none⟩ = some (.int .i64 x.f3.f2) ∧ w'.cell? ⟨(ada.add (k * 12)).block, (ada.add (k * 12)).off + 6, none⟩ = some (.slice A6 x.f3.f3.length c6) ∧ w'.cell? ⟨(ada.add (k * 12)).block, (ada.add (k * 12)).off + 7, none⟩ = some (.int .i64 x.f4) ∧ w'.cell? ⟨(ada.add (k * 12)).block, (ada.add (k * 12)).off + 8, none⟩ = some (.int .i64 x.f5) ∧ w'.cell? ⟨(ada.add (k * 12)).block, (ada.add (k * 12)).off + 9, none⟩ = some (.int .i64 x.f6) ∧ w'.cell? ⟨(ada.add (k * 12)).block, (ada.add (k * 12)).off + 10, none⟩ = some (.int .i64 x.f7) ∧ w'.cell? ⟨(ada.add (k * 12)).block, (ada.add (k * 12)).off + 11, none⟩ = some (.int .i64 x.f8)) ∧ (w'.cell? (adb.add (k * 12)) = some (.string y.f0) ∧ w'.cell? ⟨(adb.add (k * 12)).block, (adb.add (k * 12)).off + 1, none⟩ = some (.int .i64 y.f1) ∧ w'.cell? ⟨(adb.add (k * 12)).block, (adb.add (k * 12)).off + 2, none⟩ = some (.int .i64 y.f2) ∧ w'.cell? ⟨(adb.add (k * 12)).block, (adb.add (k * 12)).off + 3, none⟩ = some (.int .i64 y.f3.f0) ∧ w'.cell? ⟨(adb.add (k * 12)).block, (adb.add (k * 12)).off + 4, none⟩ = some (.int .i64 y.f3.f1) ∧ w'.cell? ⟨(adb.add (k * 12)).block, (adb.add (k * 12)).off + 5, none⟩ = some (.int .i64 y.f3.f2) ∧ w'.cell? ⟨(adb.add (k * 12)).block, (adb.add (k * 12)).off + 6, none⟩ = some (.slice B6 y.f3.f3.length d6) ∧ w'.cell? ⟨(adb.add (k * 12)).block, (adb.add (k * 12)).off + 7, none⟩ = some (.int .i64 y.f4) ∧ w'.cell? ⟨(adb.add (k * 12)).block, (adb.add (k * 12)).off + 8, none⟩ = some (.int .i64 y.f5) ∧ w'.cell? ⟨(adb.add (k * 12)).block, (adb.add (k * 12)).off + 9, none⟩ = some (.int .i64 y.f6) ∧ w'.cell? ⟨(adb.add (k * 12)).block, (adb.add (k * 12)).off + 10, none⟩ = some (.int .i64 y.f7) ∧ w'.cell? ⟨(adb.add (k * 12)).block, (adb.add (k * 12)).off + 11, none⟩ = some (.int .i64 y.f8))) w4 := HF6.out _ HB4
          refine Za.takeL 9 (v := ?vat9) rfl (by kernel_rfl) (by kernel_rfl) (by kernel_rfl) (by kernel_rfl) (fun _ _ _ h => h) (Or.inl ⟨by rfl, ?hyat9⟩) HS ?restat9
          case hyat9 => (intro w hSw; (try dsimp only at hSw); go_simp; try with_reducible rfl)
          (try simp only [Act.put, List.setIfInBounds_toArray, List.set_cons_zero, List.set_cons_succ])
          refine Za.Walk.done (by kernel_rfl) ?_
          clear HS
          go_wp2
          go_roundw
          case rel => exact ⟨k + 1, by omega, by go_num, HE2, ⟨below_then HB.out HB.out.size HB5.out⟩⟩
          case measure => simp [intOf]; omega
        | false =>
          have HE2 : Aside0 (eqQ sameR a b = false) := ⟨HNO.out hd⟩
          have HD := Aside0.mk hd
          clear hd
          go_upto_region 6 with fail
          refine Za.regionL (fun w' => (w'.cell? (ada.add (k * 12)) = some (.string x.f0) ∧ w'.cell? ⟨(ada.add (k * 12)).block, (ada.add (k * 12)).off + 1, none⟩ = some (.int .i64 x.f1) ∧ w'.cell? ⟨(ada.add (k * 12)).block, (ada.add (k * 12)).off + 2, none⟩ = some (.int .i64 x.f2) ∧ w'.cell? ⟨(ada.add (k * 12)).block, (ada.add (k * 12)).off + 3, none⟩ = some (.int .i64 x.f3.f0) ∧ w'.cell? ⟨(ada.add (k * 12)).block, (ada.add (k * 12)).off + 4, none⟩ = some (.int .i64 x.f3.f1) ∧ w'.cell? ⟨(ada.add (k * 12)).block, (ada.add (k * 12)).off + 5, none⟩ = some (.int .i64 x.f3.f2) ∧ w'.cell? ⟨(ada.add (k * 12)).block, (ada.add (k * 12)).off + 6, none⟩ = some (.slice A6 x.f3.f3.length c6) ∧ w'.cell? ⟨(ada.add (k * 12)).block, (ada.add (k * 12)).off + 7, none⟩ = some (.int .i64 x.f4) ∧ w'.cell? ⟨(ada.add (k * 12)).block, (ada.add (k * 12)).off + 8, none⟩ = some (.int .i64 x.f5) ∧ w'.cell? ⟨(ada.add (k * 12)).block, (ada.add (k * 12)).off + 9, none⟩ = some (.int .i64 x.f6) ∧ w'.cell? ⟨(ada.add (k * 12)).block, (ada.add (k * 12)).off + 10, none⟩ = some (.int .i64 x.f7) ∧ w'.cell? ⟨(ada.add (k * 12)).block, (ada.add (k * 12)).off + 11, none⟩ = some (.int .i64 x.f8)) ∧ (w'.cell? (adb.add (k * 12)) = some (.string y.f0) ∧ w'.cell? ⟨(adb.add (k * 12)).block, (adb.add (k * 12)).off + 1, none⟩ = some (.int .i64 y.f1) ∧ w'.cell? ⟨(adb.add (k * 12)).block, (adb.add (k * 12)).off + 2, none⟩ = some (.int .i64 y.f2) ∧ w'.cell? ⟨(adb.add (k * 12)).block, (adb.add (k * 12)).off + 3, none⟩ = some (.int .i64 y.f3.f0) ∧ w'.cell? ⟨(adb.add (k * 12)).block, (adb.add (k * 12)).off + 4, none⟩ = some (.int .i64 y.f3.f1) ∧ w'.cell? ⟨(adb.add (k * 12)).block, (adb.add (k * 12)).off + 5, none⟩ = some (.int .i64 y.f3.f2) ∧ w'.cell? ⟨(adb.add (k * 12)).block, (adb.add (k * 12)).off + 6, none⟩ = some (.slice B6 y.f3.f3.length d6) ∧ w'.cell? ⟨(adb.add (k * 12)).block, (adb.add (k * 12)).off + 7, none⟩ = some (.int .i64 y.f4) ∧ w'.cell? ⟨(adb.add (k * 12)).block, (adb.add (k * 12)).off + 8, none⟩ = some (.int .i64 y.f5) ∧ w'.cell? ⟨(adb.add (k * 12)).block, (adb.add (k * 12)).off + 9, none⟩ = some (.int .i64 y.f6) ∧ w'.cell? ⟨(adb.add (k * 12)).block, (adb.add (k * 12)).off + 10, none⟩ = some (.int .i64 y.f7) ∧ w'.cell? ⟨(adb.add (k * 12)).block, (adb.add (k * 12)).off + 11, none⟩ = some (.int .i64 y.f8))) [] (by kernel_rfl) ?_
          have HS : (fun w' => (w'.cell? (ada.add (k * 12)) = some (.string x.f0) ∧ w'.cell? ⟨(ada.add (k * 12)).block, (ada.add (k * 12)).off + 1, none⟩ = some (.int .i64 x.f1) ∧ w'.cell? ⟨(ada.add (k * 12)).block, (ada.add (k * 12)).off + 2, none⟩ = some (.int .i64 x.f2) ∧ w'.cell? ⟨(ada.add (k * 12)).block, (ada.add (k * 12)).off + 3, none⟩ = some (.int .i64 x.f3.f0) ∧ w'.cell? ⟨(ada.add (k * 12)).block, (ada.add (k * 12)).off + 4, none⟩ = some (.int .i64 x.f3.f1) ∧ w'.cell? ⟨(ada.add (k * 12)).block, (ada.add (k * 12)).off + 5, none⟩ = some (.int .i64 x.f3.f2) ∧ w'.cell? ⟨(ada.add (k * 12)).block, (ada.add (k * 12)).off + 6, none⟩ = some (.slice A6 x.f3.f3.length c6) ∧ w'.cell? ⟨(ada.add (k * 12)).block, (ada.add (k * 12)).off + 7, none⟩ = some (.int .i64 x.f4) ∧ w'.cell? ⟨(ada.add (k * 12)).block, (ada.add (k * 12)).off + 8, none⟩ = some (.int .i64 x.f5) ∧ w'.cell? ⟨(ada.add (k * 12)).block, (ada.add (k * 12)).off + 9, none⟩ = some (.int .i64 x.f6) ∧ w'.cell? ⟨(ada.add (k * 12)).block, (ada.add (k * 12)).off + 10, none⟩ = some (.int .i64 x.f7) ∧ w'.cell? ⟨(ada.add (k * 12)).block, (ada.add (k * 12)).off + 11, none⟩ = some (.int .i64 x.f8)) ∧ (w'.cell? (adb.add (k * 12)) = some (.string y.f0) ∧ w'.cell? ⟨(adb.add (k * 12)).block, (adb.add (k * 12)).off + 1, none⟩ = some (.int .i64 y.f1) ∧ w'.cell? ⟨(adb.add (k * 12)).block, (adb.add (k * 12)).off + 2, none⟩ = some (.int .i64 y.f2) ∧ w'.cell? ⟨(adb.add (k * 12)).block, (adb.add (k * 12)).off + 3, none⟩ = some (.int .i64 y.f3.f0) ∧ w'.cell? ⟨(adb.add (k * 12)).block, (adb.add (k * 12)).off + 4, none⟩ = some (.int .i64 y.f3.f1) ∧ w'.cell? ⟨(adb.add (k * 12)).block, (adb.add (k * 12)).off + 5, none⟩ = some (.int .i64 y.f3.f2) ∧ w'.cell? ⟨(adb.add (k * 12)).block, (adb.add (k * 12)).off + 6, none⟩ = some (.slice B6 y.f3.f3.length d6) ∧ w'.cell? ⟨(adb.add (k * 12)).block, (adb.add (k * 12)).off + 7, none⟩ = some (.int .i64 y.f4) ∧ w'.cell? ⟨(adb.add (k * 12)).block, (adb.add (k * 12)).off + 8, none⟩ = some (.int .i64 y.f5) ∧ w'.cell? ⟨(adb.add (k * 12)).block, (adb.add (k * 12)).off + 9, none⟩ = some (.int .i64 y.f6) ∧ w'.cell? ⟨(adb.add (k * 12)).block, (adb.add (k * 12)).off + 10, none⟩ = some (.int .i64 y.f7) ∧ w'.cell? ⟨(adb.add (k * 12)).block, (adb.add (k * 12)).off + 11, none⟩ = some (.int .i64 y.f8))) wr.drew := HF6.out _ HB0
          refine Za.takeL 0 (v := ?vaf0) rfl (by kernel_rfl) (by kernel_rfl) (by kernel_rfl) (by kernel_rfl) (fun _ _ _ h => h) (Or.inl ⟨by rfl, ?hyaf0⟩) HS ?restaf0
          case hyaf0 => (intro w hSw; (try dsimp only at hSw); go_simp; try with_reducible rfl)
          (try simp only [Act.put, List.setIfInBounds_toArray, List.set_cons_zero, List.set_cons_succ])
          refine Za.takeL 1 (v := ?vaf1) rfl (by kernel_rfl) (by kernel_rfl) (by kernel_rfl) (by kernel_rfl) (fun _ _ _ h => h) (Or.inl ⟨by rfl, ?hyaf1⟩) HS ?restaf1
          case hyaf1 => (intro w hSw; (try dsimp only at hSw); go_simp; try with_reducible rfl)
          (try simp only [Act.put, List.setIfInBounds_toArray, List.set_cons_zero, List.set_cons_succ])
          refine Za.takeL 2 (v := ?vaf2) rfl (by kernel_rfl) (by kernel_rfl) (by kernel_rfl) (by kernel_rfl) (fun _ _ _ h => h) (Or.inl ⟨by rfl, ?hyaf2⟩) HS ?restaf2
          case hyaf2 => (intro w hSw; (try dsimp only at hSw); go_simp; try with_reducible rfl)
          (try simp only [Act.put, List.setIfInBounds_toArray, List.set_cons_zero, List.set_cons_succ])
          refine Za.takeL 3 (v := ?vaf3) rfl (by kernel_rfl) (by kernel_rfl) (by kernel_rfl) (by kernel_rfl) (fun _ _ _ h => h) (Or.inl ⟨by rfl, ?hyaf3⟩) HS ?restaf3
          case hyaf3 => (intro w hSw; (try dsimp only at hSw); go_simp; try with_reducible rfl)
          (try simp only [Act.put, List.setIfInBounds_toArray, List.set_cons_zero, List.set_cons_succ])
          refine Za.takeL 4 (v := ?vaf4) rfl (by kernel_rfl) (by kernel_rfl) (by kernel_rfl) (by kernel_rfl) (fun _ _ _ h => h) (Or.inl ⟨by rfl, ?hyaf4⟩) HS ?restaf4
          case hyaf4 => (intro w hSw; (try dsimp only at hSw); go_simp; try with_reducible rfl)
          (try simp only [Act.put, List.setIfInBounds_toArray, List.set_cons_zero, List.set_cons_succ])
          refine Za.takeL 5 (v := ?vaf5) rfl (by kernel_rfl) (by kernel_rfl) (by kernel_rfl) (by kernel_rfl) (fun _ _ _ h => h) (Or.inl ⟨by rfl, ?hyaf5⟩) HS ?restaf5
          case hyaf5 => (intro w hSw; (try dsimp only at hSw); go_simp; try with_reducible rfl)
          (try simp only [Act.put, List.setIfInBounds_toArray, List.set_cons_zero, List.set_cons_succ])
          refine Za.takeL 6 (v := ?vaf6) rfl (by kernel_rfl) (by kernel_rfl) (by kernel_rfl) (by kernel_rfl) (fun _ _ _ h => h) (Or.inl ⟨by rfl, ?hyaf6⟩) HS ?restaf6
          case hyaf6 => (intro w hSw; (try dsimp only at hSw); go_simp; try with_reducible rfl)
          (try simp only [Act.put, List.setIfInBounds_toArray, List.set_cons_zero, List.set_cons_succ])
          refine Za.takeL 7 (v := ?vaf7) rfl (by kernel_rfl) (by kernel_rfl) (by kernel_rfl) (by kernel_rfl) (fun _ _ _ h => h) (Or.inl ⟨by rfl, ?hyaf7⟩) HS ?restaf7
          case hyaf7 => (intro w hSw; (try dsimp only at hSw); go_simp; try with_reducible rfl)
          (try simp only [Act.put, List.setIfInBounds_toArray, List.set_cons_zero, List.set_cons_succ])
          clear HS
          refine Za.nextL 8 (by kernel_rfl) rfl (fun K' hK => ?_)
          go_simp
          (go_at_call 39; refine (l8Same_any x y A6 c6 B6 d6 _ (HIX6.out.below HB0) (HIY6.out.below HB0)).mono ?_; rintro e w4 ⟨rfl, hb4⟩; rw [HD.out]; have HB4 : Below wr.heap.size wr w4 := keepD hb4; have HB5 := Aside0.mk HB4; clear hb4)
          go_wp2_with fail
          refine hK.out _ _ ⟨fun _ => HF6.out _ HB4, ?_⟩
          clear hK K'
          (try simp only [Act.put, List.setIfInBounds_toArray, List.set_cons_zero, List.set_cons_succ])
          have HS : (fun w' => (w'.cell? (ada.add (k * 12)) = some (.string x.f0) ∧ w'.cell? ⟨(ada.add (k * 12)).block, (ada.add (k * 12)).off + 1, none⟩ = some (.int .i64 x.f1) ∧ w'.cell? ⟨(ada.add (k * 12)).block, (ada.add (k * 12)).off + 2, none⟩ = some (.int .i64 x.f2) ∧ w'.cell? ⟨(ada.add (k * 12)).block, (ada.add (k * 12)).off + 3, none⟩ = some (.int .i64 x.f3.f0) ∧ w'.cell? ⟨(ada.add (k * 12)).block, (ada.add (k * 12)).off + 4, none⟩ = some (.int .i64 x.f3.f1) ∧ w'.cell? ⟨(ada.add (k * 12)).block, (ada.add (k * 12)).off + 5, none⟩ = some (.int .i64 x.f3.f2) ∧ w'.cell? ⟨(ada.add (k * 12)).block, (ada.add (k * 12)).off + 6, none⟩ = some (.slice A6 x.f3.f3.length c6) ∧ w'.cell? ⟨(ada.add (k * 12)).block, (ada.add (k * 12)).off + 7, none⟩ = some (.int .i64 x.f4) ∧ w'.cell? ⟨(ada.add (k * 12)).block, (ada.add (k * 12)).off + 8, none⟩ = some (.int .i64 x.f5) ∧ w'.cell? ⟨(ada.add (k * 12)).block, (ada.add (k * 12)).off + 9, none⟩ = some (.int .i64 x.f6) ∧ w'.cell? ⟨(ada.add (k * 12)).block, (ada.add (k * 12)).off + 10, none⟩ = some (.int .i64 x.f7) ∧ w'.cell? ⟨(ada.add (k * 12)).block, (ada.add (k * 12)).off + 11, none⟩ = some (.int .i64 x.f8)) ∧ (w'.cell? (adb.add (k * 12)) = some (.string y.f0) ∧ w'.cell? ⟨(adb.add (k * 12)).block, (adb.add (k * 12)).off + 1, none⟩ = some (.int .i64 y.f1) ∧ w'.cell? ⟨(adb.add (k * 12)).block, (adb.add (k * 12)).off + 2, none⟩ = some (.int .i64 y.f2) ∧ w'.cell? ⟨(adb.add (k * 12)).block, (adb.add (k * 12)).off + 3, none⟩ = some (.int .i64 y.f3.f0) ∧ w'.cell? ⟨(adb.add (k * 12)).block, (adb.add (k * 12)).off + 4, none⟩ = some (.int .i64 y.f3.f1) ∧ w'.cell? ⟨(adb.add (k * 12)).block, (adb.add (k * 12)).off + 5, none⟩ = some (.int .i64 y.f3.f2) ∧ w'.cell? ⟨(adb.add (k * 12)).block, (adb.add (k * 12)).off + 6, none⟩ = some (.slice B6 y.f3.f3.length d6) ∧ w'.cell? ⟨(adb.add (k * 12)).block, (adb.add (k * 12)).off + 7, none⟩ = some (.int .i64 y.f4) ∧ w'.cell? ⟨(adb.add (k * 12)).block, (adb.add (k * 12)).off + 8, none⟩ = some (.int .i64 y.f5) ∧ w'.cell? ⟨(adb.add (k * 12)).block, (adb.add (k * 12)).off + 9, none⟩ = some (.int .i64 y.f6) ∧ w'.cell? ⟨(adb.add (k * 12)).block, (adb.add (k * 12)).off + 10, none⟩ = some (.int .i64 y.f7) ∧ w'.cell? ⟨(adb.add (k * 12)).block, (adb.add (k * 12)).off + 11, none⟩ = some (.int .i64 y.f8))) w4 := HF6.out _ HB4
          refine Za.takeL 9 (v := ?vaf9) rfl (by kernel_rfl) (by kernel_rfl) (by kernel_rfl) (by kernel_rfl) (fun _ _ _ h => h) (Or.inl ⟨by rfl, ?hyaf9⟩) HS ?restaf9
          case hyaf9 => (intro w hSw; (try dsimp only at hSw); go_simp; try with_reducible rfl)
          (try simp only [Act.put, List.setIfInBounds_toArray, List.set_cons_zero, List.set_cons_succ])
          refine Za.Walk.done (by kernel_rfl) ?_
          clear HS
          go_wp2
          go_ret
          exact ⟨ret_bool HE2.out.symm, below_then HB.out HB.out.size HB5.out⟩
      · have hke : k = a.length := by omega
        subst hke
        have g1 : decide (a.length < a.length) = false := decide_eq_false (by omega)
        have HE2 : Aside0 (eqQ sameR a b = true) := ⟨by have h := HN.out; rwa [List.take_length, HLN.out, List.take_length] at h⟩
        go_wp2
        go_ret
        exact ⟨ret_bool HE2.out.symm, HB.out⟩
  · have n0 : ((a.length : Int) != (b.length : Int)) = true := by simp; omega
    have HE2 : Aside0 (eqQ sameR a b = false) := ⟨eqQ_len sameR a b hl⟩
    clear hl
    go_enter Try.func14, Try.ntmps14
    go_wp2
    go_ret
    exact ⟨ret_bool HE2.out.symm, Below.refl _ _⟩
end Go.Proofs.Ytbbdkhffacoglaa.Ko
