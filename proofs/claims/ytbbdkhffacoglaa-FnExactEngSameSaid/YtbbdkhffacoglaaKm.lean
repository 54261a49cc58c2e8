
/- Are two lists of occurrences one, two pairs, two spans: the reference's. Printed by genTy.py. -/
import Derived.Test.YtbbdkhffacoglaaKl
set_option linter.unusedVariables false
set_option linter.unusedSimpArgs false
namespace Go.Proofs.Ytbbdkhffacoglaa.Km
open Go.RowKit Go.Proofs.YtbbdkhffacoglaaW.PrintWords Go.Proofs.Ytbbdkhffacoglaa.Ja Go.Proofs.Ytbbdkhffacoglaa.Jb Go.Proofs.Ytbbdkhffacoglaa.Jc Go.Proofs.Ytbbdkhffacoglaa.Jd Go.Proofs.Ytbbdkhffacoglaa.Ka Go.Proofs.Ytbbdkhffacoglaa.Ke Go.Proofs.Ytbbdkhffacoglaa.Kf Go.Proofs.Ytbbdkhffacoglaa.Kg Go.Proofs.Ytbbdkhffacoglaa.Kh Go.Proofs.Ytbbdkhffacoglaa.Ki Go.Proofs.Ytbbdkhffacoglaa.Kj Go.Proofs.Ytbbdkhffacoglaa.Kk Go.Proofs.Ytbbdkhffacoglaa.Kl
theorem l3Same_any (x y : TOcc) : ∀ A2 c2 B2 d2 w, IsS (Kd.int .i64) w x.f2 A2 c2 → IsS (Kd.int .i64) w y.f2 B2 d2 → Calls Try.prog 40 #[.agg #[.int .i64 x.f0, .int .i64 x.f1, .slice A2 x.f2.length c2], .agg #[.int .i64 y.f0, .int .i64 y.f1, .slice B2 y.f2.length d2]] w fun e w' => e = .returned (.bool (sameO x y)) ∧ Below w.heap.size w w' := fun A2 c2 B2 d2 w hA hB => sSame_any x y A2 B2 c2 d2 w hA hB
set_option maxHeartbeats 4000000 in
set_option maxRecDepth 100000 in
theorem sOccsSame_any (A B : Option Addr) (c d : Nat) (a b : List TOcc) (w : World) (ha : IsS kOcc w a A c) (hb : IsS kOcc w b B d) :
    Calls Try.prog 68 #[.slice A a.length c, .slice B b.length d] w fun e w' => e = .returned (.bool (eqQ sameO a b)) ∧ Below w.heap.size w w' := by
  have hna := ha.len
  have hnb := hb.len
  have HA := Aside0.mk ha
  have HBb := Aside0.mk hb
  clear ha hb
  by_cases hl : a.length = b.length
  · have n0 : ((a.length : Int) != (b.length : Int)) = false := by simp [hl]
    go_enter Try.func68, Try.ntmps68
    have HLN := Aside0.mk hl
    clear hl
    go_wp2
    go_loopw [5] (fun vi wr => ∃ (k : Nat), k ≤ a.length ∧ vi = .int .i64 k ∧ Aside0 (eqQ sameO (a.take k) (b.take k) = true) ∧ Aside0 (Below w.heap.size w wr)) (fun vi _ => a.length - (intOf vi).toNat)
    case atStart => exact ⟨0, Nat.zero_le _, rfl, ⟨by simp [eqQ]⟩, ⟨Below.refl _ _⟩⟩
    case round =>
      obtain ⟨k, hk, rfl, HN, HB⟩ := hrel
      by_cases hlt : k < a.length
      · have g1 : decide (k < a.length) = true := decide_eq_true hlt
        have i1 : (k : Int) < a.length := by omega
        have hltb : k < b.length := by have := HLN.out; omega
        have i2 : (k : Int) < b.length := by omega
        obtain ⟨ada, A2, c2, rfl, a0_, a1_, a2_, ja2⟩ := atOcc (HA.out.below HB.out) k hlt
        obtain ⟨adb, B2, d2, rfl, b0_, b1_, b2_, jb2⟩ := atOcc (HBb.out.below HB.out) k hltb
        have HSN := Aside0.mk (eqQ_snoc sameO zOcc a b k hlt HLN.out)
        have HNO := Aside0.mk (eqQ_no sameO zOcc a b k hlt HLN.out)
        generalize a.getD k zOcc = x at a0_ a1_ a2_ ja2 HSN HNO
        generalize b.getD k zOcc = y at b0_ b1_ b2_ jb2 HSN HNO
        have HIX2 := Aside0.mk ja2
        have HIY2 := Aside0.mk jb2
        have HF6 : Aside0 (∀ w', Below wr.heap.size wr w' → (fun w' => (w'.cell? (ada.add (k * 3)) = some (.int .i64 x.f0) ∧ w'.cell? ⟨(ada.add (k * 3)).block, (ada.add (k * 3)).off + 1, none⟩ = some (.int .i64 x.f1) ∧ w'.cell? ⟨(ada.add (k * 3)).block, (ada.add (k * 3)).off + 2, none⟩ = some (.slice A2 x.f2.length c2)) ∧ (w'.cell? (adb.add (k * 3)) = some (.int .i64 y.f0) ∧ w'.cell? ⟨(adb.add (k * 3)).block, (adb.add (k * 3)).off + 1, none⟩ = some (.int .i64 y.f1) ∧ w'.cell? ⟨(adb.add (k * 3)).block, (adb.add (k * 3)).off + 2, none⟩ = some (.slice B2 y.f2.length d2))) w') := ⟨fun w' h => ⟨⟨pw_cell_below h a0_, pw_cell_below h a1_, pw_cell_below h a2_⟩, ⟨pw_cell_below h b0_, pw_cell_below h b1_, pw_cell_below h b2_⟩⟩⟩
        have HB0 : Below wr.heap.size wr wr.drew := below_drew (Below.refl _ _)
        clear a0_ a1_ a2_ ja2 b0_ b1_ b2_ jb2
        cases hd : sameO x y with
        | true =>
          have HE2 : Aside0 (eqQ sameO (a.take (k + 1)) (b.take (k + 1)) = true) := ⟨by rw [HSN.out, HN.out, hd]; rfl⟩
          have HD := Aside0.mk hd
          clear hd
          go_upto_region 6 with fail
          refine Za.regionL (fun w' => (w'.cell? (ada.add (k * 3)) = some (.int .i64 x.f0) ∧ w'.cell? ⟨(ada.add (k * 3)).block, (ada.add (k * 3)).off + 1, none⟩ = some (.int .i64 x.f1) ∧ w'.cell? ⟨(ada.add (k * 3)).block, (ada.add (k * 3)).off + 2, none⟩ = some (.slice A2 x.f2.length c2)) ∧ (w'.cell? (adb.add (k * 3)) = some (.int .i64 y.f0) ∧ w'.cell? ⟨(adb.add (k * 3)).block, (adb.add (k * 3)).off + 1, none⟩ = some (.int .i64 y.f1) ∧ w'.cell? ⟨(adb.add (k * 3)).block, (adb.add (k * 3)).off + 2, none⟩ = some (.slice B2 y.f2.length d2))) [] (by kernel_rfl) ?_
          have HS : (fun w' => (w'.cell? (ada.add (k * 3)) = some (.int .i64 x.f0) ∧ w'.cell? ⟨(ada.add (k * 3)).block, (ada.add (k * 3)).off + 1, none⟩ = some (.int .i64 x.f1) ∧ w'.cell? ⟨(ada.add (k * 3)).block, (ada.add (k * 3)).off + 2, none⟩ = some (.slice A2 x.f2.length c2)) ∧ (w'.cell? (adb.add (k * 3)) = some (.int .i64 y.f0) ∧ w'.cell? ⟨(adb.add (k * 3)).block, (adb.add (k * 3)).off + 1, none⟩ = some (.int .i64 y.f1) ∧ w'.cell? ⟨(adb.add (k * 3)).block, (adb.add (k * 3)).off + 2, none⟩ = some (.slice B2 y.f2.length d2))) wr.drew := HF6.out _ HB0
          refine Za.takeL 0 (v := ?vat0) rfl (by kernel_rfl) (by kernel_rfl) (by kernel_rfl) (by kernel_rfl) (fun _ _ _ h => h) (Or.inl ⟨by rfl, ?hyat0⟩) HS ?restat0
          case hyat0 => (intro w hSw; (try dsimp only at hSw); go_simp; try with_reducible rfl)
          (try simp only [Act.put, List.setIfInBounds_toArray, List.set_cons_zero, List.set_cons_succ])
          refine Za.takeL 1 (v := ?vat1) rfl (by kernel_rfl) (by kernel_rfl) (by kernel_rfl) (by kernel_rfl) (fun _ _ _ h => h) (Or.inl ⟨by rfl, ?hyat1⟩) HS ?restat1
          case hyat1 => (intro w hSw; (try dsimp only at hSw); go_simp; try with_reducible rfl)
          (try simp only [Act.put, List.setIfInBounds_toArray, List.set_cons_zero, List.set_cons_succ])
          refine Za.takeL 2 (v := ?vat2) rfl (by kernel_rfl) (by kernel_rfl) (by kernel_rfl) (by kernel_rfl) (fun _ _ _ h => h) (Or.inl ⟨by rfl, ?hyat2⟩) HS ?restat2
          case hyat2 => (intro w hSw; (try dsimp only at hSw); go_simp; try with_reducible rfl)
          (try simp only [Act.put, List.setIfInBounds_toArray, List.set_cons_zero, List.set_cons_succ])
          refine Za.takeL 3 (v := ?vat3) rfl (by kernel_rfl) (by kernel_rfl) (by kernel_rfl) (by kernel_rfl) (fun _ _ _ h => h) (Or.inl ⟨by rfl, ?hyat3⟩) HS ?restat3
          case hyat3 => (intro w hSw; (try dsimp only at hSw); go_simp; try with_reducible rfl)
          (try simp only [Act.put, List.setIfInBounds_toArray, List.set_cons_zero, List.set_cons_succ])
          refine Za.takeL 4 (v := ?vat4) rfl (by kernel_rfl) (by kernel_rfl) (by kernel_rfl) (by kernel_rfl) (fun _ _ _ h => h) (Or.inl ⟨by rfl, ?hyat4⟩) HS ?restat4
          case hyat4 => (intro w hSw; (try dsimp only at hSw); go_simp; try with_reducible rfl)
          (try simp only [Act.put, List.setIfInBounds_toArray, List.set_cons_zero, List.set_cons_succ])
          refine Za.takeL 5 (v := ?vat5) rfl (by kernel_rfl) (by kernel_rfl) (by kernel_rfl) (by kernel_rfl) (fun _ _ _ h => h) (Or.inl ⟨by rfl, ?hyat5⟩) HS ?restat5
          case hyat5 => (intro w hSw; (try dsimp only at hSw); go_simp; try with_reducible rfl)
          (try simp only [Act.put, List.setIfInBounds_toArray, List.set_cons_zero, List.set_cons_succ])
          refine Za.takeL 6 (v := ?vat6) rfl (by kernel_rfl) (by kernel_rfl) (by kernel_rfl) (by kernel_rfl) (fun _ _ _ h => h) (Or.inl ⟨by rfl, ?hyat6⟩) HS ?restat6
          case hyat6 => (intro w hSw; (try dsimp only at hSw); go_simp; try with_reducible rfl)
          (try simp only [Act.put, List.setIfInBounds_toArray, List.set_cons_zero, List.set_cons_succ])
          refine Za.takeL 7 (v := ?vat7) rfl (by kernel_rfl) (by kernel_rfl) (by kernel_rfl) (by kernel_rfl) (fun _ _ _ h => h) (Or.inl ⟨by rfl, ?hyat7⟩) HS ?restat7
          case hyat7 => (intro w hSw; (try dsimp only at hSw); go_simp; try with_reducible rfl)
          (try simp only [Act.put, List.setIfInBounds_toArray, List.set_cons_zero, List.set_cons_succ])
          clear HS
          refine Za.nextL 8 (by kernel_rfl) rfl (fun K' hK => ?_)
          go_simp
          (go_at_call 40; refine (l3Same_any x y A2 c2 B2 d2 _ (HIX2.out.below HB0) (HIY2.out.below HB0)).mono ?_; rintro e w4 ⟨rfl, hb4⟩; rw [HD.out]; have HB4 : Below wr.heap.size wr w4 := keepD hb4; have HB5 := Aside0.mk HB4; clear hb4)
          go_wp2_with fail
          refine hK.out _ _ ⟨fun _ => HF6.out _ HB4, ?_⟩
          clear hK K'
          (try simp only [Act.put, List.setIfInBounds_toArray, List.set_cons_zero, List.set_cons_succ])
          have HS : (fun w' => (w'.cell? (ada.add (k * 3)) = some (.int .i64 x.f0) ∧ w'.cell? ⟨(ada.add (k * 3)).block, (ada.add (k * 3)).off + 1, none⟩ = some (.int .i64 x.f1) ∧ w'.cell? ⟨(ada.add (k * 3)).block, (ada.add (k * 3)).off + 2, none⟩ = some (.slice A2 x.f2.length c2)) ∧ (w'.cell? (adb.add (k * 3)) = some (.int .i64 y.f0) ∧ w'.cell? ⟨(adb.add (k * 3)).block, (adb.add (k * 3)).off + 1, none⟩ = some (.int .i64 y.f1) ∧ w'.cell? ⟨(adb.add (k * 3)).block, (adb.add (k * 3)).off + 2, none⟩ = some (.slice B2 y.f2.length d2))) w4 := HF6.out _ HB4
          refine Za.takeL 9 (v := ?vat9) rfl (by kernel_rfl) (by kernel_rfl) (by kernel_rfl) (by kernel_rfl) (fun _ _ _ h => h) (Or.inl ⟨by rfl, ?hyat9⟩) HS ?restat9
          case hyat9 => (intro w hSw; (try dsimp only at hSw); go_simp; try with_reducible rfl)
          (try simp only [Act.put, List.setIfInBounds_toArray, List.set_cons_zero, List.set_cons_succ])
          refine Za.Walk.done (by kernel_rfl) ?_
          clear HS
          go_wp2
          go_roundw
          case rel => exact ⟨k + 1, by omega, by go_num, HE2, ⟨below_then HB.out HB.out.size HB5.out⟩⟩
          case measure => simp [intOf]; omega
        | false =>
          have HE2 : Aside0 (eqQ sameO a b = false) := ⟨HNO.out hd⟩
          have HD := Aside0.mk hd
          clear hd
          go_upto_region 6 with fail
          refine Za.regionL (fun w' => (w'.cell? (ada.add (k * 3)) = some (.int .i64 x.f0) ∧ w'.cell? ⟨(ada.add (k * 3)).block, (ada.add (k * 3)).off + 1, none⟩ = some (.int .i64 x.f1) ∧ w'.cell? ⟨(ada.add (k * 3)).block, (ada.add (k * 3)).off + 2, none⟩ = some (.slice A2 x.f2.length c2)) ∧ (w'.cell? (adb.add (k * 3)) = some (.int .i64 y.f0) ∧ w'.cell? ⟨(adb.add (k * 3)).block, (adb.add (k * 3)).off + 1, none⟩ = some (.int .i64 y.f1) ∧ w'.cell? ⟨(adb.add (k * 3)).block, (adb.add (k * 3)).off + 2, none⟩ = some (.slice B2 y.f2.length d2))) [] (by kernel_rfl) ?_
          have HS : (fun w' => (w'.cell? (ada.add (k * 3)) = some (.int .i64 x.f0) ∧ w'.cell? ⟨(ada.add (k * 3)).block, (ada.add (k * 3)).off + 1, none⟩ = some (.int .i64 x.f1) ∧ w'.cell? ⟨(ada.add (k * 3)).block, (ada.add (k * 3)).off + 2, none⟩ = some (.slice A2 x.f2.length c2)) ∧ (w'.cell? (adb.add (k * 3)) = some (.int .i64 y.f0) ∧ w'.cell? ⟨(adb.add (k * 3)).block, (adb.add (k * 3)).off + 1, none⟩ = some (.int .i64 y.f1) ∧ w'.cell? ⟨(adb.add (k * 3)).block, (adb.add (k * 3)).off + 2, none⟩ = some (.slice B2 y.f2.length d2))) wr.drew := HF6.out _ HB0
          refine Za.takeL 0 (v := ?vaf0) rfl (by kernel_rfl) (by kernel_rfl) (by kernel_rfl) (by kernel_rfl) (fun _ _ _ h => h) (Or.inl ⟨by rfl, ?hyaf0⟩) HS ?restaf0
          case hyaf0 => (intro w hSw; (try dsimp only at hSw); go_simp; try with_reducible rfl)
          (try simp only [Act.put, List.setIfInBounds_toArray, List.set_cons_zero, List.set_cons_succ])
          refine Za.takeL 1 (v := ?vaf1) rfl (by kernel_rfl) (by kernel_rfl) (by kernel_rfl) (by kernel_rfl) (fun _ _ _ h => h) (Or.inl ⟨by rfl, ?hyaf1⟩) HS ?restaf1
          case hyaf1 => (intro w hSw; (try dsimp only at hSw); go_simp; try with_reducible rfl)
          (try simp only [Act.put, List.setIfInBounds_toArray, List.set_cons_zero, List.set_cons_succ])
          refine Za.takeL 2 (v := ?vaf2) rfl (by kernel_rfl) (by kernel_rfl) (by kernel_rfl) (by kernel_rfl) (fun _ _ _ h => h) (Or.inl ⟨by rfl, ?hyaf2⟩) HS ?restaf2
          case hyaf2 => (intro w hSw; (try dsimp only at hSw); go_simp; try with_reducible rfl)
          (try simp only [Act.put, List.setIfInBounds_toArray, List.set_cons_zero, List.set_cons_succ])
          refine Za.takeL 3 (v := ?vaf3) rfl (by kernel_rfl) (by kernel_rfl) (by kernel_rfl) (by kernel_rfl) (fun _ _ _ h => h) (Or.inl ⟨by rfl, ?hyaf3⟩) HS ?restaf3
          case hyaf3 => (intro w hSw; (try dsimp only at hSw); go_simp; try with_reducible rfl)
          (try simp only [Act.put, List.setIfInBounds_toArray, List.set_cons_zero, List.set_cons_succ])
          refine Za.takeL 4 (v := ?vaf4) rfl (by kernel_rfl) (by kernel_rfl) (by kernel_rfl) (by kernel_rfl) (fun _ _ _ h => h) (Or.inl ⟨by rfl, ?hyaf4⟩) HS ?restaf4
          case hyaf4 => (intro w hSw; (try dsimp only at hSw); go_simp; try with_reducible rfl)
          (try simp only [Act.put, List.setIfInBounds_toArray, List.set_cons_zero, List.set_cons_succ])
          refine Za.takeL 5 (v := ?vaf5) rfl (by kernel_rfl) (by kernel_rfl) (by kernel_rfl) (by kernel_rfl) (fun _ _ _ h => h) (Or.inl ⟨by rfl, ?hyaf5⟩) HS ?restaf5
          case hyaf5 => (intro w hSw; (try dsimp only at hSw); go_simp; try with_reducible rfl)
          (try simp only [Act.put, List.setIfInBounds_toArray, List.set_cons_zero, List.set_cons_succ])
          refine Za.takeL 6 (v := ?vaf6) rfl (by kernel_rfl) (by kernel_rfl) (by kernel_rfl) (by kernel_rfl) (fun _ _ _ h => h) (Or.inl ⟨by rfl, ?hyaf6⟩) HS ?restaf6
          case hyaf6 => (intro w hSw; (try dsimp only at hSw); go_simp; try with_reducible rfl)
          (try simp only [Act.put, List.setIfInBounds_toArray, List.set_cons_zero, List.set_cons_succ])
          refine Za.takeL 7 (v := ?vaf7) rfl (by kernel_rfl) (by kernel_rfl) (by kernel_rfl) (by kernel_rfl) (fun _ _ _ h => h) (Or.inl ⟨by rfl, ?hyaf7⟩) HS ?restaf7
          case hyaf7 => (intro w hSw; (try dsimp only at hSw); go_simp; try with_reducible rfl)
          (try simp only [Act.put, List.setIfInBounds_toArray, List.set_cons_zero, List.set_cons_succ])
          clear HS
          refine Za.nextL 8 (by kernel_rfl) rfl (fun K' hK => ?_)
          go_simp
          (go_at_call 40; refine (l3Same_any x y A2 c2 B2 d2 _ (HIX2.out.below HB0) (HIY2.out.below HB0)).mono ?_; rintro e w4 ⟨rfl, hb4⟩; rw [HD.out]; have HB4 : Below wr.heap.size wr w4 := keepD hb4; have HB5 := Aside0.mk HB4; clear hb4)
          go_wp2_with fail
          refine hK.out _ _ ⟨fun _ => HF6.out _ HB4, ?_⟩
          clear hK K'
          (try simp only [Act.put, List.setIfInBounds_toArray, List.set_cons_zero, List.set_cons_succ])
          have HS : (fun w' => (w'.cell? (ada.add (k * 3)) = some (.int .i64 x.f0) ∧ w'.cell? ⟨(ada.add (k * 3)).block, (ada.add (k * 3)).off + 1, none⟩ = some (.int .i64 x.f1) ∧ w'.cell? ⟨(ada.add (k * 3)).block, (ada.add (k * 3)).off + 2, none⟩ = some (.slice A2 x.f2.length c2)) ∧ (w'.cell? (adb.add (k * 3)) = some (.int .i64 y.f0) ∧ w'.cell? ⟨(adb.add (k * 3)).block, (adb.add (k * 3)).off + 1, none⟩ = some (.int .i64 y.f1) ∧ w'.cell? ⟨(adb.add (k * 3)).block, (adb.add (k * 3)).off + 2, none⟩ = some (.slice B2 y.f2.length d2))) w4 := HF6.out _ HB4
          refine Za.takeL 9 (v := ?vaf9) rfl (by kernel_rfl) (by kernel_rfl) (by kernel_rfl) (by kernel_rfl) (fun _ _ _ h => h) (Or.inl ⟨by rfl, ?hyaf9⟩) HS ?restaf9
          case hyaf9 => (intro w hSw; (try dsimp only at hSw); go_simp; try with_reducible rfl)
          (try simp only [Act.put, List.setIfInBounds_toArray, List.set_cons_zero, List.set_cons_succ])
          refine Za.Walk.done (by kernel_rfl) ?_
          clear HS
          go_wp2
          go_ret
          exact ⟨ret_bool HE2.out.symm, below_then HB.out HB.out.size HB5.out⟩
      · have hke : k = a.length := by omega
        subst hke
        have g1 : decide (a.length < a.length) = false := decide_eq_false (by omega)
        have HE2 : Aside0 (eqQ sameO a b = true) := ⟨by have h := HN.out; rwa [List.take_length, HLN.out, List.take_length] at h⟩
        go_wp2
        go_ret
        exact ⟨ret_bool HE2.out.symm, HB.out⟩
  · have n0 : ((a.length : Int) != (b.length : Int)) = true := by simp; omega
    have HE2 : Aside0 (eqQ sameO a b = false) := ⟨eqQ_len sameO a b hl⟩
    clear hl
    go_enter Try.func68, Try.ntmps68
    go_wp2
    go_ret
    exact ⟨ret_bool HE2.out.symm, Below.refl _ _⟩
set_option maxHeartbeats 4000000 in
set_option maxRecDepth 100000 in
theorem sPairSame_any (x y : TPair) (A0 : Option Addr) (c0 : Nat) (A1 : Option Addr) (c1 : Nat) (B0 : Option Addr) (d0 : Nat) (B1 : Option Addr) (d1 : Nat) (w : World) (hA0 : IsS kOcc w x.f0 A0 c0) (hA1 : IsS kOcc w x.f1 A1 c1) (hB0 : IsS kOcc w y.f0 B0 d0) (hB1 : IsS kOcc w y.f1 B1 d1) :
    Calls Try.prog 66 #[.agg #[.slice A0 x.f0.length c0, .slice A1 x.f1.length c1], .agg #[.slice B0 y.f0.length d0, .slice B1 y.f1.length d1]] w fun e w' => e = .returned (.bool (samePair x y)) ∧ Below w.heap.size w w' := by
  obtain ⟨hb0, bP, bQ⟩ := boxes2 w #[.slice A0 x.f0.length c0, .slice A1 x.f1.length c1] #[.slice B0 y.f0.length d0, .slice B1 y.f1.length d1] 92 92
  have HA0 := Aside0.mk (hA0.below hb0)
  have HB0 := Aside0.mk (hB0.below hb0)
  have HA1 := Aside0.mk (hA1.below hb0)
  have HB1 := Aside0.mk (hB1.below hb0)
  clear hA0 hB0 hA1 hB1
  obtain ⟨W, hW⟩ : ∃ W, W = (w.alloc (.cells #[.slice A0 x.f0.length c0, .slice A1 x.f1.length c1] 92)).alloc (.cells #[.slice B0 y.f0.length d0, .slice B1 y.f1.length d1] 92) := ⟨_, rfl⟩
  rw [← hW] at hb0 bP bQ HA0 HB0 HA1 HB1
  have HW := Aside0.mk hW
  have HX := Aside0.mk hb0
  clear hb0 hW
  have p0 := (blk_cell bP 0).trans rfl
  have q0 := (blk_cell bQ 0).trans rfl
  have p1 := (blk_cell bP 1).trans rfl
  have q1 := (blk_cell bQ 1).trans rfl
  have HC0 : Aside0 (Below W.heap.size W W) := ⟨Below.refl _ _⟩
  have HV : Aside0 (samePair x y = ((eqQ sameO x.f0 y.f0) && (eqQ sameO x.f1 y.f1))) := ⟨by exact samePair_eq x y⟩
  cases h0 : (eqQ sameO x.f0 y.f0) with
  | false =>
    have HF : Aside0 (samePair x y = false) := ⟨by rw [HV.out, h0]; simp⟩
    have HE0 := Aside0.mk h0
    clear h0
    go_enter Try.func66, Try.ntmps66
    go_upto_region 1 with fail
    rw [← HW.out]
    go_wp2_with (go_at_call 68; refine (sOccsSame_any A0 B0 c0 d0 x.f0 y.f0 _ (HA0.out.below HC0.out) (HB0.out.below HC0.out)).mono ?_; rintro e w1 ⟨rfl, hb1⟩; rw [HE0.out]; have p1_0 := pw_cell_below hb1 p0; have q1_0 := pw_cell_below hb1 q0; have p1_1 := pw_cell_below hb1 p1; have q1_1 := pw_cell_below hb1 q1; have HC1 := Aside0.mk (below_then HC0.out HC0.out.size hb1); clear hb1)
    go_ret
    exact ⟨ret_bool HF.out.symm, below_then HX.out HX.out.size HC1.out⟩
  | true =>
  cases h1 : (eqQ sameO x.f1 y.f1) with
  | false =>
    have HF : Aside0 (samePair x y = false) := ⟨by rw [HV.out, h0, h1]; simp⟩
    have HE0 := Aside0.mk h0
    clear h0
    have HE1 := Aside0.mk h1
    clear h1
    go_enter Try.func66, Try.ntmps66
    go_upto_region 1 with fail
    rw [← HW.out]
    go_wp2_with (first | (go_at_call 68; refine (sOccsSame_any A1 B1 c1 d1 x.f1 y.f1 _ (HA1.out.below HC1.out) (HB1.out.below HC1.out)).mono ?_; rintro e w2 ⟨rfl, hb2⟩; rw [HE1.out]; have p2_0 := pw_cell_below hb2 p1_0; have q2_0 := pw_cell_below hb2 q1_0; have p2_1 := pw_cell_below hb2 p1_1; have q2_1 := pw_cell_below hb2 q1_1; have HC2 := Aside0.mk (below_then HC1.out HC1.out.size hb2); clear hb2) | (go_at_call 68; refine (sOccsSame_any A0 B0 c0 d0 x.f0 y.f0 _ (HA0.out.below HC0.out) (HB0.out.below HC0.out)).mono ?_; rintro e w1 ⟨rfl, hb1⟩; rw [HE0.out]; have p1_0 := pw_cell_below hb1 p0; have q1_0 := pw_cell_below hb1 q0; have p1_1 := pw_cell_below hb1 p1; have q1_1 := pw_cell_below hb1 q1; have HC1 := Aside0.mk (below_then HC0.out HC0.out.size hb1); clear hb1))
    go_ret
    exact ⟨ret_bool HF.out.symm, below_then HX.out HX.out.size HC2.out⟩
  | true =>
  have HF : Aside0 (samePair x y = true) := ⟨by rw [HV.out, h0, h1]; simp⟩
  have HE0 := Aside0.mk h0
  clear h0
  have HE1 := Aside0.mk h1
  clear h1
  go_enter Try.func66, Try.ntmps66
  go_upto_region 1 with fail
  rw [← HW.out]
  go_wp2_with (first | (go_at_call 68; refine (sOccsSame_any A1 B1 c1 d1 x.f1 y.f1 _ (HA1.out.below HC1.out) (HB1.out.below HC1.out)).mono ?_; rintro e w2 ⟨rfl, hb2⟩; rw [HE1.out]; have p2_0 := pw_cell_below hb2 p1_0; have q2_0 := pw_cell_below hb2 q1_0; have p2_1 := pw_cell_below hb2 p1_1; have q2_1 := pw_cell_below hb2 q1_1; have HC2 := Aside0.mk (below_then HC1.out HC1.out.size hb2); clear hb2) | (go_at_call 68; refine (sOccsSame_any A0 B0 c0 d0 x.f0 y.f0 _ (HA0.out.below HC0.out) (HB0.out.below HC0.out)).mono ?_; rintro e w1 ⟨rfl, hb1⟩; rw [HE0.out]; have p1_0 := pw_cell_below hb1 p0; have q1_0 := pw_cell_below hb1 q0; have p1_1 := pw_cell_below hb1 p1; have q1_1 := pw_cell_below hb1 q1; have HC1 := Aside0.mk (below_then HC0.out HC0.out.size hb1); clear hb1))
  go_ret
  exact ⟨ret_bool HF.out.symm, below_then HX.out HX.out.size HC2.out⟩
set_option maxHeartbeats 4000000 in
set_option maxRecDepth 100000 in
theorem sSpanSame_any (x y : TSpan) (A0 : Option Addr) (c0 : Nat) (A1 : Option Addr) (c1 : Nat) (B0 : Option Addr) (d0 : Nat) (B1 : Option Addr) (d1 : Nat) (w : World) (hA0 : IsS kOcc w x.f0 A0 c0) (hA1 : IsS kOcc w x.f1 A1 c1) (hB0 : IsS kOcc w y.f0 B0 d0) (hB1 : IsS kOcc w y.f1 B1 d1) :
    Calls Try.prog 67 #[.agg #[.slice A0 x.f0.length c0, .slice A1 x.f1.length c1], .agg #[.slice B0 y.f0.length d0, .slice B1 y.f1.length d1]] w fun e w' => e = .returned (.bool (sameSpan x y)) ∧ Below w.heap.size w w' := by
  obtain ⟨hb0, bP, bQ⟩ := boxes2 w #[.slice A0 x.f0.length c0, .slice A1 x.f1.length c1] #[.slice B0 y.f0.length d0, .slice B1 y.f1.length d1] 94 94
  have HA0 := Aside0.mk (hA0.below hb0)
  have HB0 := Aside0.mk (hB0.below hb0)
  have HA1 := Aside0.mk (hA1.below hb0)
  have HB1 := Aside0.mk (hB1.below hb0)
  clear hA0 hB0 hA1 hB1
  obtain ⟨W, hW⟩ : ∃ W, W = (w.alloc (.cells #[.slice A0 x.f0.length c0, .slice A1 x.f1.length c1] 94)).alloc (.cells #[.slice B0 y.f0.length d0, .slice B1 y.f1.length d1] 94) := ⟨_, rfl⟩
  rw [← hW] at hb0 bP bQ HA0 HB0 HA1 HB1
  have HW := Aside0.mk hW
  have HX := Aside0.mk hb0
  clear hb0 hW
  have p0 := (blk_cell bP 0).trans rfl
  have q0 := (blk_cell bQ 0).trans rfl
  have p1 := (blk_cell bP 1).trans rfl
  have q1 := (blk_cell bQ 1).trans rfl
  have HC0 : Aside0 (Below W.heap.size W W) := ⟨Below.refl _ _⟩
  have HV : Aside0 (sameSpan x y = ((eqQ sameO x.f0 y.f0) && (eqQ sameO x.f1 y.f1))) := ⟨by exact sameSpan_eq x y⟩
  cases h0 : (eqQ sameO x.f0 y.f0) with
  | false =>
    have HF : Aside0 (sameSpan x y = false) := ⟨by rw [HV.out, h0]; simp⟩
    have HE0 := Aside0.mk h0
    clear h0
    go_enter Try.func67, Try.ntmps67
    go_upto_region 1 with fail
    rw [← HW.out]
    go_wp2_with (go_at_call 68; refine (sOccsSame_any A0 B0 c0 d0 x.f0 y.f0 _ (HA0.out.below HC0.out) (HB0.out.below HC0.out)).mono ?_; rintro e w1 ⟨rfl, hb1⟩; rw [HE0.out]; have p1_0 := pw_cell_below hb1 p0; have q1_0 := pw_cell_below hb1 q0; have p1_1 := pw_cell_below hb1 p1; have q1_1 := pw_cell_below hb1 q1; have HC1 := Aside0.mk (below_then HC0.out HC0.out.size hb1); clear hb1)
    go_ret
    exact ⟨ret_bool HF.out.symm, below_then HX.out HX.out.size HC1.out⟩
  | true =>
  cases h1 : (eqQ sameO x.f1 y.f1) with
  | false =>
    have HF : Aside0 (sameSpan x y = false) := ⟨by rw [HV.out, h0, h1]; simp⟩
    have HE0 := Aside0.mk h0
    clear h0
    have HE1 := Aside0.mk h1
    clear h1
    go_enter Try.func67, Try.ntmps67
    go_upto_region 1 with fail
    rw [← HW.out]
    go_wp2_with (first | (go_at_call 68; refine (sOccsSame_any A1 B1 c1 d1 x.f1 y.f1 _ (HA1.out.below HC1.out) (HB1.out.below HC1.out)).mono ?_; rintro e w2 ⟨rfl, hb2⟩; rw [HE1.out]; have p2_0 := pw_cell_below hb2 p1_0; have q2_0 := pw_cell_below hb2 q1_0; have p2_1 := pw_cell_below hb2 p1_1; have q2_1 := pw_cell_below hb2 q1_1; have HC2 := Aside0.mk (below_then HC1.out HC1.out.size hb2); clear hb2) | (go_at_call 68; refine (sOccsSame_any A0 B0 c0 d0 x.f0 y.f0 _ (HA0.out.below HC0.out) (HB0.out.below HC0.out)).mono ?_; rintro e w1 ⟨rfl, hb1⟩; rw [HE0.out]; have p1_0 := pw_cell_below hb1 p0; have q1_0 := pw_cell_below hb1 q0; have p1_1 := pw_cell_below hb1 p1; have q1_1 := pw_cell_below hb1 q1; have HC1 := Aside0.mk (below_then HC0.out HC0.out.size hb1); clear hb1))
    go_ret
    exact ⟨ret_bool HF.out.symm, below_then HX.out HX.out.size HC2.out⟩
  | true =>
  have HF : Aside0 (sameSpan x y = true) := ⟨by rw [HV.out, h0, h1]; simp⟩
  have HE0 := Aside0.mk h0
  clear h0
  have HE1 := Aside0.mk h1
  clear h1
  go_enter Try.func67, Try.ntmps67
  go_upto_region 1 with fail
  rw [← HW.out]
  go_wp2_with (first | (go_at_call 68; refine (sOccsSame_any A1 B1 c1 d1 x.f1 y.f1 _ (HA1.out.below HC1.out) (HB1.out.below HC1.out)).mono ?_; rintro e w2 ⟨rfl, hb2⟩; rw [HE1.out]; have p2_0 := pw_cell_below hb2 p1_0; have q2_0 := pw_cell_below hb2 q1_0; have p2_1 := pw_cell_below hb2 p1_1; have q2_1 := pw_cell_below hb2 q1_1; have HC2 := Aside0.mk (below_then HC1.out HC1.out.size hb2); clear hb2) | (go_at_call 68; refine (sOccsSame_any A0 B0 c0 d0 x.f0 y.f0 _ (HA0.out.below HC0.out) (HB0.out.below HC0.out)).mono ?_; rintro e w1 ⟨rfl, hb1⟩; rw [HE0.out]; have p1_0 := pw_cell_below hb1 p0; have q1_0 := pw_cell_below hb1 q0; have p1_1 := pw_cell_below hb1 p1; have q1_1 := pw_cell_below hb1 q1; have HC1 := Aside0.mk (below_then HC0.out HC0.out.size hb1); clear hb1))
  go_ret
  exact ⟨ret_bool HF.out.symm, below_then HX.out HX.out.size HC2.out⟩
end Go.Proofs.Ytbbdkhffacoglaa.Km
