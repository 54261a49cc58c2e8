
/- l11Or: the choices of an expression put in order: the reference's. -/
import Derived.Test.YtbbdkhffacoglaaDoorNl
import Derived.Test.YtbbdkhffacoglaaDoorNn
import Derived.Test.YtbbdkhffacoglaaDoorZa
set_option linter.unusedVariables false
set_option linter.unusedSimpArgs false
namespace Go.Proofs.YtbbdkhffacoglaaDoor.No
open Go.RowKit Go.Proofs.YtbbdkhffacoglaaDoorW.PrintWords Go.Proofs.YtbbdkhffacoglaaDoor.Ja Go.Proofs.YtbbdkhffacoglaaDoor.Jb Go.Proofs.YtbbdkhffacoglaaDoor.Jc Go.Proofs.YtbbdkhffacoglaaDoor.Jd Go.Proofs.YtbbdkhffacoglaaDoor.Jg Go.Proofs.YtbbdkhffacoglaaDoor.Ka Go.Proofs.YtbbdkhffacoglaaDoor.Kf Go.Proofs.YtbbdkhffacoglaaDoor.Na Go.Proofs.YtbbdkhffacoglaaDoor.Nb Go.Proofs.YtbbdkhffacoglaaDoor.Nc Go.Proofs.YtbbdkhffacoglaaDoor.Nd Go.Proofs.YtbbdkhffacoglaaDoor.Ne Go.Proofs.YtbbdkhffacoglaaDoor.Nf Go.Proofs.YtbbdkhffacoglaaDoor.Ng Go.Proofs.YtbbdkhffacoglaaDoor.Nh Go.Proofs.YtbbdkhffacoglaaDoor.Ni Go.Proofs.YtbbdkhffacoglaaDoor.Nj Go.Proofs.YtbbdkhffacoglaaDoor.Nk Go.Proofs.YtbbdkhffacoglaaDoor.Nl Go.Proofs.YtbbdkhffacoglaaDoor.Nn

theorem putE_len (x : Ex) : ∀ l : List Ex, (putE l x).length ≤ l.length + 1
  | [] => by simp [putE]
  | y :: ys => by
    have ih := putE_len x ys
    unfold putE
    split
    · simp; omega
    · split <;> simp <;> omega
mutual
theorem or_len (acc : List Ex) : ∀ x, (orX x acc).length ≤ acc.length + (lvX x).length
  | .mk k a b l => by
    unfold orX lvX
    split
    · exact orL_len acc l
    · exact putE_len _ _
theorem orL_len (acc : List Ex) : ∀ l, (orL l acc).length ≤ acc.length + (lvL l).length
  | [] => by simp [orL, lvL]
  | x :: xs => by
    have h1 := or_len acc x
    have h2 := orL_len (orX x acc) xs
    unfold orL lvL
    rw [List.length_append]
    omega
end
mutual
theorem lv_len : ∀ x : Ex, (lvX x).length ≤ 1 + cntL x.f3
  | .mk k a b l => by
    unfold lvX
    split
    · have := lvL_len l
      show _ ≤ 1 + cntL l
      omega
    · simp
theorem lvL_len : ∀ l : List Ex, (lvL l).length ≤ cntL l
  | [] => by simp [lvL]
  | x :: xs => by
    have h1 := lv_len x
    have h2 := lvL_len xs
    unfold lvL
    rw [List.length_append, cntL_cons]
    omega
end
theorem lv_two {x y z : Ex} (h : x.f0 = 2) (hL : x.f3 = [y, z]) : lvX x = lvX y ++ lvX z := by
  cases x with
  | mk a b c l =>
    change a = 2 at h
    change l = [y, z] at hL
    subst h hL
    simp [lvX, lvL]
theorem or_two {x y z : Ex} {acc : List Ex} (h : x.f0 = 2) (hL : x.f3 = [y, z]) : orX x acc = orX z (orX y acc) := by
  rw [orX_eq, if_pos h, hL]; simp [orL]
abbrev OrCall (x : Ex) : Prop := ∀ (Wz : Wq) base v acc A c (w : World), Below Wz.heap.size Wz w → Wz.heap.size ≤ base → base ≤ w.heap.size → AllF acc → SortS acc → (∀ y ∈ acc, cntL y.f3 ≤ 1048576) → acc.length + (lvX x).length ≤ 1048576 → RowC Wz w base v acc → IsEL 29 Wz x.f3 A c → Wz.Q x [.int .i64 x.f0, .int .i64 x.f1, .int .i64 x.f2, .slice A x.f3.length c] →
    Calls Tryd.prog 32 #[v, X x.f0 x.f1 x.f2 A x.f3.length c] w fun e w' => PutOut Wz w w' base v (orX x acc) e
set_option maxHeartbeats 4000000 in
set_option maxRecDepth 100000 in
theorem or_of (x : Ex) (hf : formB x = true) (hc : cntL x.f3 ≤ 1048576) (hE : ∀ y, y ∈ x.f3 → OrCall y) : OrCall x := fun Wz base v acc A c w hz hbz hbase hfa hsa hca hln hR hL hq => by
  have hb0 := below_alloc (Below.refl w.heap.size w) (.cells #[.int .i64 x.f0, .int .i64 x.f1, .int .i64 x.f2, .slice A x.f3.length c] 29)
  have bX := blk_new w (.cells #[.int .i64 x.f0, .int .i64 x.f1, .int .i64 x.f2, .slice A x.f3.length c] 29)
  obtain ⟨W, hW⟩ : ∃ W, W = w.alloc (.cells #[.int .i64 x.f0, .int .i64 x.f1, .int .i64 x.f2, .slice A x.f3.length c] 29) := ⟨_, rfl⟩
  have hWs : W.heap.size = w.heap.size + 1 := by rw [hW]; simp
  rw [← hW] at hb0 bX
  have HW := Aside0.mk hW
  have HX := Aside0.mk hb0
  have BX := Aside0.mk bX
  have HZ := Aside0.mk (below_then hz hz.size hb0)
  have HWS := Aside0.mk hWs
  have HZW := Aside0.mk hz.size
  have HBZ := Aside0.mk hbz
  have HBW := Aside0.mk (show base ≤ W.heap.size by omega)
  have HRW := Aside0.mk (Kd.R_below hR hb0)
  have HLT := Aside0.mk (Kd.R_lt hR)
  have HFA := Aside0.mk hfa
  have HCA := Aside0.mk hca
  have HSA := Aside0.mk hsa
  have HLN := Aside0.mk hln
  have HFX := Aside0.mk hf
  clear hW hWs hR hfa hca hsa hbz hbase
  by_cases h2 : x.f0 = 2
  rotate_left
  · have d1 : (x.f0 == 2) = false := by simp [h2]
    have HC : Aside0 (orX x acc = putE acc x) := ⟨by rw [orX_eq, if_neg h2]⟩
    have HIX := Aside0.mk hL
    have HIQ := Aside0.mk hq
    have hle : acc.length ≤ 1048576 := by omega
    have p0 := (blk_cell bX 0).trans rfl
    have p1 := (blk_cell bX 1).trans rfl
    have p2 := (blk_cell bX 2).trans rfl
    have p3 := (blk_cell bX 3).trans rfl
    clear h2 hL hz hb0 bX hln hf hE hq
    go_enter Tryd.func32, Tryd.ntmps32
    go_upto_region 1 with fail
    rw [← HW.out]
    go_wp2_with (go_at_call 59; refine (l11Put_any Wz base v acc x A c _ HZ.out HBZ.out HBW.out HFA.out HFX.out HCA.out hc hle HRW.out HIX.out HIQ.out).mono ?_; rintro e w2 ⟨v2, rfl, hr2, hg2, ha2⟩; have HR2 := Aside0.mk hr2; have HG2 := Aside0.mk hg2; have HA2 := Aside0.mk ha2; clear hr2 hg2 ha2)
    go_ret
    exact ⟨_, rfl, by rw [HC.out]; exact HR2.out, grown_new2 (grown_of_below2 HX.out _) HG2.out (fun _ h => .inr h.symm), fun j hj => by
      rcases HA2.out j hj with h | h
      · exact .inl (by have := HWS.out; omega)
      · exact .inr h⟩
  have d1 : (x.f0 == 2) = true := by simp [h2]
  have hk2 : x.f3.length = 2 := by
    have h := (form_head hf).1.kids
    rw [h2] at h
    have h3 : kidsN 2 = 2 := by decide
    omega
  obtain ⟨ad, A0, c0, rfl, a0, a1, a2, a3, jy⟩ := atE hL 0 (by omega)
  obtain ⟨ad', A1, c1, eA, b0, b1, b2, b3, jz⟩ := atE hL 1 (by omega)
  obtain rfl : ad = ad' := Option.some.inj eA
  have hym : x.f3.getD 0 zE ∈ x.f3 := getE_mem (by omega)
  have hzm : x.f3.getD 1 zE ∈ x.f3 := getE_mem (by omega)
  have HQY := Aside0.mk (hE _ hym)
  have HQZ := Aside0.mk (hE _ hzm)
  have HQ0 := Aside0.mk (Wz.her x ad _ _ 0 _ _ hq (by omega) a3)
  have HQ1 := Aside0.mk (Wz.her x ad _ _ 1 _ _ hq (by omega) b3)
  have hLX : x.f3 = [x.f3.getD 0 zE, x.f3.getD 1 zE] := by
    match x.f3, hk2 with
    | [p, q], _ => rfl
  have HCY := Aside0.mk (cnt_mem hym)
  have HLV := Aside0.mk (lv_two h2 hLX)
  have HOR := Aside0.mk (or_two (acc := acc) h2 hLX)
  have HFY := Aside0.mk (show formB (x.f3.getD 0 zE) = true by have h := (form_head hf).2; rw [formL_all, List.all_eq_true] at h; exact h _ hym)
  generalize x.f3.getD 0 zE = y at a0 a1 a2 a3 jy HQY HQ0 HFY HCY HLV HOR
  generalize x.f3.getD 1 zE = z at b0 b1 b2 b3 jz HQZ HQ1 HLV HOR
  have HJY := Aside0.mk jy
  have HJZ := Aside0.mk jz
  rw [hk2] at BX bX HW ⊢
  have e0 : ad.add (0 * 4) = ad := by unfold Addr.add; rfl
  rw [e0] at a0 a1 a2 a3
  have F : ∀ w', Below Wz.heap.size Wz w' → w'.heap[w.heap.size]? = some (.cells #[.int .i64 x.f0, .int .i64 x.f1, .int .i64 x.f2, .slice (some ad) 2 c] 29 (0, 0)) → (fun w' => w'.cell? ⟨w.heap.size, 3, none⟩ = some (.slice (some ad) 2 c) ∧ (w'.cell? ad = some (.int .i64 y.f0) ∧ w'.cell? ⟨ad.block, ad.off + 1, none⟩ = some (.int .i64 y.f1) ∧ w'.cell? ⟨ad.block, ad.off + 2, none⟩ = some (.int .i64 y.f2) ∧ w'.cell? ⟨ad.block, ad.off + 3, none⟩ = some (.slice A0 y.f3.length c0)) ∧ (w'.cell? ⟨ad.block, ad.off + 4, none⟩ = some (.int .i64 z.f0) ∧ w'.cell? ⟨ad.block, ad.off + 5, none⟩ = some (.int .i64 z.f1) ∧ w'.cell? ⟨ad.block, ad.off + 6, none⟩ = some (.int .i64 z.f2) ∧ w'.cell? ⟨ad.block, ad.off + 7, none⟩ = some (.slice A1 z.f3.length c1))) w' := fun w' h hb =>
    ⟨(blk_cell hb 3).trans rfl, ⟨pw_cell_below h a0, pw_cell_below h a1, pw_cell_below h a2, pw_cell_below h a3⟩, ⟨pw_cell_below h b0, pw_cell_below h b1, pw_cell_below h b2, pw_cell_below h b3⟩⟩
  have HF6 := Aside0.mk F
  have p0 := (blk_cell bX 0).trans rfl
  have hl1 : acc.length + (lvX y).length ≤ 1048576 := by have h := HLV.out; have h3 := HLN.out; rw [h, List.length_append] at h3; omega
  have hl2 : (orX y acc).length + (lvX z).length ≤ 1048576 := by have h := HLV.out; have h3 := HLN.out; rw [h, List.length_append] at h3; have := or_len acc y; omega
  have hok := or_ok y HFY.out HFA.out HSA.out
  have HL1 := Aside0.mk hl1
  have HL2 := Aside0.mk hl2
  have HF2 := Aside0.mk hok.1
  have HS2 := Aside0.mk hok.2.1
  have HC2 : Aside0 (∀ u ∈ orX y acc, cntL u.f3 ≤ 1048576) := ⟨fun u hu => by
    rcases (hok.2.2 u).1 hu with h | h
    · exact HCA.out u h
    · have h3 := lv_cnt y u h
      have h4 := HCY.out
      omega⟩
  clear a0 a1 a2 a3 b0 b1 b2 b3 e0 h2 hL hq hE hf hc jy jz hym hzm hz F hk2 bX hb0 eA hl1 hl2 hok hln hLX
  go_enter Tryd.func32, Tryd.ntmps32
  go_upto_region 1 with fail
  rw [← HW.out]
  go_upto_region 3 with fail
  clear p0 d1
  have HB0 : Below W.heap.size W W.drew := below_drew (Below.refl _ _)
  have HZ0 := Aside0.mk (below_then HZ.out HZ.out.size HB0)
  have HBX0 := Aside0.mk (blk_below BX.out HB0)
  refine Za.regionL (fun w' => w'.cell? ⟨w.heap.size, 3, none⟩ = some (.slice (some ad) 2 c) ∧ (w'.cell? ad = some (.int .i64 y.f0) ∧ w'.cell? ⟨ad.block, ad.off + 1, none⟩ = some (.int .i64 y.f1) ∧ w'.cell? ⟨ad.block, ad.off + 2, none⟩ = some (.int .i64 y.f2) ∧ w'.cell? ⟨ad.block, ad.off + 3, none⟩ = some (.slice A0 y.f3.length c0)) ∧ (w'.cell? ⟨ad.block, ad.off + 4, none⟩ = some (.int .i64 z.f0) ∧ w'.cell? ⟨ad.block, ad.off + 5, none⟩ = some (.int .i64 z.f1) ∧ w'.cell? ⟨ad.block, ad.off + 6, none⟩ = some (.int .i64 z.f2) ∧ w'.cell? ⟨ad.block, ad.off + 7, none⟩ = some (.slice A1 z.f3.length c1))) [] (by kernel_rfl) ?_
  have HS : (fun w' => w'.cell? ⟨w.heap.size, 3, none⟩ = some (.slice (some ad) 2 c) ∧ (w'.cell? ad = some (.int .i64 y.f0) ∧ w'.cell? ⟨ad.block, ad.off + 1, none⟩ = some (.int .i64 y.f1) ∧ w'.cell? ⟨ad.block, ad.off + 2, none⟩ = some (.int .i64 y.f2) ∧ w'.cell? ⟨ad.block, ad.off + 3, none⟩ = some (.slice A0 y.f3.length c0)) ∧ (w'.cell? ⟨ad.block, ad.off + 4, none⟩ = some (.int .i64 z.f0) ∧ w'.cell? ⟨ad.block, ad.off + 5, none⟩ = some (.int .i64 z.f1) ∧ w'.cell? ⟨ad.block, ad.off + 6, none⟩ = some (.int .i64 z.f2) ∧ w'.cell? ⟨ad.block, ad.off + 7, none⟩ = some (.slice A1 z.f3.length c1))) W.drew := HF6.out _ HZ0.out HBX0.out
  refine Za.takeL 0 (v := ?va0) rfl (by kernel_rfl) (by kernel_rfl) (by kernel_rfl) (by kernel_rfl) (fun _ _ _ h => h) (Or.inl ⟨by rfl, ?hya0⟩) HS ?resta0
  case hya0 => (intro w hSw; (try dsimp only at hSw); go_simp; try with_reducible rfl)
  (try simp only [Act.put, List.setIfInBounds_toArray, List.set_cons_zero, List.set_cons_succ])
  refine Za.takeL 1 (v := ?va1) rfl (by kernel_rfl) (by kernel_rfl) (by kernel_rfl) (by kernel_rfl) (fun _ _ _ h => h) (Or.inl ⟨by rfl, ?hya1⟩) HS ?resta1
  case hya1 => (intro w hSw; (try dsimp only at hSw); go_simp; try with_reducible rfl)
  (try simp only [Act.put, List.setIfInBounds_toArray, List.set_cons_zero, List.set_cons_succ])
  refine Za.takeL 2 (v := ?va2) rfl (by kernel_rfl) (by kernel_rfl) (by kernel_rfl) (by kernel_rfl) (fun _ _ _ h => h) (Or.inl ⟨by rfl, ?hya2⟩) HS ?resta2
  case hya2 => (intro w hSw; (try dsimp only at hSw); go_simp; try with_reducible rfl)
  (try simp only [Act.put, List.setIfInBounds_toArray, List.set_cons_zero, List.set_cons_succ])
  refine Za.takeL 3 (v := ?va3) rfl (by kernel_rfl) (by kernel_rfl) (by kernel_rfl) (by kernel_rfl) (fun _ _ _ h => h) (Or.inl ⟨by rfl, ?hya3⟩) HS ?resta3
  case hya3 => (intro w hSw; (try dsimp only at hSw); go_simp; try with_reducible rfl)
  (try simp only [Act.put, List.setIfInBounds_toArray, List.set_cons_zero, List.set_cons_succ])
  refine Za.takeL 4 (v := ?va4) rfl (by kernel_rfl) (by kernel_rfl) (by kernel_rfl) (by kernel_rfl) (fun _ _ _ h => h) (Or.inl ⟨by rfl, ?hya4⟩) HS ?resta4
  case hya4 => (intro w hSw; (try dsimp only at hSw); go_simp; try with_reducible rfl)
  (try simp only [Act.put, List.setIfInBounds_toArray, List.set_cons_zero, List.set_cons_succ])
  refine Za.takeL 6 (v := ?va6) rfl (by kernel_rfl) (by kernel_rfl) (by kernel_rfl) (by kernel_rfl) (fun _ _ _ h => h) (Or.inl ⟨by rfl, ?hya6⟩) HS ?resta6
  case hya6 => (intro w hSw; (try dsimp only at hSw); go_simp; try with_reducible rfl)
  (try simp only [Act.put, List.setIfInBounds_toArray, List.set_cons_zero, List.set_cons_succ])
  refine Za.takeL 7 (v := ?va7) rfl (by kernel_rfl) (by kernel_rfl) (by kernel_rfl) (by kernel_rfl) (fun _ _ _ h => h) (Or.inl ⟨by rfl, ?hya7⟩) HS ?resta7
  case hya7 => (intro w hSw; (try dsimp only at hSw); go_simp; try with_reducible rfl)
  (try simp only [Act.put, List.setIfInBounds_toArray, List.set_cons_zero, List.set_cons_succ])
  refine Za.takeL 8 (v := ?va8) rfl (by kernel_rfl) (by kernel_rfl) (by kernel_rfl) (by kernel_rfl) (fun _ _ _ h => h) (Or.inl ⟨by rfl, ?hya8⟩) HS ?resta8
  case hya8 => (intro w hSw; (try dsimp only at hSw); go_simp; try with_reducible rfl)
  (try simp only [Act.put, List.setIfInBounds_toArray, List.set_cons_zero, List.set_cons_succ])
  refine Za.takeL 9 (v := ?va9) rfl (by kernel_rfl) (by kernel_rfl) (by kernel_rfl) (by kernel_rfl) (fun _ _ _ h => h) (Or.inl ⟨by rfl, ?hya9⟩) HS ?resta9
  case hya9 => (intro w hSw; (try dsimp only at hSw); go_simp; try with_reducible rfl)
  (try simp only [Act.put, List.setIfInBounds_toArray, List.set_cons_zero, List.set_cons_succ])
  clear HS
  refine Za.nextL 5 (by kernel_rfl) rfl (fun K' hK => ?_)
  go_simp
  (go_at_call 32; refine (HQY.out Wz base v acc A0 c0 _ HZ0.out HBZ.out HBW.out HFA.out HSA.out HCA.out HL1.out (Kd.R_below HRW.out HB0) HJY.out HQ0.out).mono ?_; rintro e w4 ⟨v4, rfl, hr4, hg4, ha4⟩)
  go_wp2_with fail
  have HX4 := Aside0.mk (blk_grown HBX0.out hg4 (fun h => by have := HLT.out _ h.symm; omega))
  have HZ4 := Aside0.mk (pw_below_grown HZ0.out _ (Nat.le_trans HZW.out (Nat.le_trans (by have := HWS.out; omega) (Nat.le_refl W.heap.size))) hg4 (fun j hj => Nat.le_trans HBZ.out (Kd.R_base HRW.out j hj)))
  have HR4 := Aside0.mk hr4
  have HG4 := Aside0.mk hg4
  have HA4 := Aside0.mk ha4
  clear hr4 hg4 ha4
  refine hK.out _ _ ⟨fun _ => HF6.out _ HZ4.out HX4.out, ?_⟩
  clear hK K'
  (try simp only [Act.put, List.setIfInBounds_toArray, List.set_cons_zero, List.set_cons_succ])
  refine Za.nextL 10 (by kernel_rfl) rfl (fun K' hK => ?_)
  go_simp
  have hbw4 : base ≤ w4.heap.size := Nat.le_trans HBW.out HG4.out.size
  have hn4 : ∀ j, v4.ownBlock = some j → j ≠ w.heap.size ∧ Wz.heap.size ≤ j := fun j hj => by
    refine ⟨?_, Nat.le_trans HBZ.out (Kd.R_base HR4.out j hj)⟩
    rcases HA4.out j hj with h | h
    · have h1 := HWS.out
      have h3 : W.heap.size ≤ j := h
      omega
    · have := HLT.out _ h.symm; omega
  (go_at_call 32; refine (HQZ.out Wz base v4 (orX y acc) A1 c1 _ HZ4.out HBZ.out hbw4 HF2.out HS2.out HC2.out HL2.out HR4.out HJZ.out HQ1.out).mono ?_; rintro e w5 ⟨v5, rfl, hr5, hg5, ha5⟩)
  go_wp2_with fail
  have HX5 := Aside0.mk (blk_grown HX4.out hg5 (fun h => (hn4 _ h.symm).1 rfl))
  have HZ5 := Aside0.mk (pw_below_grown HZ4.out _ (Nat.le_trans HZ4.out.size (Nat.le_refl _)) hg5 (fun j hj => (hn4 j hj).2))
  have HR5 := Aside0.mk hr5
  have HG5 := Aside0.mk hg5
  have HA5 := Aside0.mk ha5
  clear hr5 hg5 ha5 hn4 hbw4
  refine hK.out _ _ ⟨fun _ => HF6.out _ HZ5.out HX5.out, ?_⟩
  clear hK K'
  (try simp only [Act.put, List.setIfInBounds_toArray, List.set_cons_zero, List.set_cons_succ])
  refine Za.nextL 11 (by kernel_rfl) rfl (fun K' hK => ?_)
  go_simp
  refine hK.out _ _ ⟨fun _ => HF6.out _ HZ5.out HX5.out, ?_⟩
  clear hK K'
  (try simp only [Act.put, List.setIfInBounds_toArray, List.set_cons_zero, List.set_cons_succ])
  refine Za.Walk.done (by kernel_rfl) ?_
  go_wp2
  go_ret
  have h4 : ∀ j, v4.ownBlock = some j → w.heap.size ≤ j ∨ some j = v.ownBlock := fun j hj => by
    rcases HA4.out j hj with h | h
    · have h1 := HWS.out
      have h3 : W.heap.size ≤ j := h
      exact .inl (by omega)
    · exact .inr h
  have g4 : w.grownBy w4 v.ownBlock := grown_new2 (grown_of_below2 (below_then HX.out HX.out.size HB0) _) HG4.out (fun _ h => .inr h.symm)
  exact ⟨_, rfl, by rw [HOR.out]; exact HR5.out, grown_new2 g4 HG5.out h4, fun j hj => by
    rcases HA5.out j hj with h | h
    · exact .inl (Nat.le_trans g4.size h)
    · exact h4 j h.symm⟩
theorem or_any (x : Ex) (hf : formB x = true) (hc : cntL x.f3 ≤ 1048576) : OrCall x := or_of x hf hc (fun y hy =>
  have := cnt_mem hy
  or_any y (by have h := (form_head hf).2; rw [formL_all, List.all_eq_true] at h; exact h y hy) (by omega))
termination_by cntL x.f3
end Go.Proofs.YtbbdkhffacoglaaDoor.No
