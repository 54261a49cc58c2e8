
/- The choices of an expression: the program's function. -/
import Derived.Test.YtbbdkhffacoglaaDoorNk
import Derived.Test.YtbbdkhffacoglaaDoorZa
set_option linter.unusedVariables false
set_option linter.unusedSimpArgs false
namespace Go.Proofs.YtbbdkhffacoglaaDoor.Nl
open Go.RowKit Go.Proofs.YtbbdkhffacoglaaDoorW.PrintWords Go.Proofs.YtbbdkhffacoglaaDoor.Ja Go.Proofs.YtbbdkhffacoglaaDoor.Jb Go.Proofs.YtbbdkhffacoglaaDoor.Jc Go.Proofs.YtbbdkhffacoglaaDoor.Jd Go.Proofs.YtbbdkhffacoglaaDoor.Jg Go.Proofs.YtbbdkhffacoglaaDoor.Ka Go.Proofs.YtbbdkhffacoglaaDoor.Kf Go.Proofs.YtbbdkhffacoglaaDoor.Na Go.Proofs.YtbbdkhffacoglaaDoor.Nb Go.Proofs.YtbbdkhffacoglaaDoor.Nc Go.Proofs.YtbbdkhffacoglaaDoor.Nd Go.Proofs.YtbbdkhffacoglaaDoor.Ne Go.Proofs.YtbbdkhffacoglaaDoor.Nf Go.Proofs.YtbbdkhffacoglaaDoor.Ng Go.Proofs.YtbbdkhffacoglaaDoor.Nh Go.Proofs.YtbbdkhffacoglaaDoor.Ni Go.Proofs.YtbbdkhffacoglaaDoor.Nj Go.Proofs.YtbbdkhffacoglaaDoor.Nk

theorem row1 (Wz : Wq) (W : World) (base : Nat) (hb : base ≤ W.heap.size) (x : Ex) (A : Option Addr) (c : Nat) (hK : (kC Wz).K Wz x [.int .i64 x.f0, .int .i64 x.f1, .int .i64 x.f2, .slice A x.f3.length c]) :
    RowC Wz (W.alloc (.cells #[.int .i64 x.f0, .int .i64 x.f1, .int .i64 x.f2, .slice A x.f3.length c] 29)) base (.slice (some ⟨W.heap.size, 0, none⟩) 1 1) [x] :=
  ⟨fun _ _ => trivial, [.int .i64 x.f0, .int .i64 x.f1, .int .i64 x.f2, .slice A x.f3.length c], ⟨rfl, .inr ⟨W.heap.size, 1, #[.int .i64 x.f0, .int .i64 x.f1, .int .i64 x.f2, .slice A x.f3.length c], rfl, hb, blk_new _ _, Nat.le_refl _, by unfold maxLen; omega, rfl, rfl⟩⟩, ⟨rfl, fun j p hp => by
    have hj : j = 0 := by have := (List.getElem?_eq_some_iff.1 hp).1; simp at this; exact this
    subst hj
    obtain rfl : x = p := by simpa using hp
    exact hK⟩⟩
mutual
theorem lv_cnt : ∀ (x z : Ex), z ∈ lvX x → cntL z.f3 ≤ cntL x.f3
  | .mk k a b l, z, h => by
    unfold lvX at h
    split at h
    · exact lvL_cnt l z h
    · simp at h; subst h; exact Nat.le_refl _
theorem lvL_cnt : ∀ (l : List Ex) (z : Ex), z ∈ lvL l → cntL z.f3 ≤ cntL l
  | [], z, h => by simp [lvL] at h
  | x :: xs, z, h => by
    rw [lvL, List.mem_append] at h
    rw [cntL_cons]
    rcases h with h | h
    · have := lv_cnt x z h; omega
    · have := lvL_cnt xs z h; omega
end
theorem sort_same {l l' : List Ex} (hf : AllF l) (hs : SortW l') (hp : l'.Perm l) : dedup l' = dedup (sortE l) := by
  have hf' : AllF l' := fun z hz => hf z (hp.mem_iff.1 hz)
  have hf2 : AllF (sortE l) := fun z hz => hf z (mem_sortE.1 hz)
  exact sorted_ext (dedup_sorted hf' hs) (dedup_sorted hf2 (sortE_sorted l)) (fun z => by rw [mem_dedup, mem_dedup, mem_sortE, hp.mem_iff])
def ChOut (Wz : Wq) (w w' : World) (l : List Ex) (e : Ending) : Prop := ∃ v, e = .returned v ∧ RowC Wz w' w.heap.size v l ∧ Below w.heap.size w w'
abbrev ChCall (x : Ex) : Prop := ∀ (Wz : Wq) A c (w : World), Below Wz.heap.size Wz w → Words Wz → IsEL 29 Wz x.f3 A c → Wz.Q x [.int .i64 x.f0, .int .i64 x.f1, .int .i64 x.f2, .slice A x.f3.length c] → Calls Tryd.prog 36 #[X x.f0 x.f1 x.f2 A x.f3.length c] w fun e w' => ChOut Wz w w' (chX x) e
set_option maxHeartbeats 4000000 in
set_option maxRecDepth 100000 in
theorem choices_of (x : Ex) (hf : formB x = true) (hc : cntL x.f3 ≤ 1000) (hE : ∀ y, y ∈ x.f3 → ChCall y) : ChCall x := fun Wz A c w hz hWd hL hq => by
  have hb0 := below_alloc (Below.refl w.heap.size w) (.cells #[.int .i64 x.f0, .int .i64 x.f1, .int .i64 x.f2, .slice A x.f3.length c] 29)
  have bX := blk_new w (.cells #[.int .i64 x.f0, .int .i64 x.f1, .int .i64 x.f2, .slice A x.f3.length c] 29)
  obtain ⟨W, hW⟩ : ∃ W, W = w.alloc (.cells #[.int .i64 x.f0, .int .i64 x.f1, .int .i64 x.f2, .slice A x.f3.length c] 29) := ⟨_, rfl⟩
  have hWs : W.heap.size = w.heap.size + 1 := by rw [hW]; simp
  rw [← hW] at hb0 bX
  have HW := Aside0.mk hW
  have HX := Aside0.mk hb0
  have BX := Aside0.mk bX
  have HZ := Aside0.mk (below_then hz hz.size hb0)
  have HWS := Aside0.mk hWs
  have hzs := hz.size
  clear hW hWs
  by_cases h2 : x.f0 = 2
  rotate_left
  · have d1 : (x.f0 != 2) = true := by simp [h2]
    have HC : Aside0 (chX x = [x]) := ⟨by rw [chX_eq, if_neg h2]⟩
    have HR := Aside0.mk (row1 Wz W w.heap.size (by have := HX.out.size; omega) x A c ⟨kE_mk x hL.1 hL.2, hq⟩)
    have hba := below_alloc (Below.refl W.heap.size W) (.cells #[.int .i64 x.f0, .int .i64 x.f1, .int .i64 x.f2, .slice A x.f3.length c] 29)
    have HB := Aside0.mk (below_then HX.out HX.out.size hba)
    have p0 := (blk_cell bX 0).trans rfl
    have p1 := (blk_cell bX 1).trans rfl
    have p2 := (blk_cell bX 2).trans rfl
    have p3 := (blk_cell bX 3).trans rfl
    clear h2 hL hz hba hb0 bX hq
    go_enter Tryd.func36, Tryd.ntmps36
    go_upto_region 1 with fail
    rw [← HW.out]
    go_wp2
    go_ret
    exact ⟨_, rfl, by rw [HC.out]; exact HR.out, HB.out⟩
  have d1 : (x.f0 != 2) = false := by simp [h2]
  have hk2 : x.f3.length = 2 := by
    have h := (form_head hf).1.kids
    rw [h2] at h
    have h3 : kidsN 2 = 2 := by decide
    omega
  have HC : Aside0 (chX x = dedup (sortE (chL x.f3))) := ⟨by rw [chX_eq, if_pos h2]⟩
  obtain ⟨ad, A0, c0, rfl, a0, a1, a2, a3, jy⟩ := atE hL 0 (by omega)
  obtain ⟨ad', A1, c1, eA, b0, b1, b2, b3, jz⟩ := atE hL 1 (by omega)
  obtain rfl : ad = ad' := Option.some.inj eA
  have hym : x.f3.getD 0 zE ∈ x.f3 := getE_mem (by omega)
  have hzm : x.f3.getD 1 zE ∈ x.f3 := getE_mem (by omega)
  have HQY := Aside0.mk (hE _ hym)
  have HQZ := Aside0.mk (hE _ hzm)
  have HQ0 := Aside0.mk (Wz.her x ad _ _ 0 _ _ hq (by omega) a3)
  have HQ1 := Aside0.mk (Wz.her x ad _ _ 1 _ _ hq (by omega) b3)
  have HLX := Aside0.mk (show x.f3 = [x.f3.getD 0 zE, x.f3.getD 1 zE] from by
    match x.f3, hk2 with
    | [p, q], _ => rfl)
  have HF := Aside0.mk (form_head hf).2
  have HCN := Aside0.mk hc
  generalize x.f3.getD 0 zE = y at a0 a1 a2 a3 jy HQY HQ0 HLX
  generalize x.f3.getD 1 zE = z at b0 b1 b2 b3 jz HQZ HQ1 HLX
  have HJY := Aside0.mk jy
  have HJZ := Aside0.mk jz
  have HWD := Aside0.mk hWd
  rw [hk2] at BX bX HW ⊢
  have e0 : ad.add (0 * 4) = ad := by unfold Addr.add; rfl
  rw [e0] at a0 a1 a2 a3
  have F : ∀ w', Below W.heap.size W w' → (fun w' => w'.cell? ⟨w.heap.size, 3, none⟩ = some (.slice (some ad) 2 c) ∧ (w'.cell? ad = some (.int .i64 y.f0) ∧ w'.cell? ⟨ad.block, ad.off + 1, none⟩ = some (.int .i64 y.f1) ∧ w'.cell? ⟨ad.block, ad.off + 2, none⟩ = some (.int .i64 y.f2) ∧ w'.cell? ⟨ad.block, ad.off + 3, none⟩ = some (.slice A0 y.f3.length c0)) ∧ (w'.cell? ⟨ad.block, ad.off + 4, none⟩ = some (.int .i64 z.f0) ∧ w'.cell? ⟨ad.block, ad.off + 5, none⟩ = some (.int .i64 z.f1) ∧ w'.cell? ⟨ad.block, ad.off + 6, none⟩ = some (.int .i64 z.f2) ∧ w'.cell? ⟨ad.block, ad.off + 7, none⟩ = some (.slice A1 z.f3.length c1))) w' := fun w' h =>
    have hh := below_then HZ.out HZ.out.size h
    ⟨(blk_cell (blk_below BX.out h) 3).trans rfl, ⟨pw_cell_below hh a0, pw_cell_below hh a1, pw_cell_below hh a2, pw_cell_below hh a3⟩, ⟨pw_cell_below hh b0, pw_cell_below hh b1, pw_cell_below hh b2, pw_cell_below hh b3⟩⟩
  have HF6 := Aside0.mk F
  have p0 := (blk_cell bX 0).trans rfl
  clear a0 a1 a2 a3 b0 b1 b2 b3 e0 h2 hL hq hE hf hc jy jz hym hzm hz hWd F hk2 bX hb0 eA
  go_enter Tryd.func36, Tryd.ntmps36
  go_upto_region 1 with fail
  rw [← HW.out]
  go_upto_region 3 with fail
  clear p0 d1
  have HB0 : Below W.heap.size W W.drew := below_drew (Below.refl _ _)
  refine Za.regionL (fun w' => w'.cell? ⟨w.heap.size, 3, none⟩ = some (.slice (some ad) 2 c) ∧ (w'.cell? ad = some (.int .i64 y.f0) ∧ w'.cell? ⟨ad.block, ad.off + 1, none⟩ = some (.int .i64 y.f1) ∧ w'.cell? ⟨ad.block, ad.off + 2, none⟩ = some (.int .i64 y.f2) ∧ w'.cell? ⟨ad.block, ad.off + 3, none⟩ = some (.slice A0 y.f3.length c0)) ∧ (w'.cell? ⟨ad.block, ad.off + 4, none⟩ = some (.int .i64 z.f0) ∧ w'.cell? ⟨ad.block, ad.off + 5, none⟩ = some (.int .i64 z.f1) ∧ w'.cell? ⟨ad.block, ad.off + 6, none⟩ = some (.int .i64 z.f2) ∧ w'.cell? ⟨ad.block, ad.off + 7, none⟩ = some (.slice A1 z.f3.length c1))) [] (by kernel_rfl) ?_
  have HS : (fun w' => w'.cell? ⟨w.heap.size, 3, none⟩ = some (.slice (some ad) 2 c) ∧ (w'.cell? ad = some (.int .i64 y.f0) ∧ w'.cell? ⟨ad.block, ad.off + 1, none⟩ = some (.int .i64 y.f1) ∧ w'.cell? ⟨ad.block, ad.off + 2, none⟩ = some (.int .i64 y.f2) ∧ w'.cell? ⟨ad.block, ad.off + 3, none⟩ = some (.slice A0 y.f3.length c0)) ∧ (w'.cell? ⟨ad.block, ad.off + 4, none⟩ = some (.int .i64 z.f0) ∧ w'.cell? ⟨ad.block, ad.off + 5, none⟩ = some (.int .i64 z.f1) ∧ w'.cell? ⟨ad.block, ad.off + 6, none⟩ = some (.int .i64 z.f2) ∧ w'.cell? ⟨ad.block, ad.off + 7, none⟩ = some (.slice A1 z.f3.length c1))) W.drew := HF6.out _ HB0
  refine Za.takeL 0 (v := ?va0) rfl (by kernel_rfl) (by kernel_rfl) (by kernel_rfl) (by kernel_rfl) (fun _ _ _ h => h) (Or.inl ⟨by rfl, ?hya0⟩) HS ?resta0
  case hya0 => (intro w hSw; (try dsimp only at hSw); go_simp; try with_reducible rfl)
  (try simp only [Act.put, List.setIfInBounds_toArray, List.set_cons_zero, List.set_cons_succ])
  refine Za.takeL 1 (v := ?va1) rfl (by kernel_rfl) (by kernel_rfl) (by kernel_rfl) (by kernel_rfl) (fun _ _ _ h => h) (Or.inl ⟨by rfl, ?hya1⟩) HS ?resta1
  case hya1 => (intro w hSw; (try dsimp only at hSw); go_simp; try with_reducible rfl)
  (try simp only [Act.put, List.setIfInBounds_toArray, List.set_cons_zero, List.set_cons_succ])
  refine Za.takeL 2 (v := ?va2) rfl (by kernel_rfl) (by kernel_rfl) (by kernel_rfl) (by kernel_rfl) (fun _ _ _ h => h) (Or.inl ⟨by rfl, ?hya2⟩) HS ?resta2
  case hya2 => (intro w hSw; (try dsimp only at hSw); go_simp; try with_reducible rfl)
  (try simp only [Act.put, List.setIfInBounds_toArray, List.set_cons_zero, List.set_cons_succ])
  refine Za.takeL 3 (v := ?va3) rfl (by kernel_rfl) (by kernel_rfl) (by kernel_rfl) (by kernel_rfl) (fun _ _ _ h => h) (Or.inl ⟨by rfl, ?hya3⟩) HS ?resta3
  case hya3 => (intro w hSw; (try dsimp only at hSw); go_simp; try with_reducible rfl)
  (try simp only [Act.put, List.setIfInBounds_toArray, List.set_cons_zero, List.set_cons_succ])
  refine Za.takeL 5 (v := ?va5) rfl (by kernel_rfl) (by kernel_rfl) (by kernel_rfl) (by kernel_rfl) (fun _ _ _ h => h) (Or.inl ⟨by rfl, ?hya5⟩) HS ?resta5
  case hya5 => (intro w hSw; (try dsimp only at hSw); go_simp; try with_reducible rfl)
  (try simp only [Act.put, List.setIfInBounds_toArray, List.set_cons_zero, List.set_cons_succ])
  refine Za.takeL 6 (v := ?va6) rfl (by kernel_rfl) (by kernel_rfl) (by kernel_rfl) (by kernel_rfl) (fun _ _ _ h => h) (Or.inl ⟨by rfl, ?hya6⟩) HS ?resta6
  case hya6 => (intro w hSw; (try dsimp only at hSw); go_simp; try with_reducible rfl)
  (try simp only [Act.put, List.setIfInBounds_toArray, List.set_cons_zero, List.set_cons_succ])
  refine Za.takeL 7 (v := ?va7) rfl (by kernel_rfl) (by kernel_rfl) (by kernel_rfl) (by kernel_rfl) (fun _ _ _ h => h) (Or.inl ⟨by rfl, ?hya7⟩) HS ?resta7
  case hya7 => (intro w hSw; (try dsimp only at hSw); go_simp; try with_reducible rfl)
  (try simp only [Act.put, List.setIfInBounds_toArray, List.set_cons_zero, List.set_cons_succ])
  refine Za.takeL 8 (v := ?va8) rfl (by kernel_rfl) (by kernel_rfl) (by kernel_rfl) (by kernel_rfl) (fun _ _ _ h => h) (Or.inl ⟨by rfl, ?hya8⟩) HS ?resta8
  case hya8 => (intro w hSw; (try dsimp only at hSw); go_simp; try with_reducible rfl)
  (try simp only [Act.put, List.setIfInBounds_toArray, List.set_cons_zero, List.set_cons_succ])
  clear HS
  refine Za.nextL 4 (by kernel_rfl) rfl (fun K' hK => ?_)
  go_simp
  (go_at_call 36; refine (HQY.out Wz A0 c0 _ (below_then HZ.out HZ.out.size HB0) HWD.out HJY.out HQ0.out).mono ?_; rintro e w4 ⟨v4, rfl, hr4, hb4⟩; obtain ⟨V4, d4, rfl, hl4, hC4⟩ := Kd.R_reads hr4; have HC4 := Aside0.mk hC4; have HB4 : Below W.heap.size W w4 := keepD hb4; clear hr4 hb4 hC4)
  go_wp2_with fail
  refine hK.out _ _ ⟨fun _ => HF6.out _ HB4, ?_⟩
  clear hK K'
  (try simp only [Act.put, List.setIfInBounds_toArray, List.set_cons_zero, List.set_cons_succ])
  refine Za.nextL 9 (by kernel_rfl) rfl (fun K' hK => ?_)
  go_simp
  (go_at_call 36; refine (HQZ.out Wz A1 c1 _ (below_then HZ.out HZ.out.size HB4) HWD.out HJZ.out HQ1.out).mono ?_; rintro e w5 ⟨v5, rfl, hr5, hb5⟩; obtain ⟨V5, d5, rfl, hl5, hC5⟩ := Kd.R_reads hr5; have HC5 := Aside0.mk hC5; have HC4' := Aside0.mk (Kd.C_below HC4.out hb5); have HB5 : Below W.heap.size W w5 := below_then HB4 HB4.size hb5; clear hr5 hb5 hC5)
  go_wp2_with fail
  refine hK.out _ _ ⟨fun _ => HF6.out _ HB5, ?_⟩
  clear hK K'
  (try simp only [Act.put, List.setIfInBounds_toArray, List.set_cons_zero, List.set_cons_succ])
  refine Za.nextL 10 (by kernel_rfl) rfl (fun K' hK => ?_)
  go_simp
  have hba := below_alloc (Below.refl w5.heap.size w5) (.cells #[.slice V4 (chX y).length d4, .slice V5 (chX z).length d5] 26)
  have bP := blk_new w5 (.cells #[.slice V4 (chX y).length d4, .slice V5 (chX z).length d5] 26)
  have HB6 : Below W.heap.size W (w5.alloc (.cells #[.slice V4 (chX y).length d4, .slice V5 (chX z).length d5] 26)) := below_then HB5 HB5.size hba
  have hly : (chX y).length ≤ 4000 := by
    have h := HF.out; rw [HLX.out] at h
    have h1 := ch_le y (formL_head h).1
    have h2 := HCN.out; rw [HLX.out, cntL_cons, cntL_cons, cntL_nil] at h2
    unfold tot at h1; omega
  have hlz : (chX z).length ≤ 4000 := by
    have h := HF.out; rw [HLX.out] at h
    have h1 := ch_le z (formL_head (formL_head h).2).1
    have h2 := HCN.out; rw [HLX.out, cntL_cons, cntL_cons, cntL_nil] at h2
    unfold tot at h1; omega
  refine hK.out _ _ ⟨fun _ => HF6.out _ HB6, ?_⟩
  clear hK K'
  (try simp only [Act.put, List.setIfInBounds_toArray, List.set_cons_zero, List.set_cons_succ])
  refine Za.nextL 11 (by kernel_rfl) rfl (fun K' hK => ?_)
  go_simp
  (go_at_call 62; refine (concat_any Wz w5.heap.size V4 V5 d4 d5 (chX y) (chX z) _ ((blk_cell bP 0).trans rfl) ((blk_cell bP 1).trans rfl) (Kd.C_below HC4'.out hba) (Kd.C_below HC5.out hba) (by omega) (by omega)).mono ?_; rintro e w7 ⟨v7, rfl, hr7, hb7⟩; have HR7 := Aside0.mk hr7; have HB7 : Below W.heap.size W w7 := below_then HB6 HB6.size hb7; clear hr7 hb7)
  go_wp2_with fail
  refine hK.out _ _ ⟨fun _ => HF6.out _ HB7, ?_⟩
  clear hK K'
  (try simp only [Act.put, List.setIfInBounds_toArray, List.set_cons_zero, List.set_cons_succ])
  refine Za.nextL 12 (by kernel_rfl) rfl (fun K' hK => ?_)
  go_simp
  refine hK.out _ _ ⟨fun _ => HF6.out _ HB7, ?_⟩
  clear hK K'
  (try simp only [Act.put, List.setIfInBounds_toArray, List.set_cons_zero, List.set_cons_succ])
  refine Za.Walk.done (by kernel_rfl) ?_
  have HCL := Aside0.mk (show chX y ++ chX z = chL x.f3 by rw [HLX.out]; simp [chL])
  have hbs : w.heap.size ≤ (w5.alloc (.cells #[.slice V4 (chX y).length d4, .slice V5 (chX z).length d5] 26)).heap.size := Nat.le_trans HX.out.size HB6.size
  generalize (w5.alloc (.cells #[.slice V4 (chX y).length d4, .slice V5 (chX z).length d5] 26)).heap.size = base at HR7 hbs
  have hl1 : 1 ≤ (chX y ++ chX z).length := by
    have h := HF.out; rw [HLX.out] at h
    have := ch_pos y (formL_head h).1
    rw [List.length_append]; omega
  have hl2 : (chX y ++ chX z).length ≤ 8000 := by rw [List.length_append]; omega
  have hfl : AllF (chX y ++ chX z) := by rw [HCL.out]; exact chL_form HF.out
  have hcl : ∀ u ∈ chX y ++ chX z, cntL u.f3 ≤ 1048576 := fun u hu => by
    rw [HCL.out] at hu
    have := lvL_cnt x.f3 u ((mem_chL x.f3).1 hu)
    have := HCN.out
    omega
  have HC2 : Aside0 (chX x = dedup (sortE (chX y ++ chX z))) := ⟨by rw [HCL.out]; exact HC.out⟩
  have HFL := Aside0.mk hfl
  generalize chX y ++ chX z = L at HR7 hl1 hl2 hfl hcl HC2 HFL
  obtain ⟨g, cap, rfl, hgb, hgl, -⟩ := Kd.R_form HR7.out hl1
  have HB7' := Aside0.mk HB7
  clear HB7 HB6 HB5 HB4 HB0 hba bP HF6 HC4 HC4' HC5 hly hlz HQY HQZ HJY HJZ HLX HC HCL
  go_upto_region 5 with (go_at_call 63; refine (sort_any Wz HWD.out _ base L _ (below_then HZ.out HZ.out.size HB7'.out) (Nat.le_trans hzs hbs) hfl hcl (by omega) hl1 HR7.out).mono ?_; rintro e w8 ⟨rfl, l', hs8, hp8, hr8, hg8⟩; have HS8 := Aside0.mk hs8; have HP8 := Aside0.mk hp8; have HR8 := Aside0.mk hr8; have HG8 := Aside0.mk hg8; clear hs8 hp8 hr8 hg8)
  have hll : L.length = l'.length := HP8.out.length_eq.symm
  have HZ8 : Aside0 (Below Wz.heap.size Wz w8) := ⟨pw_below_grown (below_then HZ.out HZ.out.size HB7'.out) (some g) (Nat.le_trans HZ.out.size HB7'.out.size) HG8.out (fun k hk => by injection hk with hk; omega)⟩
  have HD8 : Aside0 (dedup l' = chX x) := ⟨(sort_same HFL.out HS8.out HP8.out).trans HC2.out.symm⟩
  rw [hll] at HR8 hl1 hl2 ⊢
  have HHL := Aside0.mk hll
  clear hll hfl hcl hgl
  go_wp2_with (go_at_call 67; refine (compact_any Wz base g cap l' _ HZ8.out (Nat.le_trans hzs hbs) hl1 (by omega) HR8.out).mono ?_; rintro e w9 ⟨c9, rfl, hr9, hg9⟩; rw [HD8.out] at hr9; rw [HD8.out]; have HR9 := Aside0.mk hr9; have HG9 := Aside0.mk hg9; clear hr9 hg9)
  go_ret
  refine ⟨_, rfl, Kd.R_lower HR9.out hbs, ?_⟩
  have h7 := below_then HX.out HX.out.size HB7'.out
  exact pw_below_grown h7 (some g) h7.size (World.grownBy.trans HG8.out HG9.out) (fun k hk => by injection hk with hk; omega)
theorem choices_any (x : Ex) (hf : formB x = true) (hc : cntL x.f3 ≤ 1000) : ChCall x := choices_of x hf hc (fun y hy =>
  have := cnt_mem hy
  choices_any y (by have h := (form_head hf).2; rw [formL_all, List.all_eq_true] at h; exact h y hy) (by omega))
termination_by cntL x.f3
end Go.Proofs.YtbbdkhffacoglaaDoor.Nl
