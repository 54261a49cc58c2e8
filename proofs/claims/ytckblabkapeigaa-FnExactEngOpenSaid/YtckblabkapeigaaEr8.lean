
/- GraphOf: the reference's. -/
import Derived.Test.YtckblabkapeigaaEo8
import Derived.Test.YtckblabkapeigaaEq8
import Derived.Test.YtckblabkapeigaaJj
set_option linter.unusedVariables false
set_option linter.unusedSimpArgs false
namespace Go.Proofs.Ytckblabkapeigaa.Er8
open Go.RowKit Go.Proofs.YtckblabkapeigaaW.PrintWords Go.Proofs.Ytckblabkapeigaa.Ja Go.Proofs.Ytckblabkapeigaa.Jb Go.Proofs.Ytckblabkapeigaa.Jc Go.Proofs.Ytckblabkapeigaa.Jd Go.Proofs.Ytckblabkapeigaa.Jg Go.Proofs.Ytckblabkapeigaa.Jh Go.Proofs.Ytckblabkapeigaa.Jj Go.Proofs.Ytckblabkapeigaa.Ka Go.Proofs.Ytckblabkapeigaa.Kd2 Go.Proofs.Ytckblabkapeigaa.Kf Go.Proofs.Ytckblabkapeigaa.Na Go.Proofs.Ytckblabkapeigaa.Nb Go.Proofs.Ytckblabkapeigaa.Ne Go.Proofs.Ytckblabkapeigaa.Ea8 Go.Proofs.Ytckblabkapeigaa.Eg8 Go.Proofs.Ytckblabkapeigaa.El8 Go.Proofs.Ytckblabkapeigaa.Em8 Go.Proofs.Ytckblabkapeigaa.En8 Go.Proofs.Ytckblabkapeigaa.Eo8 Go.Proofs.Ytckblabkapeigaa.Ep8 Go.Proofs.Ytckblabkapeigaa.Eq8

set_option maxHeartbeats 4000000 in
set_option maxRecDepth 100000 in
theorem sGraphOf_any (x : Ex) (m : Int) (A : Option Addr) (c : Nat) (w : World) (hc : cntL x.f3 ≤ 1048576) (hL : IsEL 52 w x.f3 A c) :
    Calls Try.prog 16 #[X x.f0 x.f1 x.f2 A x.f3.length c, .int .i64 m] w fun e w' => ToGraph w w' (grO x m) e := by
  obtain ⟨hb0, b0, b1⟩ := boxes2 w #[.int .i64 x.f0, .int .i64 x.f1, .int .i64 x.f2, .slice A x.f3.length c] #[.int .i64 0, .slice none 0 0, .int .i64 0, .int .i64 0, .bool false] 52 48
  have hsz : ((w.alloc (.cells #[.int .i64 x.f0, .int .i64 x.f1, .int .i64 x.f2, .slice A x.f3.length c] 52)).alloc (.cells #[.int .i64 0, .slice none 0 0, .int .i64 0, .int .i64 0, .bool false] 48)).heap.size = w.heap.size + 1 + 1 := by simp
  have HL := Aside0.mk (hL.below hb0)
  clear hL
  by_cases hk : okE x = true
  rotate_left
  · have HO : Aside0 (grO x m = zGraph) := ⟨if_neg (fun h => hk h.1)⟩
    have HK : Aside0 (okE x = false) := ⟨by simpa using hk⟩
    clear hk
    go_enter Try.func16, Try.ntmps16
    go_upto_region 1 with fail
    generalize (w.alloc (.cells #[.int .i64 x.f0, .int .i64 x.f1, .int .i64 x.f2, .slice A x.f3.length c] 52)).alloc (.cells #[.int .i64 0, .slice none 0 0, .int .i64 0, .int .i64 0, .bool false] 48) = W at hb0 b0 b1 HL hsz ⊢
    have p0 := (blk_cell b0 0).trans rfl
    have p1 := (blk_cell b0 1).trans rfl
    have p2 := (blk_cell b0 2).trans rfl
    have p3 := (blk_cell b0 3).trans rfl
    have HB0 := Aside0.mk hb0
    have BB0 := Aside0.mk b0
    have BB1 := Aside0.mk b1
    have HSZ := Aside0.mk hsz
    clear hb0 b0 b1 hsz
    go_wp2_with (go_at_call 40; refine (sExOk_any x A c _ hc HL.out).mono ?_; rintro e w2 ⟨rfl, hb2⟩; rw [HK.out]; have HB2 := Aside0.mk (below_then HB0.out HB0.out.size hb2); have g1' := blk_below BB1.out hb2; have s0 := (blk_cell g1' 0).trans rfl; have t0 := blk_frozen g1' 0; have s1 := (blk_cell g1' 1).trans rfl; have t1 := blk_frozen g1' 1; have s2 := (blk_cell g1' 2).trans rfl; have t2 := blk_frozen g1' 2; have s3 := (blk_cell g1' 3).trans rfl; have t3 := blk_frozen g1' 3; have s4 := (blk_cell g1' 4).trans rfl; have t4 := blk_frozen g1' 4; clear hb2)
    refine bodyPost_ret (results_cell_row rfl _ _ (w.heap.size + 1) 48 #[.int .i64 0, .slice none 0 0, .int .i64 0, .int .i64 0, .bool false] (0, 0) _ rfl (blk_put (cs := #[.int .i64 0, .slice none 0 0, .int .i64 0, .int .i64 0, .bool false]) (blk_put (cs := #[.int .i64 0, .slice none 0 0, .int .i64 0, .int .i64 0, .bool false]) (blk_put (cs := #[.int .i64 0, .slice none 0 0, .int .i64 0, .int .i64 0, .bool false]) (blk_put (cs := #[.int .i64 0, .slice none 0 0, .int .i64 0, .int .i64 0, .bool false]) (blk_put (cs := #[.int .i64 0, .slice none 0 0, .int .i64 0, .int .i64 0, .bool false]) g1' 0 _ rfl) 1 _ rfl) 2 _ rfl) 3 _ rfl) 4 _ rfl) Try.underlying48 rfl (by kernel_rfl)) rfl ?_
    rw [HO.out]
    exact ⟨_, rfl, Kd.S_nil _ _ _ _ _, (((((HB2.out.setCell (p := ⟨w.heap.size + 1, 0, none⟩) (by simp) _).setCell (p := ⟨w.heap.size + 1, 1, none⟩) (by simp) _).setCell (p := ⟨w.heap.size + 1, 2, none⟩) (by simp) _).setCell (p := ⟨w.heap.size + 1, 3, none⟩) (by simp) _).setCell (p := ⟨w.heap.size + 1, 4, none⟩) (by simp) _)⟩

  by_cases hm : inb m 0 4 = true
  rotate_left
  · have HO : Aside0 (grO x m = zGraph) := ⟨if_neg (fun h => hm h.2)⟩
    have HK := Aside0.mk hk
    have HMO : Aside0 (inb m 0 4 = false) := ⟨by simpa using hm⟩
    clear hk hm
    go_enter Try.func16, Try.ntmps16
    go_upto_region 1 with fail
    generalize (w.alloc (.cells #[.int .i64 x.f0, .int .i64 x.f1, .int .i64 x.f2, .slice A x.f3.length c] 52)).alloc (.cells #[.int .i64 0, .slice none 0 0, .int .i64 0, .int .i64 0, .bool false] 48) = W at hb0 b0 b1 HL hsz ⊢
    have p0 := (blk_cell b0 0).trans rfl
    have p1 := (blk_cell b0 1).trans rfl
    have p2 := (blk_cell b0 2).trans rfl
    have p3 := (blk_cell b0 3).trans rfl
    have HB0 := Aside0.mk hb0
    have BB0 := Aside0.mk b0
    have BB1 := Aside0.mk b1
    have HSZ := Aside0.mk hsz
    clear hb0 b0 b1 hsz
    go_wp2_with (first
      | (go_at_call 41; refine (sMode_any m _).mono ?_; rintro e w3 ⟨rfl, he⟩; have he2 := he.symm; subst he2; rw [HMO.out])
      | (go_at_call 40; refine (sExOk_any x A c _ hc HL.out).mono ?_; rintro e w2 ⟨rfl, hb2⟩; rw [HK.out]; have HB2 := Aside0.mk (below_then HB0.out HB0.out.size hb2); have g1' := blk_below BB1.out hb2; have s0 := (blk_cell g1' 0).trans rfl; have t0 := blk_frozen g1' 0; have s1 := (blk_cell g1' 1).trans rfl; have t1 := blk_frozen g1' 1; have s2 := (blk_cell g1' 2).trans rfl; have t2 := blk_frozen g1' 2; have s3 := (blk_cell g1' 3).trans rfl; have t3 := blk_frozen g1' 3; have s4 := (blk_cell g1' 4).trans rfl; have t4 := blk_frozen g1' 4; clear hb2))
    refine bodyPost_ret (results_cell_row rfl _ _ (w.heap.size + 1) 48 #[.int .i64 0, .slice none 0 0, .int .i64 0, .int .i64 0, .bool false] (0, 0) _ rfl (blk_put (cs := #[.int .i64 0, .slice none 0 0, .int .i64 0, .int .i64 0, .bool false]) (blk_put (cs := #[.int .i64 0, .slice none 0 0, .int .i64 0, .int .i64 0, .bool false]) (blk_put (cs := #[.int .i64 0, .slice none 0 0, .int .i64 0, .int .i64 0, .bool false]) (blk_put (cs := #[.int .i64 0, .slice none 0 0, .int .i64 0, .int .i64 0, .bool false]) (blk_put (cs := #[.int .i64 0, .slice none 0 0, .int .i64 0, .int .i64 0, .bool false]) g1' 0 _ rfl) 1 _ rfl) 2 _ rfl) 3 _ rfl) 4 _ rfl) Try.underlying48 rfl (by kernel_rfl)) rfl ?_
    rw [HO.out]
    exact ⟨_, rfl, Kd.S_nil _ _ _ _ _, (((((HB2.out.setCell (p := ⟨w.heap.size + 1, 0, none⟩) (by simp) _).setCell (p := ⟨w.heap.size + 1, 1, none⟩) (by simp) _).setCell (p := ⟨w.heap.size + 1, 2, none⟩) (by simp) _).setCell (p := ⟨w.heap.size + 1, 3, none⟩) (by simp) _).setCell (p := ⟨w.heap.size + 1, 4, none⟩) (by simp) _)⟩

  have HO : Aside0 (grO x m = ⟨m, ndsT (adX x []), 0, 0, false⟩) := ⟨if_pos ⟨hk, hm⟩⟩
  have HK := Aside0.mk hk
  have HMO := Aside0.mk hm
  have HFX : Aside0 (formB x = true) := ⟨by
    unfold okE at hk
    simp only [Bool.and_eq_true] at hk
    exact hk.2⟩
  have hcn : cntL x.f3 ≤ 11 := by
    unfold okE at hk
    simp only [Bool.and_eq_true, decide_eq_true_eq] at hk
    omega
  clear hk hm
  · skip
    go_enter Try.func16, Try.ntmps16
    go_upto_region 1 with fail
    generalize (w.alloc (.cells #[.int .i64 x.f0, .int .i64 x.f1, .int .i64 x.f2, .slice A x.f3.length c] 52)).alloc (.cells #[.int .i64 0, .slice none 0 0, .int .i64 0, .int .i64 0, .bool false] 48) = W at hb0 b0 b1 HL hsz ⊢
    have p0 := (blk_cell b0 0).trans rfl
    have p1 := (blk_cell b0 1).trans rfl
    have p2 := (blk_cell b0 2).trans rfl
    have p3 := (blk_cell b0 3).trans rfl
    have HB0 := Aside0.mk hb0
    have BB0 := Aside0.mk b0
    have BB1 := Aside0.mk b1
    have HSZ := Aside0.mk hsz
    clear hb0 b0 b1 hsz
    go_upto_region 3 with (first
      | (go_at_call 41; refine (sMode_any m _).mono ?_; rintro e w3 ⟨rfl, he⟩; have he2 := he.symm; subst he2; rw [HMO.out])
      | (go_at_call 40; refine (sExOk_any x A c _ hc HL.out).mono ?_; rintro e w2 ⟨rfl, hb2⟩; rw [HK.out]; have HB2 := Aside0.mk hb2; clear hb2))
    clear p0 p1 p2 p3
    have BX2 := Aside0.mk (blk_below BB0.out HB2.out)
    have BR2 := Aside0.mk (blk_below BB1.out HB2.out)
    have p0 := (blk_cell BX2.out 0).trans rfl
    have p1 := (blk_cell BX2.out 1).trans rfl
    have p2 := (blk_cell BX2.out 2).trans rfl
    have p3 := (blk_cell BX2.out 3).trans rfl
    have HG2 : Aside0 (SMem w2 w2.heap.size (fun _ => False) (fun _ => False) (.slice none 0 0) (.slice none 0 0) []) := ⟨Kd.S_nil _ _ _ _ _, Kd.R_nil _ _ _ _ _, fun _ h _ => h⟩
    have HCALL := Aside0.mk (l7Add_any x (by omega) w2 w2.heap.size (fun _ => False) (fun _ => False) m (.slice none 0 0) (.slice none 0 0) [] A c w2 (Below.refl _ _) (Nat.le_refl _) (Nat.le_refl _) closed_nil List.nodup_nil (fun z hz => by simp at hz) HFX.out (by have := adX_le x []; simp at this; omega) HG2.out (HL.out.below HB2.out))
    go_upto_region 4 with (go_at_call 42; refine HCALL.out.mono ?_; rintro e w4 ⟨v4, vt4, P4, Q4, rfl, hm4, hP4, -, hf4, -, -⟩; have hr4 := hm4.row; obtain ⟨V4, c4, rfl⟩ := Kd.S_slice hr4; obtain ⟨T4, tc4, rfl⟩ := Kd.R_slice hm4.txt; have HR4 := Aside0.mk hr4; have HF4 : Aside0 (Below w2.heap.size w2 w4) := ⟨hf4.below (Nat.le_refl _) (fun k hk => by rcases hk with h | h <;> simp [Value.ownBlock] at h)⟩; clear hr4 hm4 hP4 hf4)
    clear p0 p1 p2 p3
    have hb5 := below_alloc (Below.refl w4.heap.size w4) (.cells #[.int .i64 m, .slice V4 (ndsT (adX x [])).length c4, .int .i64 0, .int .i64 0, .bool false] 48)
    have bG := blk_new w4 (.cells #[.int .i64 m, .slice V4 (ndsT (adX x [])).length c4, .int .i64 0, .int .i64 0, .bool false] 48)
    have hI2 : w.heap.size + 1 < w2.heap.size := by have h1 := HSZ.out; have h2 := HB2.out.size; omega
    have HI2 := Aside0.mk hI2
    have HB5 := Aside0.mk (below_then (below_then (below_then HB0.out HB0.out.size HB2.out) (Nat.le_trans HB0.out.size HB2.out.size) HF4.out) (Nat.le_trans (Nat.le_trans HB0.out.size HB2.out.size) HF4.out.size) hb5)
    have bR := blk_below (blk_below BR2.out HF4.out) hb5
    have HR5 := Aside0.mk (Kd.S_below HR4.out hb5)
    generalize w4.alloc (.cells #[.int .i64 m, .slice V4 (ndsT (adX x [])).length c4, .int .i64 0, .int .i64 0, .bool false] 48) = W5 at bG bR HB5 HR5 ⊢
    clear hb5 hI2 HR4
    have r0 := (blk_cell bG 0).trans rfl
    have r1 := (blk_cell bG 1).trans rfl
    have r2 := (blk_cell bG 2).trans rfl
    have r3 := (blk_cell bG 3).trans rfl
    have r4 := (blk_cell bG 4).trans rfl
    have s0 := (blk_cell bR 0).trans rfl; have t0 := blk_frozen bR 0; have s1 := (blk_cell bR 1).trans rfl; have t1 := blk_frozen bR 1; have s2 := (blk_cell bR 2).trans rfl; have t2 := blk_frozen bR 2; have s3 := (blk_cell bR 3).trans rfl; have t3 := blk_frozen bR 3; have s4 := (blk_cell bR 4).trans rfl; have t4 := blk_frozen bR 4
    go_wp2
    refine bodyPost_ret (results_cell_row rfl _ _ (w.heap.size + 1) 48 #[.int .i64 m, .slice V4 (ndsT (adX x [])).length c4, .int .i64 0, .int .i64 0, .bool false] (0, 0) _ rfl (blk_put (cs := #[.int .i64 m, .slice V4 (ndsT (adX x [])).length c4, .int .i64 0, .int .i64 0, .bool false]) (blk_put (cs := #[.int .i64 m, .slice V4 (ndsT (adX x [])).length c4, .int .i64 0, .int .i64 0, .bool false]) (blk_put (cs := #[.int .i64 m, .slice V4 (ndsT (adX x [])).length c4, .int .i64 0, .int .i64 0, .bool false]) (blk_put (cs := #[.int .i64 m, .slice none 0 0, .int .i64 0, .int .i64 0, .bool false]) (blk_put (cs := #[.int .i64 0, .slice none 0 0, .int .i64 0, .int .i64 0, .bool false]) bR 0 _ rfl) 1 _ rfl) 2 _ rfl) 3 _ rfl) 4 _ rfl) Try.underlying48 rfl (by kernel_rfl)) rfl ?_
    rw [HO.out]
    exact ⟨_, rfl, Kd.S_mono (Kd.S_lower (Kd.S_far (p := ⟨w.heap.size + 1, 4, none⟩) (Kd.S_far (p := ⟨w.heap.size + 1, 3, none⟩) (Kd.S_far (p := ⟨w.heap.size + 1, 2, none⟩) (Kd.S_far (p := ⟨w.heap.size + 1, 1, none⟩) (Kd.S_far (p := ⟨w.heap.size + 1, 0, none⟩) (Kd.S_mono (Kd.S_bound HR5.out) (ok' := fun j => w2.heap.size ≤ j) (fun j hj => hj.2.1)) (fun k hk => by show k ≠ w.heap.size + 1; have := HI2.out; omega) _) (fun k hk => by show k ≠ w.heap.size + 1; have := HI2.out; omega) _) (fun k hk => by show k ≠ w.heap.size + 1; have := HI2.out; omega) _) (fun k hk => by show k ≠ w.heap.size + 1; have := HI2.out; omega) _) (fun k hk => by show k ≠ w.heap.size + 1; have := HI2.out; omega) _) (by have := HI2.out; omega)) (fun _ _ => trivial), (((((HB5.out.setCell (p := ⟨w.heap.size + 1, 0, none⟩) (by simp) _).setCell (p := ⟨w.heap.size + 1, 1, none⟩) (by simp) _).setCell (p := ⟨w.heap.size + 1, 2, none⟩) (by simp) _).setCell (p := ⟨w.heap.size + 1, 3, none⟩) (by simp) _).setCell (p := ⟨w.heap.size + 1, 4, none⟩) (by simp) _)⟩
end Go.Proofs.Ytckblabkapeigaa.Er8
