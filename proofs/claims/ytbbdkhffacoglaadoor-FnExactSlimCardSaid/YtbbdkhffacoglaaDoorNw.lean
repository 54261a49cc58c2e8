
/- Slim: the program's, the reference's. -/
import Derived.Test.YtbbdkhffacoglaaDoorNv
import Derived.Test.YtbbdkhffacoglaaDoorNm
import Derived.Test.YtbbdkhffacoglaaDoorJj
set_option linter.unusedVariables false
set_option linter.unusedSimpArgs false
namespace Go.Proofs.YtbbdkhffacoglaaDoor.Nw
open Go.RowKit Go.Proofs.YtbbdkhffacoglaaDoorW.PrintWords Go.Proofs.YtbbdkhffacoglaaDoor.Ja Go.Proofs.YtbbdkhffacoglaaDoor.Jb Go.Proofs.YtbbdkhffacoglaaDoor.Jc Go.Proofs.YtbbdkhffacoglaaDoor.Jd Go.Proofs.YtbbdkhffacoglaaDoor.Jg Go.Proofs.YtbbdkhffacoglaaDoor.Jh Go.Proofs.YtbbdkhffacoglaaDoor.Ji Go.Proofs.YtbbdkhffacoglaaDoor.Jj Go.Proofs.YtbbdkhffacoglaaDoor.Jk Go.Proofs.YtbbdkhffacoglaaDoor.Ka Go.Proofs.YtbbdkhffacoglaaDoor.Kf Go.Proofs.YtbbdkhffacoglaaDoor.Na Go.Proofs.YtbbdkhffacoglaaDoor.Nb Go.Proofs.YtbbdkhffacoglaaDoor.Nc Go.Proofs.YtbbdkhffacoglaaDoor.Nd Go.Proofs.YtbbdkhffacoglaaDoor.Nf Go.Proofs.YtbbdkhffacoglaaDoor.Nh Go.Proofs.YtbbdkhffacoglaaDoor.Ni Go.Proofs.YtbbdkhffacoglaaDoor.Nj Go.Proofs.YtbbdkhffacoglaaDoor.Nl Go.Proofs.YtbbdkhffacoglaaDoor.Nm Go.Proofs.YtbbdkhffacoglaaDoor.Nn Go.Proofs.YtbbdkhffacoglaaDoor.No Go.Proofs.YtbbdkhffacoglaaDoor.Ns Go.Proofs.YtbbdkhffacoglaaDoor.Nt Go.Proofs.YtbbdkhffacoglaaDoor.Nu Go.Proofs.YtbbdkhffacoglaaDoor.Nv

def slO (x : Ex) : Ex := if okE x = true then slX x else zE
theorem slO_small (x : Ex) : cntL (slO x).f3 ≤ 100 := by
  unfold slO
  split
  · rename_i h
    obtain ⟨h1, h2⟩ := ok_parts h
    have h3 := sl_tot x h1
    unfold tot at h3
    omega
  · show cntL [] ≤ 100
    rw [cntL_nil]; omega
theorem fin_S {w w3 wr : World} {x : Ex} {v : Value} (hb : Below w.heap.size w wr) (hr : SE wr w3.heap.size (fun _ => True) v x.f3) (hB : w.heap.size + 1 < w3.heap.size) :
    ToOutE w (set4 wr (w.heap.size + 1) (.int .i64 x.f0) (.int .i64 x.f1) (.int .i64 x.f2) v) x.f0 x.f1 x.f2 x.f3 (.returned (.agg #[.int .i64 x.f0, .int .i64 x.f1, .int .i64 x.f2, v])) :=
  ⟨_, rfl, Kd.S_mono (Kd.S_lower (set4_S (G := w.heap.size + 1) (Kd.S_mono (Kd.S_bound hr) (ok' := fun j => w3.heap.size ≤ j) (fun j hj => hj.2.1)) (fun j hj => by omega) _ _ _ _) (by omega)) (fun _ _ => trivial), set4_below hb (by omega) _ _ _ _⟩
set_option maxHeartbeats 4000000 in
set_option maxRecDepth 100000 in
theorem slimI_any (x : Ex) (A : Option Addr) (c : Nat) (w : World) (hc : cntL x.f3 ≤ 1048576) (hWd : Words w) (hL : IsEL 29 w x.f3 A c) :
    Calls Tryd.prog 17 #[X x.f0 x.f1 x.f2 A x.f3.length c] w fun e w' => ToOutE w w' (slO x).f0 (slO x).f1 (slO x).f2 (slO x).f3 e := by
  obtain ⟨hb0, b0, b1⟩ := boxes2 w #[.int .i64 x.f0, .int .i64 x.f1, .int .i64 x.f2, .slice A x.f3.length c] #[.int .i64 0, .int .i64 0, .int .i64 0, .slice none 0 0] 29 29
  have hsz : ((w.alloc (.cells #[.int .i64 x.f0, .int .i64 x.f1, .int .i64 x.f2, .slice A x.f3.length c] 29)).alloc (.cells #[.int .i64 0, .int .i64 0, .int .i64 0, .slice none 0 0] 29)).heap.size = w.heap.size + 1 + 1 := by simp
  have HL := Aside0.mk (hL.below hb0)
  have HWD := Aside0.mk hWd
  clear hWd
  clear hL
  cases hk : okE x with
  | false =>
    have HO : Aside0 (slO x = zE) := ⟨by unfold slO; rw [hk]; rfl⟩
    have HK := Aside0.mk hk
    clear hk
    go_enter Tryd.func17, Tryd.ntmps17
    go_upto_region 1 with fail
    generalize (w.alloc (.cells #[.int .i64 x.f0, .int .i64 x.f1, .int .i64 x.f2, .slice A x.f3.length c] 29)).alloc (.cells #[.int .i64 0, .int .i64 0, .int .i64 0, .slice none 0 0] 29) = W at hb0 b0 b1 HL hsz ⊢
    have p0 := (blk_cell b0 0).trans rfl
    have p1 := (blk_cell b0 1).trans rfl
    have p2 := (blk_cell b0 2).trans rfl
    have p3 := (blk_cell b0 3).trans rfl
    have HB0 := Aside0.mk hb0
    have BB1 := Aside0.mk b1
    have HSZ := Aside0.mk hsz
    clear hb0 b0 b1 hsz
    go_wp2_with (go_at_call 35; refine (exOk_any x A c _ hc HL.out).mono ?_; rintro e w2 ⟨rfl, hb2⟩; rw [HK.out]; have HB2 := Aside0.mk hb2; have g1' := blk_below BB1.out hb2; have s0 := (blk_cell g1' 0).trans rfl; have s1 := (blk_cell g1' 1).trans rfl; have s2 := (blk_cell g1' 2).trans rfl; have s3 := (blk_cell g1' 3).trans rfl; have t0 := blk_frozen g1' 0; have t1 := blk_frozen g1' 1; have t2 := blk_frozen g1' 2; have t3 := blk_frozen g1' 3; clear hb2)
    refine bodyPost_ret (results_cell_row rfl _ _ (w.heap.size + 1) 29 #[.int .i64 0, .int .i64 0, .int .i64 0, .slice none 0 0] (0, 0) _ rfl (set4_blk _ _ _ _ g1') Tryd.underlying29 rfl (by kernel_rfl)) rfl ?_
    rw [HO.out]
    exact fin_S (x := zE) (w3 := W) (below_then HB0.out HB0.out.size HB2.out) (Kd.S_nil _ _ _ _ _) (by have := HSZ.out; omega)
  | true =>
  have HO : Aside0 (slO x = slX x) := ⟨by unfold slO; rw [hk, if_pos rfl]⟩
  have hok := ok_parts hk
  have hok2 := hok.2
  have HF := Aside0.mk hok.1
  have HK := Aside0.mk hk
  have hsm := slO_small x
  clear hk hok
  rw [HO.out] at hsm ⊢
  obtain ⟨y, hy⟩ : ∃ y, y = slX x := ⟨_, rfl⟩
  rw [← hy] at hsm ⊢
  have HY : Aside0 (slX x = y) := ⟨hy.symm⟩
  clear hy
  go_enter Tryd.func17, Tryd.ntmps17
  go_upto_region 1 with fail
  generalize (w.alloc (.cells #[.int .i64 x.f0, .int .i64 x.f1, .int .i64 x.f2, .slice A x.f3.length c] 29)).alloc (.cells #[.int .i64 0, .int .i64 0, .int .i64 0, .slice none 0 0] 29) = W at hb0 b0 b1 HL hsz ⊢
  have p0 := (blk_cell b0 0).trans rfl
  have p1 := (blk_cell b0 1).trans rfl
  have p2 := (blk_cell b0 2).trans rfl
  have p3 := (blk_cell b0 3).trans rfl
  have HB0 := Aside0.mk hb0
  have BB1 := Aside0.mk b1
  have HSZ := Aside0.mk hsz
  clear hb0 b0 b1 hsz
  go_wp2_with (first
    | (go_at_call 37; refine (clone_any y (by omega) A3 c3 _ HV3.out).mono ?_; rintro e w4 ⟨v4, rfl, hs4, hb4⟩; obtain ⟨A4, c4, rfl⟩ := Kd.S_slice hs4; have HV4 := Aside0.mk hs4; have HB4 := Aside0.mk (below_then HB3.out HB3.out.size hb4); have g1' := blk_below BB1.out HB4.out; have s0 := (blk_cell g1' 0).trans rfl; have s1 := (blk_cell g1' 1).trans rfl; have s2 := (blk_cell g1' 2).trans rfl; have s3 := (blk_cell g1' 3).trans rfl; have t0 := blk_frozen g1' 0; have t1 := blk_frozen g1' 1; have t2 := blk_frozen g1' 2; have t3 := blk_frozen g1' 3; clear hs4 hb4)
    | (go_at_call 39; refine (slim_any x HF.out (by omega) A c _ (HWD.out.below (below_then HB0.out HB0.out.size HB2.out)) (HL.out.below HB2.out)).mono ?_; rintro e w3 ⟨hh, hb3⟩; unfold ToOutR at hh; rw [HY.out] at hh; obtain ⟨v3, rfl, hr3⟩ := hh; obtain ⟨A3, c3, rfl⟩ := Kd.R_slice hr3; have HV3 := Aside0.mk (R_isEL hr3).2; have HB3 := Aside0.mk (below_then HB2.out HB2.out.size hb3); clear hr3 hb3)
    | (go_at_call 35; refine (exOk_any x A c _ hc HL.out).mono ?_; rintro e w2 ⟨rfl, hb2⟩; rw [HK.out]; have q0 := pw_cell_below hb2 p0; have q1 := pw_cell_below hb2 p1; have q2 := pw_cell_below hb2 p2; have q3 := pw_cell_below hb2 p3; have HB2 := Aside0.mk hb2; clear hb2))
  refine bodyPost_ret (results_cell_row rfl _ _ (w.heap.size + 1) 29 #[.int .i64 y.f0, .int .i64 y.f1, .int .i64 y.f2, .slice A4 y.f3.length c4] (0, 0) _ rfl (set4_blk _ _ _ _ g1') Tryd.underlying29 rfl (by kernel_rfl)) rfl ?_
  exact fin_S (x := y) (w3 := w3) (below_then HB0.out HB0.out.size HB4.out) HV4.out (by have h1 := HSZ.out; have h2 := HB3.out.size; omega)
set_option maxHeartbeats 4000000 in
set_option maxRecDepth 100000 in
theorem slimS_any (x : Ex) (A : Option Addr) (c : Nat) (w : World) (hc : cntL x.f3 ≤ 1048576) (hL : IsEL 29 w x.f3 A c) :
    Calls Tryd.prog 16 #[X x.f0 x.f1 x.f2 A x.f3.length c] w fun e w' => ToOutE w w' (slO x).f0 (slO x).f1 (slO x).f2 (slO x).f3 e := by
  obtain ⟨hb0, b0, b1⟩ := boxes2 w #[.int .i64 x.f0, .int .i64 x.f1, .int .i64 x.f2, .slice A x.f3.length c] #[.int .i64 0, .int .i64 0, .int .i64 0, .slice none 0 0] 29 29
  have hsz : ((w.alloc (.cells #[.int .i64 x.f0, .int .i64 x.f1, .int .i64 x.f2, .slice A x.f3.length c] 29)).alloc (.cells #[.int .i64 0, .int .i64 0, .int .i64 0, .slice none 0 0] 29)).heap.size = w.heap.size + 1 + 1 := by simp
  have HL := Aside0.mk (hL.below hb0)
  clear hL
  cases hk : okE x with
  | false =>
    have HO : Aside0 (slO x = zE) := ⟨by unfold slO; rw [hk]; rfl⟩
    have HK := Aside0.mk hk
    clear hk
    go_enter Tryd.func16, Tryd.ntmps16
    go_upto_region 1 with fail
    generalize (w.alloc (.cells #[.int .i64 x.f0, .int .i64 x.f1, .int .i64 x.f2, .slice A x.f3.length c] 29)).alloc (.cells #[.int .i64 0, .int .i64 0, .int .i64 0, .slice none 0 0] 29) = W at hb0 b0 b1 HL hsz ⊢
    have p0 := (blk_cell b0 0).trans rfl
    have p1 := (blk_cell b0 1).trans rfl
    have p2 := (blk_cell b0 2).trans rfl
    have p3 := (blk_cell b0 3).trans rfl
    have HB0 := Aside0.mk hb0
    have BB1 := Aside0.mk b1
    have HSZ := Aside0.mk hsz
    clear hb0 b0 b1 hsz
    go_wp2_with (go_at_call 31; refine (sExOk_any x A c _ hc HL.out).mono ?_; rintro e w2 ⟨rfl, hb2⟩; rw [HK.out]; have HB2 := Aside0.mk hb2; have g1' := blk_below BB1.out hb2; have s0 := (blk_cell g1' 0).trans rfl; have s1 := (blk_cell g1' 1).trans rfl; have s2 := (blk_cell g1' 2).trans rfl; have s3 := (blk_cell g1' 3).trans rfl; have t0 := blk_frozen g1' 0; have t1 := blk_frozen g1' 1; have t2 := blk_frozen g1' 2; have t3 := blk_frozen g1' 3; clear hb2)
    refine bodyPost_ret (results_cell_row rfl _ _ (w.heap.size + 1) 29 #[.int .i64 0, .int .i64 0, .int .i64 0, .slice none 0 0] (0, 0) _ rfl (set4_blk _ _ _ _ g1') Tryd.underlying29 rfl (by kernel_rfl)) rfl ?_
    rw [HO.out]
    exact fin_S (x := zE) (w3 := W) (below_then HB0.out HB0.out.size HB2.out) (Kd.S_nil _ _ _ _ _) (by have := HSZ.out; omega)
  | true =>
  have HO : Aside0 (slO x = slR x) := ⟨by unfold slO; rw [hk, if_pos rfl]; exact sl_same x (ok_parts hk).1⟩
  have hok := ok_parts hk
  have hok2 := hok.2
  have HF := Aside0.mk hok.1
  have HK := Aside0.mk hk
  have hsm := slO_small x
  clear hk hok
  rw [HO.out] at hsm ⊢
  obtain ⟨y, hy⟩ : ∃ y, y = slR x := ⟨_, rfl⟩
  rw [← hy] at hsm ⊢
  have HY : Aside0 (slR x = y) := ⟨hy.symm⟩
  clear hy
  go_enter Tryd.func16, Tryd.ntmps16
  go_upto_region 1 with fail
  generalize (w.alloc (.cells #[.int .i64 x.f0, .int .i64 x.f1, .int .i64 x.f2, .slice A x.f3.length c] 29)).alloc (.cells #[.int .i64 0, .int .i64 0, .int .i64 0, .slice none 0 0] 29) = W at hb0 b0 b1 HL hsz ⊢
  have p0 := (blk_cell b0 0).trans rfl
  have p1 := (blk_cell b0 1).trans rfl
  have p2 := (blk_cell b0 2).trans rfl
  have p3 := (blk_cell b0 3).trans rfl
  have HB0 := Aside0.mk hb0
  have BB1 := Aside0.mk b1
  have HSZ := Aside0.mk hsz
  clear hb0 b0 b1 hsz
  go_wp2_with (first
    | (go_at_call 33; refine (l2Copy_any y (by omega) A3 c3 _ HV3.out).mono ?_; rintro e w4 ⟨v4, rfl, hs4, hb4⟩; obtain ⟨A4, c4, rfl⟩ := Kd.S_slice hs4; have HV4 := Aside0.mk hs4; have HB4 := Aside0.mk (below_then HB3.out HB3.out.size hb4); have g1' := blk_below BB1.out HB4.out; have s0 := (blk_cell g1' 0).trans rfl; have s1 := (blk_cell g1' 1).trans rfl; have s2 := (blk_cell g1' 2).trans rfl; have s3 := (blk_cell g1' 3).trans rfl; have t0 := blk_frozen g1' 0; have t1 := blk_frozen g1' 1; have t2 := blk_frozen g1' 2; have t3 := blk_frozen g1' 3; clear hs4 hb4)
    | (go_at_call 38; refine (l11Slim_any x HF.out (by omega) A c _ (HL.out.below HB2.out)).mono ?_; rintro e w3 ⟨hh, hb3⟩; unfold ToOutR at hh; rw [HY.out] at hh; obtain ⟨v3, rfl, hr3⟩ := hh; obtain ⟨A3, c3, rfl⟩ := Kd.R_slice hr3; have HV3 := Aside0.mk (R_isEL hr3).2; have HB3 := Aside0.mk (below_then HB2.out HB2.out.size hb3); clear hr3 hb3)
    | (go_at_call 31; refine (sExOk_any x A c _ hc HL.out).mono ?_; rintro e w2 ⟨rfl, hb2⟩; rw [HK.out]; have q0 := pw_cell_below hb2 p0; have q1 := pw_cell_below hb2 p1; have q2 := pw_cell_below hb2 p2; have q3 := pw_cell_below hb2 p3; have HB2 := Aside0.mk hb2; clear hb2))
  refine bodyPost_ret (results_cell_row rfl _ _ (w.heap.size + 1) 29 #[.int .i64 y.f0, .int .i64 y.f1, .int .i64 y.f2, .slice A4 y.f3.length c4] (0, 0) _ rfl (set4_blk _ _ _ _ g1') Tryd.underlying29 rfl (by kernel_rfl)) rfl ?_
  exact fin_S (x := y) (w3 := w3) (below_then HB0.out HB0.out.size HB4.out) HV4.out (by have h1 := HSZ.out; have h2 := HB3.out.size; omega)
end Go.Proofs.YtbbdkhffacoglaaDoor.Nw
