
/- A node that is valid: the reference's. Printed by genOy9.py. -/
import Derived.Test.YtckblabkapeigaaGreatNOx9
import Derived.Test.YtckblabkapeigaaGreatNJj
set_option linter.unusedVariables false
set_option linter.unusedSimpArgs false
namespace Go.Proofs.YtckblabkapeigaaGreat.Oy9
open Go.RowKit Go.Proofs.YtckblabkapeigaaGreatW.PrintWords Go.Proofs.YtckblabkapeigaaGreat.Ja Go.Proofs.YtckblabkapeigaaGreat.Jb Go.Proofs.YtckblabkapeigaaGreat.Jg Go.Proofs.YtckblabkapeigaaGreat.Jh Go.Proofs.YtckblabkapeigaaGreat.Jj Go.Proofs.YtckblabkapeigaaGreat.Ka Go.Proofs.YtckblabkapeigaaGreat.Kb Go.Proofs.YtckblabkapeigaaGreat.Ov9 Go.Proofs.YtckblabkapeigaaGreat.Ow9 Go.Proofs.YtckblabkapeigaaGreat.Ox9

def l7N (n : TNode) (i : Int) : Bool := headN n i && (plusN n && restN n)
theorem nodeB_l7 (n : TNode) (i now : Int) : nodeB n i now = (l7N n i && !dueN n now) := by
 unfold nodeB l7N
 cases headN n i <;> cases plusN n <;> cases restN n <;> simp
theorem l7_h {n : TNode} {i : Int} (h : headN n i = false) : l7N n i = false := by unfold l7N; rw [h]; rfl
theorem l7_p {n : TNode} {i : Int} (h : plusN n = false) : l7N n i = false := by unfold l7N; rw [h]; simp
theorem l7_r {n : TNode} {i : Int} (h : restN n = false) : l7N n i = false := by unfold l7N; rw [h]; simp
theorem head_len {n : TNode} {i : Int} (h : ¬ (n.f3.length : Int) = kidsS n.f0) : headN n i = false := by
 unfold headN
 by_cases hk : 1 ≤ n.f0 ∧ n.f0 ≤ 7
 ·unfold kidsS at h
  rw [if_pos hk] at h
  rw [decide_eq_false h]; simp
 ·rw [inb_f hk]; rfl
theorem head_any {n : TNode} {i : Int} (h : n.f3.any (fun k => !inb k 0 (i - 1)) = true) : headN n i = false := by unfold headN; rw [h]; simp
theorem head_yes {n : TNode} {i : Int} (h : (n.f3.length : Int) = kidsS n.f0) (ha : n.f3.any (fun k => !inb k 0 (i - 1)) = false) : headN n i = true := by
 obtain ⟨h1, h2⟩ := kidsS_ok h
 unfold headN
 rw [inb_t h1, decide_eq_true h2, ha]; rfl
set_option maxHeartbeats 8000000 in
set_option maxRecDepth 100000 in
theorem l7Node_any (n : TNode) (A3 : Option Addr) (c3 : Nat) (A4 : Option Addr) (c4 : Nat) (A5 : Option Addr) (c5 : Nat) (A6 : Option Addr) (c6 : Nat) (A7 : Option Addr) (c7 : Nat) (A8 : Option Addr) (c8 : Nat) (i : Int) (hi : 0 ≤ i ∧ i ≤ 9223372036854775807) (w : World) (h3 : IsS (Kd.int .i64) w n.f3 A3 c3) (h4 : IsS kOcc w n.f4.f0 A4 c4) (h5 : IsS kOcc w n.f4.f1 A5 c5) (h6 : IsS kOcc w n.f5.f0 A6 c6) (h7 : IsS kOcc w n.f5.f1 A7 c7) (h8 : IsS kOcc w n.f6 A8 c8) :
  Calls Tryz.prog 72 #[.agg #[.int .i64 n.f0, .int .i64 n.f1, .int .i64 n.f2, .slice A3 n.f3.length c3, .slice A4 n.f4.f0.length c4, .slice A5 n.f4.f1.length c5, .slice A6 n.f5.f0.length c6, .slice A7 n.f5.f1.length c7, .slice A8 n.f6.length c8, .int .i64 n.f7], .int .i64 i] w fun e w' => e = .returned (.bool (l7N n i)) ∧ Below w.heap.size w w' := by
 have hb0 := below_alloc (Below.refl w.heap.size w) (.cells #[.int .i64 n.f0, .int .i64 n.f1, .int .i64 n.f2, .slice A3 n.f3.length c3, .slice A4 n.f4.f0.length c4, .slice A5 n.f4.f1.length c5, .slice A6 n.f5.f0.length c6, .slice A7 n.f5.f1.length c7, .slice A8 n.f6.length c8, .int .i64 n.f7] 126)
 have b0 := blk_new w (.cells #[.int .i64 n.f0, .int .i64 n.f1, .int .i64 n.f2, .slice A3 n.f3.length c3, .slice A4 n.f4.f0.length c4, .slice A5 n.f4.f1.length c5, .slice A6 n.f5.f0.length c6, .slice A7 n.f5.f1.length c7, .slice A8 n.f6.length c8, .int .i64 n.f7] 126)
 have hl3 := h3.len
 have hl8 := h8.len
 have H3 := Aside0.mk (h3.below hb0)
 have H4 := Aside0.mk (h4.below hb0)
 have H5 := Aside0.mk (h5.below hb0)
 have H6 := Aside0.mk (h6.below hb0)
 have H7 := Aside0.mk (h7.below hb0)
 have H8 := Aside0.mk (h8.below hb0)
 obtain ⟨W, hW⟩ : ∃ W, W = w.alloc (.cells #[.int .i64 n.f0, .int .i64 n.f1, .int .i64 n.f2, .slice A3 n.f3.length c3, .slice A4 n.f4.f0.length c4, .slice A5 n.f4.f1.length c5, .slice A6 n.f5.f0.length c6, .slice A7 n.f5.f1.length c7, .slice A8 n.f6.length c8, .int .i64 n.f7] 126) := ⟨_, rfl⟩
 rw [← hW] at hb0 b0 H3 H4 H5 H6 H7 H8
 have HW := Aside0.mk hW
 have HX := Aside0.mk hb0
 have B0 := Aside0.mk b0
 clear hW hb0 b0 h3 h4 h5 h6 h7 h8
 have e0 : ∀ s : Ext W, s.1.cell? ⟨w.heap.size, 0, none⟩ = some (.int .i64 n.f0) := cellE ((blk_cell B0.out 0).trans rfl)
 have e1 : ∀ s : Ext W, s.1.cell? ⟨w.heap.size, 1, none⟩ = some (.int .i64 n.f1) := cellE ((blk_cell B0.out 1).trans rfl)
 have e2 : ∀ s : Ext W, s.1.cell? ⟨w.heap.size, 2, none⟩ = some (.int .i64 n.f2) := cellE ((blk_cell B0.out 2).trans rfl)
 have e3 : ∀ s : Ext W, s.1.cell? ⟨w.heap.size, 3, none⟩ = some (.slice A3 n.f3.length c3) := cellE ((blk_cell B0.out 3).trans rfl)
 have e4 : ∀ s : Ext W, s.1.cell? ⟨w.heap.size, 4, none⟩ = some (.slice A4 n.f4.f0.length c4) := cellE ((blk_cell B0.out 4).trans rfl)
 have e5 : ∀ s : Ext W, s.1.cell? ⟨w.heap.size, 5, none⟩ = some (.slice A5 n.f4.f1.length c5) := cellE ((blk_cell B0.out 5).trans rfl)
 have e6 : ∀ s : Ext W, s.1.cell? ⟨w.heap.size, 6, none⟩ = some (.slice A6 n.f5.f0.length c6) := cellE ((blk_cell B0.out 6).trans rfl)
 have e7 : ∀ s : Ext W, s.1.cell? ⟨w.heap.size, 7, none⟩ = some (.slice A7 n.f5.f1.length c7) := cellE ((blk_cell B0.out 7).trans rfl)
 have e8 : ∀ s : Ext W, s.1.cell? ⟨w.heap.size, 8, none⟩ = some (.slice A8 n.f6.length c8) := cellE ((blk_cell B0.out 8).trans rfl)
 have e9 : ∀ s : Ext W, s.1.cell? ⟨w.heap.size, 9, none⟩ = some (.int .i64 n.f7) := cellE ((blk_cell B0.out 9).trans rfl)
 obtain ⟨kn, hkn⟩ : ∃ kn, kn = kidsS n.f0 := ⟨_, rfl⟩
 have hk : ∀ s : Ext W, Calls Tryz.prog 97 #[.int .i64 n.f0] s.1 fun e w'' => e = .returned (.int .i64 kn) ∧ Below s.1.heap.size s.1 w'' := fun s => (l2Kids_any n.f0 s.1).mono (fun e w' ⟨q1, q2⟩ => ⟨by rw [q1, hkn], by rw [q2]; exact Below.refl _ _⟩)
 obtain ⟨vp, hvp⟩ : ∃ b, b = (okL n.f4.f0 && okL n.f4.f1) := ⟨_, rfl⟩
 obtain ⟨vs, hvs⟩ : ∃ b, b = (okL n.f5.f0 && okL n.f5.f1) := ⟨_, rfl⟩
 obtain ⟨vo, hvo⟩ : ∃ b, b = Go.Proofs.YtckblabkapeigaaGreat.Pu.okOs n.f6 := ⟨_, rfl⟩
 have hp : ∀ s : Ext W, Calls Tryz.prog 98 #[.agg #[.slice A4 n.f4.f0.length c4, .slice A5 n.f4.f1.length c5]] s.1 fun e w'' => e = .returned (.bool vp) ∧ Below s.1.heap.size s.1 w'' := fun s => by rw [hvp]; exact Go.Proofs.YtckblabkapeigaaGreat.Oc.sPairOk_any A4 A5 c4 c5 _ _ _ (isL (H4.out.below s.2)) (isL (H5.out.below s.2))
 have hs : ∀ s : Ext W, Calls Tryz.prog 99 #[.agg #[.slice A6 n.f5.f0.length c6, .slice A7 n.f5.f1.length c7]] s.1 fun e w'' => e = .returned (.bool vs) ∧ Below s.1.heap.size s.1 w'' := fun s => by rw [hvs]; exact Go.Proofs.YtckblabkapeigaaGreat.Oc.sSpanOk_any A6 A7 c6 c7 _ _ _ (isL (H6.out.below s.2)) (isL (H7.out.below s.2))
 have ho : ∀ s : Ext W, Calls Tryz.prog 100 #[.slice A8 n.f6.length c8] s.1 fun e w'' => e = .returned (.bool vo) ∧ Below s.1.heap.size s.1 w'' := fun s => by rw [hvo]; exact Go.Proofs.YtckblabkapeigaaGreat.Oc.sOccsOk_any A8 c8 n.f6 s.1 (H8.out.below s.2).2
 have HVP := Aside0.mk hvp
 have HVS := Aside0.mk hvs
 have HVO := Aside0.mk hvo
 clear hvp hvs hvo
 by_cases hm : (n.f3.length : Int) = kn
 rotate_left
 ·have n0 : (kn != (n.f3.length : Int)) = true := ne_t (fun h => hm h.symm)
  have HE : Aside0 (l7N n i = false) := ⟨l7_h (head_len (fun h => hm (h.trans hkn.symm)))⟩
  clear hm hkn
  go_enter Tryz.func72, Tryz.ntmps72
  go_upto_region 1 with fail
  rw [← HW.out]
  refine region_ext (W := W) (Below.refl _ _) (by kernel_rfl) (by kernel_rfl) ?_
  repeat (first | go_big_quiet_step ((first | (go_at_call 97; exact calls_ext (hk _)) | (go_at_call 98; exact calls_ext (hp _)) | (go_at_call 99; exact calls_ext (hs _)) | (go_at_call 100; exact calls_ext (ho _)))) | quiet_step ((first | (go_at_call 97; exact calls_ext (hk _)) | (go_at_call 98; exact calls_ext (hp _)) | (go_at_call 99; exact calls_ext (hs _)) | (go_at_call 100; exact calls_ext (ho _)))))
  refine wpQuiet_nil ?_
  rintro _ ⟨s, rfl⟩
  have HB2 := Aside0.mk s.2
  clear hk hp hs ho e0 e1 e2 e3 e4 e5 e6 e7 e8 e9
  generalize s.1 = W2 at HB2 ⊢
  go_wp2
  go_ret
  exact ⟨by rw [HE.out]; rfl, below_then HX.out HX.out.size HB2.out⟩
 have n0 : (kn != (n.f3.length : Int)) = false := ne_f hm.symm
 have HKN := Aside0.mk (hm.trans hkn)
 clear hm hkn
 by_cases hc0 : 0 ≤ n.f1
 rotate_left
 ·have d0 : decide (n.f1 < 0) = true := decide_eq_true (by omega)
  have HE : Aside0 (l7N n i = false) := ⟨l7_r (by unfold restN inb; rw [decide_eq_false hc0]; rfl)⟩
  clear hc0
  go_enter Tryz.func72, Tryz.ntmps72
  go_upto_region 1 with fail
  rw [← HW.out]
  refine region_ext (W := W) (Below.refl _ _) (by kernel_rfl) (by kernel_rfl) ?_
  repeat (first | go_big_quiet_step ((first | (go_at_call 97; exact calls_ext (hk _)) | (go_at_call 98; exact calls_ext (hp _)) | (go_at_call 99; exact calls_ext (hs _)) | (go_at_call 100; exact calls_ext (ho _)))) | quiet_step ((first | (go_at_call 97; exact calls_ext (hk _)) | (go_at_call 98; exact calls_ext (hp _)) | (go_at_call 99; exact calls_ext (hs _)) | (go_at_call 100; exact calls_ext (ho _)))))
  refine wpQuiet_nil ?_
  rintro _ ⟨s, rfl⟩
  have HB2 := Aside0.mk s.2
  clear hk hp hs ho e0 e1 e2 e3 e4 e5 e6 e7 e8 e9
  generalize s.1 = W2 at HB2 ⊢
  go_wp2
  go_ret
  exact ⟨by rw [HE.out]; rfl, below_then HX.out HX.out.size HB2.out⟩
 have d0 : decide (n.f1 < 0) = false := decide_eq_false (by omega)
 by_cases hc1 : n.f1 ≤ 4
 rotate_left
 ·have d1 : decide (n.f1 ≥ 5) = true := decide_eq_true (by omega)
  have HE : Aside0 (l7N n i = false) := ⟨l7_r (by unfold restN inb; rw [decide_eq_false hc1]; simp)⟩
  clear hc0 hc1
  go_enter Tryz.func72, Tryz.ntmps72
  go_upto_region 1 with fail
  rw [← HW.out]
  refine region_ext (W := W) (Below.refl _ _) (by kernel_rfl) (by kernel_rfl) ?_
  repeat (first | go_big_quiet_step ((first | (go_at_call 97; exact calls_ext (hk _)) | (go_at_call 98; exact calls_ext (hp _)) | (go_at_call 99; exact calls_ext (hs _)) | (go_at_call 100; exact calls_ext (ho _)))) | quiet_step ((first | (go_at_call 97; exact calls_ext (hk _)) | (go_at_call 98; exact calls_ext (hp _)) | (go_at_call 99; exact calls_ext (hs _)) | (go_at_call 100; exact calls_ext (ho _)))))
  refine wpQuiet_nil ?_
  rintro _ ⟨s, rfl⟩
  have HB2 := Aside0.mk s.2
  clear hk hp hs ho e0 e1 e2 e3 e4 e5 e6 e7 e8 e9
  generalize s.1 = W2 at HB2 ⊢
  go_wp2
  go_ret
  exact ⟨by rw [HE.out]; rfl, below_then HX.out HX.out.size HB2.out⟩
 have d1 : decide (n.f1 ≥ 5) = false := decide_eq_false (by omega)
 by_cases hc2 : 0 ≤ n.f7
 rotate_left
 ·have d2 : decide (n.f7 < 0) = true := decide_eq_true (by omega)
  have HE : Aside0 (l7N n i = false) := ⟨l7_r (by unfold restN; rw [inb_f (n := n.f7) (by omega)]; simp)⟩
  clear hc0 hc1 hc2
  go_enter Tryz.func72, Tryz.ntmps72
  go_upto_region 1 with fail
  rw [← HW.out]
  refine region_ext (W := W) (Below.refl _ _) (by kernel_rfl) (by kernel_rfl) ?_
  repeat (first | go_big_quiet_step ((first | (go_at_call 97; exact calls_ext (hk _)) | (go_at_call 98; exact calls_ext (hp _)) | (go_at_call 99; exact calls_ext (hs _)) | (go_at_call 100; exact calls_ext (ho _)))) | quiet_step ((first | (go_at_call 97; exact calls_ext (hk _)) | (go_at_call 98; exact calls_ext (hp _)) | (go_at_call 99; exact calls_ext (hs _)) | (go_at_call 100; exact calls_ext (ho _)))))
  refine wpQuiet_nil ?_
  rintro _ ⟨s, rfl⟩
  have HB2 := Aside0.mk s.2
  clear hk hp hs ho e0 e1 e2 e3 e4 e5 e6 e7 e8 e9
  generalize s.1 = W2 at HB2 ⊢
  go_wp2
  go_ret
  exact ⟨by rw [HE.out]; rfl, below_then HX.out HX.out.size HB2.out⟩
 have d2 : decide (n.f7 < 0) = false := decide_eq_false (by omega)
 by_cases hc3 : n.f7 ≤ 40
 rotate_left
 ·have d3 : decide (n.f7 > 40) = true := decide_eq_true (by omega)
  have HE : Aside0 (l7N n i = false) := ⟨l7_r (by unfold restN; rw [inb_f (n := n.f7) (by omega)]; simp)⟩
  clear hc0 hc1 hc2 hc3
  go_enter Tryz.func72, Tryz.ntmps72
  go_upto_region 1 with fail
  rw [← HW.out]
  refine region_ext (W := W) (Below.refl _ _) (by kernel_rfl) (by kernel_rfl) ?_
  repeat (first | go_big_quiet_step ((first | (go_at_call 97; exact calls_ext (hk _)) | (go_at_call 98; exact calls_ext (hp _)) | (go_at_call 99; exact calls_ext (hs _)) | (go_at_call 100; exact calls_ext (ho _)))) | quiet_step ((first | (go_at_call 97; exact calls_ext (hk _)) | (go_at_call 98; exact calls_ext (hp _)) | (go_at_call 99; exact calls_ext (hs _)) | (go_at_call 100; exact calls_ext (ho _)))))
  refine wpQuiet_nil ?_
  rintro _ ⟨s, rfl⟩
  have HB2 := Aside0.mk s.2
  clear hk hp hs ho e0 e1 e2 e3 e4 e5 e6 e7 e8 e9
  generalize s.1 = W2 at HB2 ⊢
  go_wp2
  go_ret
  exact ⟨by rw [HE.out]; rfl, below_then HX.out HX.out.size HB2.out⟩
 have d3 : decide (n.f7 > 40) = false := decide_eq_false (by omega)
 have HQ0 : Aside0 (inb n.f1 0 4 = true) := ⟨inb_t ⟨hc0, hc1⟩⟩
 have HQ1 : Aside0 (inb n.f7 0 40 = true) := ⟨inb_t ⟨hc2, hc3⟩⟩
 clear hc0 hc1 hc2 hc3
 cases hvvp : vp with
 | false =>
  rw [hvvp] at hp
  have HE : Aside0 (l7N n i = false) := ⟨l7_r (by unfold restN; rw [HQ0.out, HQ1.out, ← HVP.out, hvvp]; simp)⟩
  clear hvvp
  go_enter Tryz.func72, Tryz.ntmps72
  go_upto_region 1 with fail
  rw [← HW.out]
  refine region_ext (W := W) (Below.refl _ _) (by kernel_rfl) (by kernel_rfl) ?_
  repeat (first | go_big_quiet_step ((first | (go_at_call 97; exact calls_ext (hk _)) | (go_at_call 98; exact calls_ext (hp _)) | (go_at_call 99; exact calls_ext (hs _)) | (go_at_call 100; exact calls_ext (ho _)))) | quiet_step ((first | (go_at_call 97; exact calls_ext (hk _)) | (go_at_call 98; exact calls_ext (hp _)) | (go_at_call 99; exact calls_ext (hs _)) | (go_at_call 100; exact calls_ext (ho _)))))
  refine wpQuiet_nil ?_
  rintro _ ⟨s, rfl⟩
  have HB2 := Aside0.mk s.2
  clear hk hp hs ho e0 e1 e2 e3 e4 e5 e6 e7 e8 e9
  generalize s.1 = W2 at HB2 ⊢
  go_wp2
  go_ret
  exact ⟨by rw [HE.out]; rfl, below_then HX.out HX.out.size HB2.out⟩
 | true =>
 rw [hvvp] at hp
 have Evp := Aside0.mk hvvp
 clear hvvp
 cases hvvs : vs with
 | false =>
  rw [hvvs] at hs
  have HE : Aside0 (l7N n i = false) := ⟨l7_r (by unfold restN; rw [HQ0.out, HQ1.out, ← HVS.out, hvvs]; simp)⟩
  clear hvvs
  go_enter Tryz.func72, Tryz.ntmps72
  go_upto_region 1 with fail
  rw [← HW.out]
  refine region_ext (W := W) (Below.refl _ _) (by kernel_rfl) (by kernel_rfl) ?_
  repeat (first | go_big_quiet_step ((first | (go_at_call 97; exact calls_ext (hk _)) | (go_at_call 98; exact calls_ext (hp _)) | (go_at_call 99; exact calls_ext (hs _)) | (go_at_call 100; exact calls_ext (ho _)))) | quiet_step ((first | (go_at_call 97; exact calls_ext (hk _)) | (go_at_call 98; exact calls_ext (hp _)) | (go_at_call 99; exact calls_ext (hs _)) | (go_at_call 100; exact calls_ext (ho _)))))
  refine wpQuiet_nil ?_
  rintro _ ⟨s, rfl⟩
  have HB2 := Aside0.mk s.2
  clear hk hp hs ho e0 e1 e2 e3 e4 e5 e6 e7 e8 e9
  generalize s.1 = W2 at HB2 ⊢
  go_wp2
  go_ret
  exact ⟨by rw [HE.out]; rfl, below_then HX.out HX.out.size HB2.out⟩
 | true =>
 rw [hvvs] at hs
 have Evs := Aside0.mk hvvs
 clear hvvs
 cases hvvo : vo with
 | false =>
  rw [hvvo] at ho
  have HE : Aside0 (l7N n i = false) := ⟨l7_r (by unfold restN; rw [HQ0.out, HQ1.out, ← HVO.out, hvvo]; simp)⟩
  clear hvvo
  go_enter Tryz.func72, Tryz.ntmps72
  go_upto_region 1 with fail
  rw [← HW.out]
  refine region_ext (W := W) (Below.refl _ _) (by kernel_rfl) (by kernel_rfl) ?_
  repeat (first | go_big_quiet_step ((first | (go_at_call 97; exact calls_ext (hk _)) | (go_at_call 98; exact calls_ext (hp _)) | (go_at_call 99; exact calls_ext (hs _)) | (go_at_call 100; exact calls_ext (ho _)))) | quiet_step ((first | (go_at_call 97; exact calls_ext (hk _)) | (go_at_call 98; exact calls_ext (hp _)) | (go_at_call 99; exact calls_ext (hs _)) | (go_at_call 100; exact calls_ext (ho _)))))
  refine wpQuiet_nil ?_
  rintro _ ⟨s, rfl⟩
  have HB2 := Aside0.mk s.2
  clear hk hp hs ho e0 e1 e2 e3 e4 e5 e6 e7 e8 e9
  generalize s.1 = W2 at HB2 ⊢
  go_wp2
  go_ret
  exact ⟨by rw [HE.out]; rfl, below_then HX.out HX.out.size HB2.out⟩
 | true =>
 rw [hvvo] at ho
 have Evo := Aside0.mk hvvo
 clear hvvo
 have HR : Aside0 (restN n = true) := ⟨by unfold restN; rw [HQ0.out, HQ1.out, ← HVP.out, Evp.out, ← HVS.out, Evs.out, ← HVO.out, Evo.out]; rfl⟩
 by_cases h7 : n.f0 = 7
 ·have k7 : (n.f0 == 7) = true := eq_t h7
  have k7n : (n.f0 != 7) = false := ne_f h7
  by_cases ha : 1 ≤ n.f2
  rotate_left
  ·have a0 : decide (n.f2 < 1) = true := decide_eq_true (by omega)
   have HE : Aside0 (l7N n i = false) := ⟨l7_p (by unfold plusN; rw [if_pos h7, inb_f (by omega)])⟩
   clear h7 ha
   go_enter Tryz.func72, Tryz.ntmps72
   go_upto_region 1 with fail
   rw [← HW.out]
   refine region_ext (W := W) (Below.refl _ _) (by kernel_rfl) (by kernel_rfl) ?_
   repeat (first | go_big_quiet_step ((first | (go_at_call 97; exact calls_ext (hk _)) | (go_at_call 98; exact calls_ext (hp _)) | (go_at_call 99; exact calls_ext (hs _)) | (go_at_call 100; exact calls_ext (ho _)))) | quiet_step ((first | (go_at_call 97; exact calls_ext (hk _)) | (go_at_call 98; exact calls_ext (hp _)) | (go_at_call 99; exact calls_ext (hs _)) | (go_at_call 100; exact calls_ext (ho _)))))
   refine wpQuiet_nil ?_
   rintro _ ⟨s, rfl⟩
   have HB2 := Aside0.mk s.2
   clear hk hp hs ho e0 e1 e2 e3 e4 e5 e6 e7 e8 e9
   generalize s.1 = W2 at HB2 ⊢
   have k0 := (blk_cell (blk_below B0.out HB2.out) 0).trans rfl
   have k2 := (blk_cell (blk_below B0.out HB2.out) 2).trans rfl
   have k8 := (blk_cell (blk_below B0.out HB2.out) 8).trans rfl
   go_wp2
   go_ret
   exact ⟨by rw [HE.out]; rfl, below_then HX.out HX.out.size HB2.out⟩
  have a0 : decide (n.f2 < 1) = false := decide_eq_false (by omega)
  by_cases hb : n.f2 ≤ 20
  rotate_left
  ·have a1 : decide (n.f2 > 20) = true := decide_eq_true (by omega)
   have a1' : decide (20 < n.f2) = true := decide_eq_true (by omega)
   have HE : Aside0 (l7N n i = false) := ⟨l7_p (by unfold plusN; rw [if_pos h7, inb_f (by omega)])⟩
   clear h7 ha hb
   go_enter Tryz.func72, Tryz.ntmps72
   go_upto_region 1 with fail
   rw [← HW.out]
   refine region_ext (W := W) (Below.refl _ _) (by kernel_rfl) (by kernel_rfl) ?_
   repeat (first | go_big_quiet_step ((first | (go_at_call 97; exact calls_ext (hk _)) | (go_at_call 98; exact calls_ext (hp _)) | (go_at_call 99; exact calls_ext (hs _)) | (go_at_call 100; exact calls_ext (ho _)))) | quiet_step ((first | (go_at_call 97; exact calls_ext (hk _)) | (go_at_call 98; exact calls_ext (hp _)) | (go_at_call 99; exact calls_ext (hs _)) | (go_at_call 100; exact calls_ext (ho _)))))
   refine wpQuiet_nil ?_
   rintro _ ⟨s, rfl⟩
   have HB2 := Aside0.mk s.2
   clear hk hp hs ho e0 e1 e2 e3 e4 e5 e6 e7 e8 e9
   generalize s.1 = W2 at HB2 ⊢
   have k0 := (blk_cell (blk_below B0.out HB2.out) 0).trans rfl
   have k2 := (blk_cell (blk_below B0.out HB2.out) 2).trans rfl
   have k8 := (blk_cell (blk_below B0.out HB2.out) 8).trans rfl
   go_wp2
   go_ret
   exact ⟨by rw [HE.out]; rfl, below_then HX.out HX.out.size HB2.out⟩
  have a1 : decide (n.f2 > 20) = false := decide_eq_false (by omega)
  have a1' : decide (20 < n.f2) = false := decide_eq_false (by omega)
  have HPL : Aside0 (plusN n = true) := ⟨by unfold plusN; rw [if_pos h7, inb_t ⟨ha, hb⟩]⟩
  clear h7 ha hb
  go_enter Tryz.func72, Tryz.ntmps72
  go_upto_region 1 with fail
  rw [← HW.out]
  refine region_ext (W := W) (Below.refl _ _) (by kernel_rfl) (by kernel_rfl) ?_
  repeat (first | go_big_quiet_step ((first | (go_at_call 97; exact calls_ext (hk _)) | (go_at_call 98; exact calls_ext (hp _)) | (go_at_call 99; exact calls_ext (hs _)) | (go_at_call 100; exact calls_ext (ho _)))) | quiet_step ((first | (go_at_call 97; exact calls_ext (hk _)) | (go_at_call 98; exact calls_ext (hp _)) | (go_at_call 99; exact calls_ext (hs _)) | (go_at_call 100; exact calls_ext (ho _)))))
  refine wpQuiet_nil ?_
  rintro _ ⟨s, rfl⟩
  have HB2 := Aside0.mk s.2
  clear hk hp hs ho e0 e1 e2 e3 e4 e5 e6 e7 e8 e9
  generalize s.1 = W2 at HB2 ⊢
  have k0 := (blk_cell (blk_below B0.out HB2.out) 0).trans rfl
  have k2 := (blk_cell (blk_below B0.out HB2.out) 2).trans rfl
  have k8 := (blk_cell (blk_below B0.out HB2.out) 8).trans rfl
  go_upto_region 6 with fail
  clear k0 k2 k8
  go_loopw [5] (fun vi wr => ∃ j : Nat, j ≤ n.f3.length ∧ vi = .int .i64 j ∧ Aside0 ((n.f3.take j).any (fun k => !inb k 0 (i - 1)) = false) ∧ Aside0 (Below W.heap.size W wr)) (fun vi _ => n.f3.length - (intOf vi).toNat)
  case atStart => exact ⟨0, Nat.zero_le _, rfl, ⟨by simp⟩, HB2⟩
  case round =>
   clear HB2
   obtain ⟨j, hj, rfl, HA, HB⟩ := hrel
   have k3 := (blk_cell (blk_below B0.out HB.out) 3).trans rfl
   by_cases hlt : j < n.f3.length
   ·have g1 : decide (j < n.f3.length) = true := decide_eq_true hlt
    have i1 : (j : Int) < n.f3.length := by omega
    obtain ⟨ad, rfl, y0⟩ := atI (H3.out.below HB.out) j hlt
    have HS : Aside0 ((n.f3.take (j + 1)).any (fun k => !inb k 0 (i - 1)) = ((n.f3.take j).any (fun k => !inb k 0 (i - 1)) || (fun k => !inb k 0 (i - 1)) (n.f3.getD j 0))) := ⟨by rw [take_snoc n.f3 j 0 hlt, List.any_append]; simp⟩
    have HF : Aside0 ((fun k => !inb k 0 (i - 1)) (n.f3.getD j 0) = true → n.f3.any (fun k => !inb k 0 (i - 1)) = true) := ⟨fun h => List.any_eq_true.2 ⟨_, by rw [List.getD_eq_getElem?_getD, List.getElem?_eq_getElem hlt]; exact List.getElem_mem hlt, h⟩⟩
    generalize n.f3.getD j 0 = q at y0 HS HF
    by_cases hq0 : 0 ≤ q
    ·have d0q : decide (q < 0) = false := decide_eq_false (by omega)
     by_cases hq1 : q < i
     ·have d1q : decide (q ≥ i) = false := decide_eq_false (by omega)
      have d1q' : decide (i ≤ q) = false := decide_eq_false (by omega)
      have HE2 : Aside0 ((n.f3.take (j + 1)).any (fun k => !inb k 0 (i - 1)) = false) := ⟨by rw [HS.out, HA.out]; show (false || !inb q 0 (i - 1)) = false; rw [inb_t (by omega)]; rfl⟩
      clear hq0 hq1
      go_wp2
      go_roundw
      case rel => exact ⟨j + 1, by omega, by go_num, HE2, HB⟩
      case measure => simp [intOf]; omega
     ·have d1q : decide (q ≥ i) = true := decide_eq_true (by omega)
      have d1q' : decide (i ≤ q) = true := decide_eq_true (by omega)
      have HE : Aside0 (l7N n i = false) := ⟨l7_h (head_any (HF.out (by show (!inb q 0 (i - 1)) = true; rw [inb_f (by omega)]; rfl)))⟩
      clear hq0 hq1
      go_wp2
      go_ret
      exact ⟨by rw [HE.out]; rfl, below_then HX.out HX.out.size HB.out⟩
    ·have d0q : decide (q < 0) = true := decide_eq_true (by omega)
     have HE : Aside0 (l7N n i = false) := ⟨l7_h (head_any (HF.out (by show (!inb q 0 (i - 1)) = true; rw [inb_f (by omega)]; rfl)))⟩
     clear hq0
     go_wp2
     go_ret
     exact ⟨by rw [HE.out]; rfl, below_then HX.out HX.out.size HB.out⟩
   ·have hje : j = n.f3.length := by omega
    subst hje
    have g1 : decide (n.f3.length < n.f3.length) = false := decide_eq_false (by omega)
    have HE : Aside0 (l7N n i = true) := ⟨by
     have h := HA.out
     rw [List.take_length] at h
     unfold l7N
     rw [head_yes HKN.out h, HPL.out, HR.out]; rfl⟩
    go_wp2
    go_ret
    exact ⟨by rw [HE.out]; rfl, below_then HX.out HX.out.size HB.out⟩
 ·have k7 : (n.f0 == 7) = false := eq_f h7
  have k7n : (n.f0 != 7) = true := ne_t h7
  by_cases h2 : n.f2 = 0
  rotate_left
  ·have z2 : (n.f2 != 0) = true := ne_t h2
   have HE : Aside0 (l7N n i = false) := ⟨l7_p (by unfold plusN; rw [if_neg h7, decide_eq_false h2]; rfl)⟩
   clear h7 h2
   go_enter Tryz.func72, Tryz.ntmps72
   go_upto_region 1 with fail
   rw [← HW.out]
   refine region_ext (W := W) (Below.refl _ _) (by kernel_rfl) (by kernel_rfl) ?_
   repeat (first | go_big_quiet_step ((first | (go_at_call 97; exact calls_ext (hk _)) | (go_at_call 98; exact calls_ext (hp _)) | (go_at_call 99; exact calls_ext (hs _)) | (go_at_call 100; exact calls_ext (ho _)))) | quiet_step ((first | (go_at_call 97; exact calls_ext (hk _)) | (go_at_call 98; exact calls_ext (hp _)) | (go_at_call 99; exact calls_ext (hs _)) | (go_at_call 100; exact calls_ext (ho _)))))
   refine wpQuiet_nil ?_
   rintro _ ⟨s, rfl⟩
   have HB2 := Aside0.mk s.2
   clear hk hp hs ho e0 e1 e2 e3 e4 e5 e6 e7 e8 e9
   generalize s.1 = W2 at HB2 ⊢
   have k0 := (blk_cell (blk_below B0.out HB2.out) 0).trans rfl
   have k2 := (blk_cell (blk_below B0.out HB2.out) 2).trans rfl
   have k8 := (blk_cell (blk_below B0.out HB2.out) 8).trans rfl
   go_wp2
   go_ret
   exact ⟨by rw [HE.out]; rfl, below_then HX.out HX.out.size HB2.out⟩
  have z2 : (n.f2 != 0) = false := ne_f h2
  by_cases h6 : n.f6 = []
  rotate_left
  ·have hl6 : 0 < n.f6.length := List.length_pos_iff.2 h6
   have z6 : decide ((n.f6.length : Int) > 0) = true := decide_eq_true (by omega)
   have z6' : decide (0 < n.f6.length) = true := decide_eq_true hl6
   have HE : Aside0 (l7N n i = false) := ⟨l7_p (by unfold plusN; rw [if_neg h7, decide_eq_false h6]; simp)⟩
   clear h7 h2 h6 hl6
   go_enter Tryz.func72, Tryz.ntmps72
   go_upto_region 1 with fail
   rw [← HW.out]
   refine region_ext (W := W) (Below.refl _ _) (by kernel_rfl) (by kernel_rfl) ?_
   repeat (first | go_big_quiet_step ((first | (go_at_call 97; exact calls_ext (hk _)) | (go_at_call 98; exact calls_ext (hp _)) | (go_at_call 99; exact calls_ext (hs _)) | (go_at_call 100; exact calls_ext (ho _)))) | quiet_step ((first | (go_at_call 97; exact calls_ext (hk _)) | (go_at_call 98; exact calls_ext (hp _)) | (go_at_call 99; exact calls_ext (hs _)) | (go_at_call 100; exact calls_ext (ho _)))))
   refine wpQuiet_nil ?_
   rintro _ ⟨s, rfl⟩
   have HB2 := Aside0.mk s.2
   clear hk hp hs ho e0 e1 e2 e3 e4 e5 e6 e7 e8 e9
   generalize s.1 = W2 at HB2 ⊢
   have k0 := (blk_cell (blk_below B0.out HB2.out) 0).trans rfl
   have k2 := (blk_cell (blk_below B0.out HB2.out) 2).trans rfl
   have k8 := (blk_cell (blk_below B0.out HB2.out) 8).trans rfl
   go_wp2
   go_ret
   exact ⟨by rw [HE.out]; rfl, below_then HX.out HX.out.size HB2.out⟩
  have hl6 : n.f6.length = 0 := by rw [h6]; rfl
  have z6 : decide ((n.f6.length : Int) > 0) = false := decide_eq_false (by omega)
  have z6' : decide (0 < n.f6.length) = false := decide_eq_false (by omega)
  have HPL : Aside0 (plusN n = true) := ⟨by unfold plusN; rw [if_neg h7, decide_eq_true h2, decide_eq_true h6]; rfl⟩
  clear h7 h2 h6 hl6
  go_enter Tryz.func72, Tryz.ntmps72
  go_upto_region 1 with fail
  rw [← HW.out]
  refine region_ext (W := W) (Below.refl _ _) (by kernel_rfl) (by kernel_rfl) ?_
  repeat (first | go_big_quiet_step ((first | (go_at_call 97; exact calls_ext (hk _)) | (go_at_call 98; exact calls_ext (hp _)) | (go_at_call 99; exact calls_ext (hs _)) | (go_at_call 100; exact calls_ext (ho _)))) | quiet_step ((first | (go_at_call 97; exact calls_ext (hk _)) | (go_at_call 98; exact calls_ext (hp _)) | (go_at_call 99; exact calls_ext (hs _)) | (go_at_call 100; exact calls_ext (ho _)))))
  refine wpQuiet_nil ?_
  rintro _ ⟨s, rfl⟩
  have HB2 := Aside0.mk s.2
  clear hk hp hs ho e0 e1 e2 e3 e4 e5 e6 e7 e8 e9
  generalize s.1 = W2 at HB2 ⊢
  have k0 := (blk_cell (blk_below B0.out HB2.out) 0).trans rfl
  have k2 := (blk_cell (blk_below B0.out HB2.out) 2).trans rfl
  have k8 := (blk_cell (blk_below B0.out HB2.out) 8).trans rfl
  go_upto_region 6 with fail
  clear k0 k2 k8
  go_loopw [5] (fun vi wr => ∃ j : Nat, j ≤ n.f3.length ∧ vi = .int .i64 j ∧ Aside0 ((n.f3.take j).any (fun k => !inb k 0 (i - 1)) = false) ∧ Aside0 (Below W.heap.size W wr)) (fun vi _ => n.f3.length - (intOf vi).toNat)
  case atStart => exact ⟨0, Nat.zero_le _, rfl, ⟨by simp⟩, HB2⟩
  case round =>
   clear HB2
   obtain ⟨j, hj, rfl, HA, HB⟩ := hrel
   have k3 := (blk_cell (blk_below B0.out HB.out) 3).trans rfl
   by_cases hlt : j < n.f3.length
   ·have g1 : decide (j < n.f3.length) = true := decide_eq_true hlt
    have i1 : (j : Int) < n.f3.length := by omega
    obtain ⟨ad, rfl, y0⟩ := atI (H3.out.below HB.out) j hlt
    have HS : Aside0 ((n.f3.take (j + 1)).any (fun k => !inb k 0 (i - 1)) = ((n.f3.take j).any (fun k => !inb k 0 (i - 1)) || (fun k => !inb k 0 (i - 1)) (n.f3.getD j 0))) := ⟨by rw [take_snoc n.f3 j 0 hlt, List.any_append]; simp⟩
    have HF : Aside0 ((fun k => !inb k 0 (i - 1)) (n.f3.getD j 0) = true → n.f3.any (fun k => !inb k 0 (i - 1)) = true) := ⟨fun h => List.any_eq_true.2 ⟨_, by rw [List.getD_eq_getElem?_getD, List.getElem?_eq_getElem hlt]; exact List.getElem_mem hlt, h⟩⟩
    generalize n.f3.getD j 0 = q at y0 HS HF
    by_cases hq0 : 0 ≤ q
    ·have d0q : decide (q < 0) = false := decide_eq_false (by omega)
     by_cases hq1 : q < i
     ·have d1q : decide (q ≥ i) = false := decide_eq_false (by omega)
      have d1q' : decide (i ≤ q) = false := decide_eq_false (by omega)
      have HE2 : Aside0 ((n.f3.take (j + 1)).any (fun k => !inb k 0 (i - 1)) = false) := ⟨by rw [HS.out, HA.out]; show (false || !inb q 0 (i - 1)) = false; rw [inb_t (by omega)]; rfl⟩
      clear hq0 hq1
      go_wp2
      go_roundw
      case rel => exact ⟨j + 1, by omega, by go_num, HE2, HB⟩
      case measure => simp [intOf]; omega
     ·have d1q : decide (q ≥ i) = true := decide_eq_true (by omega)
      have d1q' : decide (i ≤ q) = true := decide_eq_true (by omega)
      have HE : Aside0 (l7N n i = false) := ⟨l7_h (head_any (HF.out (by show (!inb q 0 (i - 1)) = true; rw [inb_f (by omega)]; rfl)))⟩
      clear hq0 hq1
      go_wp2
      go_ret
      exact ⟨by rw [HE.out]; rfl, below_then HX.out HX.out.size HB.out⟩
    ·have d0q : decide (q < 0) = true := decide_eq_true (by omega)
     have HE : Aside0 (l7N n i = false) := ⟨l7_h (head_any (HF.out (by show (!inb q 0 (i - 1)) = true; rw [inb_f (by omega)]; rfl)))⟩
     clear hq0
     go_wp2
     go_ret
     exact ⟨by rw [HE.out]; rfl, below_then HX.out HX.out.size HB.out⟩
   ·have hje : j = n.f3.length := by omega
    subst hje
    have g1 : decide (n.f3.length < n.f3.length) = false := decide_eq_false (by omega)
    have HE : Aside0 (l7N n i = true) := ⟨by
     have h := HA.out
     rw [List.take_length] at h
     unfold l7N
     rw [head_yes HKN.out h, HPL.out, HR.out]; rfl⟩
    go_wp2
    go_ret
    exact ⟨by rw [HE.out]; rfl, below_then HX.out HX.out.size HB.out⟩
end Go.Proofs.YtckblabkapeigaaGreat.Oy9
