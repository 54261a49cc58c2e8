
/- Is an engine valid: the program's. Printed by genPb9.py. -/
import Derived.Test.YtckblabkapeigaaGreatNPa9
import Derived.Test.YtckblabkapeigaaGreatNEe8
set_option linter.unusedVariables false
set_option linter.unusedSimpArgs false
namespace Go.Proofs.YtckblabkapeigaaGreat.Pb9
open Go.RowKit Go.Proofs.YtckblabkapeigaaGreatW.PrintWords Go.Proofs.YtckblabkapeigaaGreat.Ja Go.Proofs.YtckblabkapeigaaGreat.Jb Go.Proofs.YtckblabkapeigaaGreat.Jg Go.Proofs.YtckblabkapeigaaGreat.Jh Go.Proofs.YtckblabkapeigaaGreat.Ka Go.Proofs.YtckblabkapeigaaGreat.Kb Go.Proofs.YtckblabkapeigaaGreat.Ea8 Go.Proofs.YtckblabkapeigaaGreat.Ee8 Go.Proofs.YtckblabkapeigaaGreat.Ov9 Go.Proofs.YtckblabkapeigaaGreat.Ow9 Go.Proofs.YtckblabkapeigaaGreat.Ox9 Go.Proofs.YtckblabkapeigaaGreat.Oy9 Go.Proofs.YtckblabkapeigaaGreat.Oz9 Go.Proofs.YtckblabkapeigaaGreat.Pa9

set_option maxHeartbeats 8000000 in
set_option maxRecDepth 100000 in
theorem engGraphOk_any (g : TGraph) (A1 : Option Addr) (c1 : Nat) (E0 : Option Addr) (m0 d0 : Nat) (E1 : Option Addr) (m1 d1 : Nat) (E2 : Option Addr) (v : List TEv) (d2 : Nat) (E3 : Option Addr) (m3 d3 : Nat) (E4 : Option Addr) (m4 d4 : Nat) (w : World) (hL : IsS kNode w g.f1 A1 c1) (hV : IsS kEv w v E2 d2) :
  Calls Tryz.prog 51 #[.agg (eA E0 E1 E2 E3 E4 m0 m1 v.length m3 m4 d0 d1 d2 d3 d4), .agg #[.int .i64 g.f0, .slice A1 g.f1.length c1, .int .i64 g.f2, .int .i64 g.f3, .bool g.f4]] w fun e w' => e = .returned (.bool (engGraphB v.length (endB v) g)) ∧ Below w.heap.size w w' := by
 have hvl := hV.len
 have hgl := hL.len
 generalize hb4 : g.f4 = b4
 have HB4 := Aside0.mk hb4
 clear hb4
 obtain ⟨hb0, b0, b1⟩ := boxes2 w (eA E0 E1 E2 E3 E4 m0 m1 v.length m3 m4 d0 d1 d2 d3 d4) #[.int .i64 g.f0, .slice A1 g.f1.length c1, .int .i64 g.f2, .int .i64 g.f3, .bool b4] 36 89
 have HL := Aside0.mk (hL.below hb0)
 have HV := Aside0.mk (hV.below hb0)
 obtain ⟨W, hW⟩ : ∃ W, W = (w.alloc (.cells (eA E0 E1 E2 E3 E4 m0 m1 v.length m3 m4 d0 d1 d2 d3 d4) 36)).alloc (.cells #[.int .i64 g.f0, .slice A1 g.f1.length c1, .int .i64 g.f2, .int .i64 g.f3, .bool b4] 89) := ⟨_, rfl⟩
 rw [← hW] at hb0 b0 b1 HL HV
 have HW := Aside0.mk hW
 have HX := Aside0.mk hb0
 have BE := Aside0.mk b0
 have BG := Aside0.mk b1
 have e0 : ∀ s : Ext W, s.1.cell? ⟨w.heap.size + 1, 0, none⟩ = some (.int .i64 g.f0) := cellE ((blk_cell b1 0).trans rfl)
 have e1 : ∀ s : Ext W, s.1.cell? ⟨w.heap.size + 1, 1, none⟩ = some (.slice A1 g.f1.length c1) := cellE ((blk_cell b1 1).trans rfl)
 have e2 : ∀ s : Ext W, s.1.cell? ⟨w.heap.size + 1, 2, none⟩ = some (.int .i64 g.f2) := cellE ((blk_cell b1 2).trans rfl)
 have e3 : ∀ s : Ext W, s.1.cell? ⟨w.heap.size + 1, 3, none⟩ = some (.int .i64 g.f3) := cellE ((blk_cell b1 3).trans rfl)
 have e4 : ∀ s : Ext W, s.1.cell? ⟨w.heap.size + 1, 4, none⟩ = some (.bool b4) := cellE ((blk_cell b1 4).trans rfl)
 have q2 : ∀ s : Ext W, s.1.cell? ⟨w.heap.size, 2, none⟩ = some (.slice E2 v.length d2) := cellE ((blk_cell b0 2).trans rfl)
 obtain ⟨vg, hvg⟩ : ∃ b, b = graphB g := ⟨_, rfl⟩
 obtain ⟨en, hen⟩ : ∃ b, b = endB v := ⟨_, rfl⟩
 have hg : ∀ s : Ext W, Calls Tryz.prog 82 #[.agg #[.int .i64 g.f0, .slice A1 g.f1.length c1, .int .i64 g.f2, .int .i64 g.f3, .bool b4]] s.1 fun e w'' => e = .returned (.bool vg) ∧ Below s.1.heap.size s.1 w'' := fun s => by rw [hvg]; have hh := graphOk_any g A1 c1 s.1 (HL.out.below s.2); rw [HB4.out] at hh; exact hh
 have hnw : ∀ s : Ext W, Calls Tryz.prog 83 #[.slice E2 v.length d2] s.1 fun e w'' => e = .returned (.int .i64 en) ∧ Below s.1.heap.size s.1 w'' := fun s => (now_any E2 d2 v s.1 (HV.out.below s.2)).mono (fun e w' ⟨h1, h2⟩ => ⟨by rw [h1, hen], by rw [h2]; exact Below.refl _ _⟩)
 have HVG := Aside0.mk hvg
 have HEN := Aside0.mk hen
 rw [← hen]
 clear hW hb0 b0 b1 hL hV hvg hen
 cases hv0 : vg with
 | false =>
  have HE : Aside0 (engGraphB v.length en g = false) := ⟨by unfold engGraphB; rw [← HVG.out, hv0]; rfl⟩
  rw [hv0] at hg
  clear hv0
  go_enter Tryz.func51, Tryz.ntmps51
  go_upto_region 1 with fail
  rw [← HW.out]
  refine region_ext (W := W) (Below.refl _ _) (by kernel_rfl) (by kernel_rfl) ?_
  repeat (first | go_big_quiet_step ((first | (go_at_call 82; exact calls_ext (hg _)) | (go_at_call 83; exact calls_ext (hnw _)))) | quiet_step ((first | (go_at_call 82; exact calls_ext (hg _)) | (go_at_call 83; exact calls_ext (hnw _)))))
  refine wpQuiet_nil ?_
  rintro _ ⟨s, rfl⟩
  have HB2 := Aside0.mk s.2
  clear e0 e1 e2 e3 e4 q2 hg hnw
  generalize s.1 = W2 at HB2 ⊢
  go_wp2
  go_ret
  exact ⟨by rw [HE.out]; rfl, below_then HX.out HX.out.size HB2.out⟩
 | true =>
 have E0_ := Aside0.mk hv0
 rw [hv0] at hg
 clear hv0
 cases b4 with
 | true =>
  have HE : Aside0 (engGraphB v.length en g = false) := ⟨by unfold engGraphB; rw [HB4.out]; simp⟩
  go_enter Tryz.func51, Tryz.ntmps51
  go_upto_region 1 with fail
  rw [← HW.out]
  refine region_ext (W := W) (Below.refl _ _) (by kernel_rfl) (by kernel_rfl) ?_
  repeat (first | go_big_quiet_step ((first | (go_at_call 82; exact calls_ext (hg _)) | (go_at_call 83; exact calls_ext (hnw _)))) | quiet_step ((first | (go_at_call 82; exact calls_ext (hg _)) | (go_at_call 83; exact calls_ext (hnw _)))))
  refine wpQuiet_nil ?_
  rintro _ ⟨s, rfl⟩
  have HB2 := Aside0.mk s.2
  clear e0 e1 e2 e3 e4 q2 hg hnw
  generalize s.1 = W2 at HB2 ⊢
  go_wp2
  go_ret
  exact ⟨by rw [HE.out]; rfl, below_then HX.out HX.out.size HB2.out⟩
 | false =>
 have E4_ := HB4
 by_cases h2 : g.f2 = v.length
 rotate_left
 ·have n2 : (g.f2 != (v.length : Int)) = true := ne_t h2
  have HE : Aside0 (engGraphB v.length en g = false) := ⟨by unfold engGraphB; rw [decide_eq_false h2]; simp⟩
  clear h2
  go_enter Tryz.func51, Tryz.ntmps51
  go_upto_region 1 with fail
  rw [← HW.out]
  refine region_ext (W := W) (Below.refl _ _) (by kernel_rfl) (by kernel_rfl) ?_
  repeat (first | go_big_quiet_step ((first | (go_at_call 82; exact calls_ext (hg _)) | (go_at_call 83; exact calls_ext (hnw _)))) | quiet_step ((first | (go_at_call 82; exact calls_ext (hg _)) | (go_at_call 83; exact calls_ext (hnw _)))))
  refine wpQuiet_nil ?_
  rintro _ ⟨s, rfl⟩
  have HB2 := Aside0.mk s.2
  clear e0 e1 e2 e3 e4 q2 hg hnw
  generalize s.1 = W2 at HB2 ⊢
  go_wp2
  go_ret
  exact ⟨by rw [HE.out]; rfl, below_then HX.out HX.out.size HB2.out⟩
 have n2 : (g.f2 != (v.length : Int)) = false := ne_f h2
 by_cases h3 : g.f3 = en
 rotate_left
 ·have n3 : (g.f3 != en) = true := ne_t h3
  have HE : Aside0 (engGraphB v.length en g = false) := ⟨by unfold engGraphB; rw [decide_eq_false h3]; simp⟩
  clear h2 h3
  go_enter Tryz.func51, Tryz.ntmps51
  go_upto_region 1 with fail
  rw [← HW.out]
  refine region_ext (W := W) (Below.refl _ _) (by kernel_rfl) (by kernel_rfl) ?_
  repeat (first | go_big_quiet_step ((first | (go_at_call 82; exact calls_ext (hg _)) | (go_at_call 83; exact calls_ext (hnw _)))) | quiet_step ((first | (go_at_call 82; exact calls_ext (hg _)) | (go_at_call 83; exact calls_ext (hnw _)))))
  refine wpQuiet_nil ?_
  rintro _ ⟨s, rfl⟩
  have HB2 := Aside0.mk s.2
  clear e0 e1 e2 e3 e4 q2 hg hnw
  generalize s.1 = W2 at HB2 ⊢
  go_wp2
  go_ret
  exact ⟨by rw [HE.out]; rfl, below_then HX.out HX.out.size HB2.out⟩
 have n3 : (g.f3 != en) = false := ne_f h3
 have HE : Aside0 (engGraphB v.length en g = !g.f1.any (fun x => !nodeKnown v.length x)) := ⟨by
  unfold engGraphB
  rw [← HVG.out, E0_.out, E4_.out, decide_eq_true h2, decide_eq_true h3]
  simp [List.all_eq_not_any_not]⟩
 have HGP : Aside0 (graphB g = true) := ⟨by rw [← HVG.out, E0_.out]⟩
 clear h2 h3
 go_enter Tryz.func51, Tryz.ntmps51
 go_upto_region 1 with fail
 rw [← HW.out]
 refine region_ext (W := W) (Below.refl _ _) (by kernel_rfl) (by kernel_rfl) ?_
 repeat (first | go_big_quiet_step ((first | (go_at_call 82; exact calls_ext (hg _)) | (go_at_call 83; exact calls_ext (hnw _)))) | quiet_step ((first | (go_at_call 82; exact calls_ext (hg _)) | (go_at_call 83; exact calls_ext (hnw _)))))
 refine wpQuiet_nil ?_
 rintro _ ⟨s, rfl⟩
 have HB2 := Aside0.mk s.2
 clear e0 e1 e2 e3 e4 q2 hg hnw
 generalize s.1 = W2 at HB2 ⊢
 have k1 := (blk_cell (blk_below BG.out HB2.out) 1).trans rfl
 go_wp2_with (go_at_call 84; refine (gnk_has w.heap.size E0 m0 d0 E1 m1 d1 E2 v.length d2 E3 m3 d3 E4 m4 d4 hvl A1 c1 g.f1 _ (HL.out.below HB2.out) (blk_below BE.out HB2.out) (graph_pos HGP.out)).mono ?_; rintro e w3 ⟨rfl, hb⟩; have HB3 := Aside0.mk (below_then HB2.out HB2.out.size hb); clear hb)
 go_ret
 exact ⟨by rw [HE.out]; rfl, below_then HX.out HX.out.size HB3.out⟩
set_option maxHeartbeats 2000000 in
set_option maxRecDepth 100000 in
theorem eng1_any (g : TGraph) (A1 : Option Addr) (c1 : Nat) (EB : Nat) (E0 : Option Addr) (m0 d0 : Nat) (E1 : Option Addr) (m1 d1 : Nat) (E2 : Option Addr) (v : List TEv) (d2 : Nat) (E3 : Option Addr) (m3 d3 : Nat) (E4 : Option Addr) (m4 d4 : Nat) (w : World) (hL : IsS kNode w g.f1 A1 c1) (hV : IsS kEv w v E2 d2) (hE : w.heap[EB]? = some (.cells (eA E0 E1 E2 E3 E4 m0 m1 v.length m3 m4 d0 d1 d2 d3 d4) 36 (0, 0))) :
  Calls Tryz.prog 50 #[.agg #[.int .i64 g.f0, .slice A1 g.f1.length c1, .int .i64 g.f2, .int .i64 g.f3, .bool g.f4], .pointer (some ⟨EB, 0, none⟩)] w fun e w' => e = .returned (.bool (!engGraphB v.length (endB v) g)) ∧ Below w.heap.size w w' := by
 have hb0 := below_alloc (Below.refl w.heap.size w) (.cells #[.int .i64 g.f0, .slice A1 g.f1.length c1, .int .i64 g.f2, .int .i64 g.f3, .bool g.f4] 89)
 have bX := blk_new w (.cells #[.int .i64 g.f0, .slice A1 g.f1.length c1, .int .i64 g.f2, .int .i64 g.f3, .bool g.f4] 89)
 have bE := blk_below hE hb0
 have HL := Aside0.mk (hL.below hb0)
 have HV := Aside0.mk (hV.below hb0)
 obtain ⟨W, hW⟩ : ∃ W, W = w.alloc (.cells #[.int .i64 g.f0, .slice A1 g.f1.length c1, .int .i64 g.f2, .int .i64 g.f3, .bool g.f4] 89) := ⟨_, rfl⟩
 rw [← hW] at hb0 bX bE HL HV
 have HW := Aside0.mk hW
 have HX := Aside0.mk hb0
 have p0 := (blk_cell bX 0).trans rfl
 have q0 := (blk_cell bE 0).trans rfl
 have p1 := (blk_cell bX 1).trans rfl
 have q1 := (blk_cell bE 1).trans rfl
 have p2 := (blk_cell bX 2).trans rfl
 have q2 := (blk_cell bE 2).trans rfl
 have p3 := (blk_cell bX 3).trans rfl
 have q3 := (blk_cell bE 3).trans rfl
 have p4 := (blk_cell bX 4).trans rfl
 have q4 := (blk_cell bE 4).trans rfl
 clear hW hb0 bX bE hE hL hV
 go_enter Tryz.func50, Tryz.ntmps50
 go_upto_region 1 with fail
 rw [← HW.out]
 go_wp2_with (go_at_call 51; refine (engGraphOk_any g A1 c1 E0 m0 d0 E1 m1 d1 E2 v d2 E3 m3 d3 E4 m4 d4 _ HL.out HV.out).mono ?_; rintro e w2 ⟨rfl, hb⟩; have HB2 := Aside0.mk (below_then HX.out HX.out.size hb); clear hb)
 go_ret
 exact ⟨rfl, HB2.out⟩
set_option maxRecDepth 100000 in
theorem eng2_any (n : Int) (w : World) : Calls Tryz.prog 53 #[.int .i64 n] w fun e w' => e = .returned (.bool (!inb n 0 1000)) ∧ Below w.heap.size w w' := by
 go_enter Tryz.func53, Tryz.ntmps53
 go_wp2_with (go_at_call 54; refine (in_any _ _ _ _).mono ?_; rintro e w2 ⟨rfl, he⟩; subst he)
 go_ret
 exact ⟨rfl, Below.refl _ _⟩
def fireB (m0 m2 : Nat) (f : TFire) : Bool := inb f.f0 0 ((m0 : Int) - 1) && (Go.Proofs.YtckblabkapeigaaGreat.Pu.okO f.f1 && decide (lastB f.f1 < m2))
set_option maxHeartbeats 4000000 in
set_option maxRecDepth 100000 in
theorem eng3_any (f : TFire) (A3 : Option Addr) (c3 : Nat) (EB : Nat) (E0 : Option Addr) (m0 d0 : Nat) (E1 : Option Addr) (m1 d1 : Nat) (E2 : Option Addr) (v : List TEv) (d2 : Nat) (E3 : Option Addr) (m3 d3 : Nat) (E4 : Option Addr) (m4 d4 : Nat) (w : World) (hm : m0 ≤ 9223372036854775807) (hv : v.length ≤ 9223372036854775807) (hI : IsS (Kd.int .i64) w f.f1.f2 A3 c3) (hE : w.heap[EB]? = some (.cells (eA E0 E1 E2 E3 E4 m0 m1 v.length m3 m4 d0 d1 d2 d3 d4) 36 (0, 0))) :
  Calls Tryz.prog 56 #[.agg #[.int .i64 f.f0, .int .i64 f.f1.f0, .int .i64 f.f1.f1, .slice A3 f.f1.f2.length c3], .pointer (some ⟨EB, 0, none⟩)] w fun e w' => e = .returned (.bool (!fireB m0 v.length f)) ∧ Below w.heap.size w w' := by
 have hb0 := below_alloc (Below.refl w.heap.size w) (.cells #[.int .i64 f.f0, .int .i64 f.f1.f0, .int .i64 f.f1.f1, .slice A3 f.f1.f2.length c3] 56)
 have bX := blk_new w (.cells #[.int .i64 f.f0, .int .i64 f.f1.f0, .int .i64 f.f1.f1, .slice A3 f.f1.f2.length c3] 56)
 have bE := blk_below hE hb0
 have HI := Aside0.mk (hI.below hb0)
 obtain ⟨W, hW⟩ : ∃ W, W = w.alloc (.cells #[.int .i64 f.f0, .int .i64 f.f1.f0, .int .i64 f.f1.f1, .slice A3 f.f1.f2.length c3] 56) := ⟨_, rfl⟩
 rw [← hW] at hb0 bX bE HI
 have HW := Aside0.mk hW
 have HX := Aside0.mk hb0
 have p0 := cellE ((blk_cell bX 0).trans rfl)
 have p1 := cellE ((blk_cell bX 1).trans rfl)
 have p2 := cellE ((blk_cell bX 2).trans rfl)
 have p3 := cellE ((blk_cell bX 3).trans rfl)
 have q0 := cellE ((blk_cell bE 0).trans rfl)
 have q2 := cellE ((blk_cell bE 2).trans rfl)
 obtain ⟨vi, hvi⟩ : ∃ b, b = inb f.f0 0 ((m0 : Int) - 1) := ⟨_, rfl⟩
 obtain ⟨vo, hvo⟩ : ∃ b, b = Go.Proofs.YtckblabkapeigaaGreat.Pu.okO f.f1 := ⟨_, rfl⟩
 obtain ⟨vl, hvl⟩ : ∃ b, b = lastB f.f1 := ⟨_, rfl⟩
 have hin : ∀ s : Ext W, Calls Tryz.prog 54 #[.int .i64 f.f0, .int .i64 0, .int .i64 ((m0 : Int) - 1)] s.1 fun e w'' => e = .returned (.bool vi) ∧ Below s.1.heap.size s.1 w'' := fun s => (in_any _ _ _ s.1).mono (fun e w' ⟨h1, h2⟩ => ⟨by rw [h1, hvi], by rw [h2]; exact Below.refl _ _⟩)
 have hoc : ∀ s : Ext W, Calls Tryz.prog 57 #[.agg #[.int .i64 f.f1.f0, .int .i64 f.f1.f1, .slice A3 f.f1.f2.length c3]] s.1 fun e w'' => e = .returned (.bool vo) ∧ Below s.1.heap.size s.1 w'' := fun s => by rw [hvo]; exact Go.Proofs.YtckblabkapeigaaGreat.Ca.occOk_any f.f1 A3 c3 s.1 ⟨(HI.out.below s.2).1, (HI.out.below s.2).2⟩
 have HVI := Aside0.mk hvi
 have HVO := Aside0.mk hvo
 have HVL := Aside0.mk hvl
 clear hW hb0 bX bE hE hI hvi hvo hvl
 cases h0 : vi with
 | false =>
  have HE : Aside0 (fireB m0 v.length f = false) := ⟨by unfold fireB; rw [← HVI.out, h0]; rfl⟩
  rw [h0] at hin
  have hla : True := trivial
  go_enter Tryz.func56, Tryz.ntmps56
  go_upto_region 1 with fail
  rw [← HW.out]
  refine region_ext (W := W) (Below.refl _ _) (by kernel_rfl) (by kernel_rfl) ?_
  repeat (first | go_big_quiet_step ((first | (go_at_call 54; exact calls_ext (hin _)) | (go_at_call 57; exact calls_ext (hoc _)) | (go_at_call 58; exact calls_ext (hla _)))) | quiet_step ((first | (go_at_call 54; exact calls_ext (hin _)) | (go_at_call 57; exact calls_ext (hoc _)) | (go_at_call 58; exact calls_ext (hla _)))))
  refine wpQuiet_nil ?_
  rintro _ ⟨s, rfl⟩
  have HB2 := Aside0.mk s.2
  generalize s.1 = W2 at HB2 ⊢
  go_wp2
  go_ret
  exact ⟨by rw [HE.out]; rfl, below_then HX.out HX.out.size HB2.out⟩
 | true =>
 rw [h0] at hin
 cases h1 : vo with
 | false =>
  have HE : Aside0 (fireB m0 v.length f = false) := ⟨by unfold fireB; rw [← HVO.out, h1]; simp⟩
  rw [h1] at hoc
  have hla : True := trivial
  go_enter Tryz.func56, Tryz.ntmps56
  go_upto_region 1 with fail
  rw [← HW.out]
  refine region_ext (W := W) (Below.refl _ _) (by kernel_rfl) (by kernel_rfl) ?_
  repeat (first | go_big_quiet_step ((first | (go_at_call 54; exact calls_ext (hin _)) | (go_at_call 57; exact calls_ext (hoc _)) | (go_at_call 58; exact calls_ext (hla _)))) | quiet_step ((first | (go_at_call 54; exact calls_ext (hin _)) | (go_at_call 57; exact calls_ext (hoc _)) | (go_at_call 58; exact calls_ext (hla _)))))
  refine wpQuiet_nil ?_
  rintro _ ⟨s, rfl⟩
  have HB2 := Aside0.mk s.2
  generalize s.1 = W2 at HB2 ⊢
  go_wp2
  go_ret
  exact ⟨by rw [HE.out]; rfl, below_then HX.out HX.out.size HB2.out⟩
 | true =>
 rw [h1] at hoc
 have hpos : 0 < f.f1.f2.length := by
  have h2 := (Go.Proofs.YtckblabkapeigaaGreat.Pu.okO_iff.1 (HVO.out.symm.trans h1)).ne
  omega
 have hla : ∀ s : Ext W, Calls Tryz.prog 58 #[.agg #[.int .i64 f.f1.f0, .int .i64 f.f1.f1, .slice A3 f.f1.f2.length c3]] s.1 fun e w'' => e = .returned (.int .i64 vl) ∧ Below s.1.heap.size s.1 w'' := fun s => by rw [HVL.out]; exact last_any f.f1 A3 c3 s.1 hpos (HI.out.below s.2)
 clear hpos
 by_cases h2 : vl < v.length
 ·have d2 : decide (vl ≥ v.length) = false := decide_eq_false (by omega)
  have d2' : decide ((v.length : Int) ≤ vl) = false := decide_eq_false (by omega)
  have HE : Aside0 (fireB m0 v.length f = true) := ⟨by unfold fireB; rw [← HVI.out, h0, ← HVO.out, h1, ← HVL.out, decide_eq_true h2]; rfl⟩
  clear h0 h1 h2
  go_enter Tryz.func56, Tryz.ntmps56
  go_upto_region 1 with fail
  rw [← HW.out]
  refine region_ext (W := W) (Below.refl _ _) (by kernel_rfl) (by kernel_rfl) ?_
  repeat (first | go_big_quiet_step ((first | (go_at_call 54; exact calls_ext (hin _)) | (go_at_call 57; exact calls_ext (hoc _)) | (go_at_call 58; exact calls_ext (hla _)))) | quiet_step ((first | (go_at_call 54; exact calls_ext (hin _)) | (go_at_call 57; exact calls_ext (hoc _)) | (go_at_call 58; exact calls_ext (hla _)))))
  refine wpQuiet_nil ?_
  rintro _ ⟨s, rfl⟩
  have HB2 := Aside0.mk s.2
  generalize s.1 = W2 at HB2 ⊢
  go_wp2
  go_ret
  exact ⟨by rw [HE.out]; rfl, below_then HX.out HX.out.size HB2.out⟩
 ·have d2 : decide (vl ≥ v.length) = true := decide_eq_true (by omega)
  have d2' : decide ((v.length : Int) ≤ vl) = true := decide_eq_true (by omega)
  have HE : Aside0 (fireB m0 v.length f = false) := ⟨by unfold fireB; rw [← HVL.out, decide_eq_false h2]; simp⟩
  clear h0 h1 h2
  go_enter Tryz.func56, Tryz.ntmps56
  go_upto_region 1 with fail
  rw [← HW.out]
  refine region_ext (W := W) (Below.refl _ _) (by kernel_rfl) (by kernel_rfl) ?_
  repeat (first | go_big_quiet_step ((first | (go_at_call 54; exact calls_ext (hin _)) | (go_at_call 57; exact calls_ext (hoc _)) | (go_at_call 58; exact calls_ext (hla _)))) | quiet_step ((first | (go_at_call 54; exact calls_ext (hin _)) | (go_at_call 57; exact calls_ext (hoc _)) | (go_at_call 58; exact calls_ext (hla _)))))
  refine wpQuiet_nil ?_
  rintro _ ⟨s, rfl⟩
  have HB2 := Aside0.mk s.2
  generalize s.1 = W2 at HB2 ⊢
  go_wp2
  go_ret
  exact ⟨by rw [HE.out]; rfl, below_then HX.out HX.out.size HB2.out⟩
set_option maxHeartbeats 2000000 in
set_option maxRecDepth 100000 in
theorem geg_idx (EB : Nat) (E0 : Option Addr) (m0 d0 : Nat) (E1 : Option Addr) (m1 d1 : Nat) (E2 : Option Addr) (v : List TEv) (d2 : Nat) (E3 : Option Addr) (m3 d3 : Nat) (E4 : Option Addr) (m4 d4 : Nat) (A : Option Addr) (c : Nat) (l : List TGraph) (w : World) (hL : IsS kGraph w l A c) (hV : IsS kEv w v E2 d2) (hE : (World.heap w)[EB]? = some (.cells (eA E0 E1 E2 E3 E4 m0 m1 v.length m3 m4 d0 d1 d2 d3 d4) 36 (0, 0))) :
  Calls Tryz.prog 81 #[.slice A l.length c, .func (.func 50) #[] #[.pointer (some ⟨EB, 0, none⟩)]] w fun e w' => (∃ r : Int, e = .returned (.int .i64 r) ∧ decide (r ≥ 0) = l.any (fun x => !engGraphB v.length (endB v) x)) ∧ Below w.heap.size w w' := by
 have hn := hL.len
 have HL := Aside0.mk hL
 have EhV := Aside0.mk hV
 have EhE := Aside0.mk hE
 clear hL hV hE
 go_enter Tryz.func81, Tryz.ntmps81
 go_wp2
 go_loopw [8] (fun vi wr => ∃ (j : Nat), j ≤ l.length ∧ vi = .int .i64 j ∧ Aside0 ((l.take j).any (fun x => !engGraphB v.length (endB v) x) = false) ∧ Aside0 (Below w.heap.size w wr)) (fun vi _ => l.length - (intOf vi).toNat)
 case atStart => exact ⟨0, Nat.zero_le _, rfl, ⟨by simp⟩, ⟨Below.refl _ _⟩⟩
 case round =>
  obtain ⟨j, hj, rfl, HA, HB⟩ := hrel
  by_cases hlt : j < l.length
  ·have g1 : decide (j < l.length) = true := decide_eq_true hlt
   have i1 : (j : Int) < l.length := by omega
   obtain ⟨ad, A1, c1, rfl, y0, y1, y2, y3, y4, j1⟩ := atGraph (HL.out.below HB.out) j hlt
   have HS : Aside0 ((l.take (j + 1)).any (fun x => !engGraphB v.length (endB v) x) = ((l.take j).any (fun x => !engGraphB v.length (endB v) x) || (fun x => !engGraphB v.length (endB v) x) (l.getD j zGraph))) := ⟨by rw [take_snoc l j zGraph hlt, List.any_append]; simp⟩
   have HM : Aside0 (l.getD j zGraph ∈ l) := ⟨by rw [List.getD_eq_getElem?_getD, List.getElem?_eq_getElem hlt]; exact List.getElem_mem hlt⟩
   have HF : Aside0 ((fun x => !engGraphB v.length (endB v) x) (l.getD j zGraph) = true → l.any (fun x => !engGraphB v.length (endB v) x) = true) := ⟨fun h => List.any_eq_true.2 ⟨_, HM.out, h⟩⟩
   have ehV : IsS kEv wr v E2 d2 := (EhV.out.below HB.out)
   have ehE : (World.heap wr)[EB]? = some (.cells (eA E0 E1 E2 E3 E4 m0 m1 v.length m3 m4 d0 d1 d2 d3 d4) 36 (0, 0)) := blk_below EhE.out HB.out
   generalize l.getD j zGraph = o at y0 y1 y2 y3 y4 j1 HS HF
   have hcl : Calls Tryz.prog 50 #[.agg #[.int .i64 o.f0, .slice A1 o.f1.length c1, .int .i64 o.f2, .int .i64 o.f3, .bool o.f4], .pointer (some ⟨EB, 0, none⟩)] wr (fun e w'' => e = .returned (.bool ((fun x => !engGraphB v.length (endB v) x) o)) ∧ Below wr.heap.size wr w'') := eng1_any o A1 c1 EB E0 m0 d0 E1 m1 d1 E2 v d2 E3 m3 d3 E4 m4 d4 wr j1 ehV ehE
   clear j1 ehV ehE HM
   cases hd : (fun x => !engGraphB v.length (endB v) x) o with
   | false =>
    have HE2 : Aside0 ((l.take (j + 1)).any (fun x => !engGraphB v.length (endB v) x) = false) := ⟨by rw [HS.out, HA.out, hd]; rfl⟩
    rw [hd] at hcl
    clear hd
    go_wp2_with (go_at_call 50; refine hcl.mono ?_; rintro e w1 ⟨rfl, hb1⟩; have HB1 := Aside0.mk (below_then HB.out HB.out.size hb1); clear hb1)
    go_roundw
    case rel => exact ⟨j + 1, by omega, by go_num, HE2, HB1⟩
    case measure => simp [intOf]; omega
   | true =>
    have HF2 := Aside0.mk (HF.out hd)
    rw [hd] at hcl
    clear hd
    go_wp2_with (go_at_call 50; refine hcl.mono ?_; rintro e w1 ⟨rfl, hb1⟩; have HB1 := Aside0.mk (below_then HB.out HB.out.size hb1); clear hb1)
    go_ret
    exact ⟨⟨(j : Int), rfl, by rw [HF2.out]; exact decide_eq_true (by omega)⟩, HB1.out⟩
  ·have hke : j = l.length := by omega
   subst hke
   have g1 : decide (l.length < l.length) = false := decide_eq_false (by omega)
   have HF : Aside0 (l.any (fun x => !engGraphB v.length (endB v) x) = false) := ⟨by have h := HA.out; rwa [List.take_length] at h⟩
   go_wp2
   go_ret
   exact ⟨⟨-1, rfl, by rw [HF.out]; decide⟩, HB.out⟩
set_option maxRecDepth 100000 in
theorem geg_has (EB : Nat) (E0 : Option Addr) (m0 d0 : Nat) (E1 : Option Addr) (m1 d1 : Nat) (E2 : Option Addr) (v : List TEv) (d2 : Nat) (E3 : Option Addr) (m3 d3 : Nat) (E4 : Option Addr) (m4 d4 : Nat) (A : Option Addr) (c : Nat) (l : List TGraph) (w : World) (hL : IsS kGraph w l A c) (hV : IsS kEv w v E2 d2) (hE : (World.heap w)[EB]? = some (.cells (eA E0 E1 E2 E3 E4 m0 m1 v.length m3 m4 d0 d1 d2 d3 d4) 36 (0, 0))) :
  Calls Tryz.prog 49 #[.slice A l.length c, .func (.func 50) #[] #[.pointer (some ⟨EB, 0, none⟩)]] w fun e w' => e = .returned (.bool (l.any (fun x => !engGraphB v.length (endB v) x))) ∧ Below w.heap.size w w' := by
 have HC := Aside0.mk (geg_idx EB E0 m0 d0 E1 m1 d1 E2 v d2 E3 m3 d3 E4 m4 d4 A c l w hL hV hE)
 clear hL hV hE
 go_enter Tryz.func49, Tryz.ntmps49
 go_wp2_with (go_at_call 81; refine HC.out.mono ?_; rintro e w2 ⟨⟨r, rfl, hr⟩, hb⟩; have HR := Aside0.mk hr; have HB2 := Aside0.mk hb; clear hr hb)
 go_ret
 exact ⟨by (rw [← HR.out]; rfl), HB2.out⟩
set_option maxHeartbeats 2000000 in
set_option maxRecDepth 100000 in
theorem keg_idx  (A : Option Addr) (c : Nat) (l : List Int) (w : World) (hL : IsS (Kd.int .i64) w l A c)  :
  Calls Tryz.prog 87 #[.slice A l.length c, .func (.func 53) #[] #[]] w fun e w' => (∃ r : Int, e = .returned (.int .i64 r) ∧ decide (r ≥ 0) = l.any (fun x => !inb x 0 1000)) ∧ Below w.heap.size w w' := by
 have hn := hL.len
 have HL := Aside0.mk hL
 clear hL
 go_enter Tryz.func87, Tryz.ntmps87
 go_wp2
 go_loopw [8] (fun vi wr => ∃ (j : Nat), j ≤ l.length ∧ vi = .int .i64 j ∧ Aside0 ((l.take j).any (fun x => !inb x 0 1000) = false) ∧ Aside0 (Below w.heap.size w wr)) (fun vi _ => l.length - (intOf vi).toNat)
 case atStart => exact ⟨0, Nat.zero_le _, rfl, ⟨by simp⟩, ⟨Below.refl _ _⟩⟩
 case round =>
  obtain ⟨j, hj, rfl, HA, HB⟩ := hrel
  by_cases hlt : j < l.length
  ·have g1 : decide (j < l.length) = true := decide_eq_true hlt
   have i1 : (j : Int) < l.length := by omega
   obtain ⟨ad, rfl, y0⟩ := atI (HL.out.below HB.out) j hlt
   have HS : Aside0 ((l.take (j + 1)).any (fun x => !inb x 0 1000) = ((l.take j).any (fun x => !inb x 0 1000) || (fun x => !inb x 0 1000) (l.getD j (0 : Int)))) := ⟨by rw [take_snoc l j (0 : Int) hlt, List.any_append]; simp⟩
   have HM : Aside0 (l.getD j (0 : Int) ∈ l) := ⟨by rw [List.getD_eq_getElem?_getD, List.getElem?_eq_getElem hlt]; exact List.getElem_mem hlt⟩
   have HF : Aside0 ((fun x => !inb x 0 1000) (l.getD j (0 : Int)) = true → l.any (fun x => !inb x 0 1000) = true) := ⟨fun h => List.any_eq_true.2 ⟨_, HM.out, h⟩⟩
   generalize l.getD j (0 : Int) = o at y0 HS HF
   have hcl : Calls Tryz.prog 53 #[(.int .i64 o)] wr (fun e w'' => e = .returned (.bool ((fun x => !inb x 0 1000) o)) ∧ Below wr.heap.size wr w'') := eng2_any o wr
   clear HM
   cases hd : (fun x => !inb x 0 1000) o with
   | false =>
    have HE2 : Aside0 ((l.take (j + 1)).any (fun x => !inb x 0 1000) = false) := ⟨by rw [HS.out, HA.out, hd]; rfl⟩
    rw [hd] at hcl
    clear hd
    go_wp2_with (go_at_call 53; refine hcl.mono ?_; rintro e w1 ⟨rfl, hb1⟩; have HB1 := Aside0.mk (below_then HB.out HB.out.size hb1); clear hb1)
    go_roundw
    case rel => exact ⟨j + 1, by omega, by go_num, HE2, HB1⟩
    case measure => simp [intOf]; omega
   | true =>
    have HF2 := Aside0.mk (HF.out hd)
    rw [hd] at hcl
    clear hd
    go_wp2_with (go_at_call 53; refine hcl.mono ?_; rintro e w1 ⟨rfl, hb1⟩; have HB1 := Aside0.mk (below_then HB.out HB.out.size hb1); clear hb1)
    go_ret
    exact ⟨⟨(j : Int), rfl, by rw [HF2.out]; exact decide_eq_true (by omega)⟩, HB1.out⟩
  ·have hke : j = l.length := by omega
   subst hke
   have g1 : decide (l.length < l.length) = false := decide_eq_false (by omega)
   have HF : Aside0 (l.any (fun x => !inb x 0 1000) = false) := ⟨by have h := HA.out; rwa [List.take_length] at h⟩
   go_wp2
   go_ret
   exact ⟨⟨-1, rfl, by rw [HF.out]; decide⟩, HB.out⟩
set_option maxRecDepth 100000 in
theorem keg_has  (A : Option Addr) (c : Nat) (l : List Int) (w : World) (hL : IsS (Kd.int .i64) w l A c)  :
  Calls Tryz.prog 52 #[.slice A l.length c, .func (.func 53) #[] #[]] w fun e w' => e = .returned (.bool (l.any (fun x => !inb x 0 1000))) ∧ Below w.heap.size w w' := by
 have HC := Aside0.mk (keg_idx  A c l w hL )
 clear hL
 go_enter Tryz.func52, Tryz.ntmps52
 go_wp2_with (go_at_call 87; refine HC.out.mono ?_; rintro e w2 ⟨⟨r, rfl, hr⟩, hb⟩; have HR := Aside0.mk hr; have HB2 := Aside0.mk hb; clear hr hb)
 go_ret
 exact ⟨by (rw [← HR.out]; rfl), HB2.out⟩
set_option maxHeartbeats 2000000 in
set_option maxRecDepth 100000 in
theorem feg_idx (EB : Nat) (E0 : Option Addr) (m0 d0 : Nat) (E1 : Option Addr) (m1 d1 : Nat) (E2 : Option Addr) (v : List TEv) (d2 : Nat) (E3 : Option Addr) (m3 d3 : Nat) (E4 : Option Addr) (m4 d4 : Nat) (hm : m0 ≤ 9223372036854775807) (hv : v.length ≤ 9223372036854775807) (A : Option Addr) (c : Nat) (l : List TFire) (w : World) (hL : IsS kFire w l A c) (hE : (World.heap w)[EB]? = some (.cells (eA E0 E1 E2 E3 E4 m0 m1 v.length m3 m4 d0 d1 d2 d3 d4) 36 (0, 0))) :
  Calls Tryz.prog 88 #[.slice A l.length c, .func (.func 56) #[] #[.pointer (some ⟨EB, 0, none⟩)]] w fun e w' => (∃ r : Int, e = .returned (.int .i64 r) ∧ decide (r ≥ 0) = l.any (fun x => !fireB m0 v.length x)) ∧ Below w.heap.size w w' := by
 have hn := hL.len
 have HL := Aside0.mk hL
 have EhE := Aside0.mk hE
 clear hL hE
 go_enter Tryz.func88, Tryz.ntmps88
 go_wp2
 go_loopw [8] (fun vi wr => ∃ (j : Nat), j ≤ l.length ∧ vi = .int .i64 j ∧ Aside0 ((l.take j).any (fun x => !fireB m0 v.length x) = false) ∧ Aside0 (Below w.heap.size w wr)) (fun vi _ => l.length - (intOf vi).toNat)
 case atStart => exact ⟨0, Nat.zero_le _, rfl, ⟨by simp⟩, ⟨Below.refl _ _⟩⟩
 case round =>
  obtain ⟨j, hj, rfl, HA, HB⟩ := hrel
  by_cases hlt : j < l.length
  ·have g1 : decide (j < l.length) = true := decide_eq_true hlt
   have i1 : (j : Int) < l.length := by omega
   obtain ⟨ad, A3, c3, rfl, y0, y1, y2, y3, j3⟩ := atFire (HL.out.below HB.out) j hlt
   have HS : Aside0 ((l.take (j + 1)).any (fun x => !fireB m0 v.length x) = ((l.take j).any (fun x => !fireB m0 v.length x) || (fun x => !fireB m0 v.length x) (l.getD j zFire))) := ⟨by rw [take_snoc l j zFire hlt, List.any_append]; simp⟩
   have HM : Aside0 (l.getD j zFire ∈ l) := ⟨by rw [List.getD_eq_getElem?_getD, List.getElem?_eq_getElem hlt]; exact List.getElem_mem hlt⟩
   have HF : Aside0 ((fun x => !fireB m0 v.length x) (l.getD j zFire) = true → l.any (fun x => !fireB m0 v.length x) = true) := ⟨fun h => List.any_eq_true.2 ⟨_, HM.out, h⟩⟩
   have ehE : (World.heap wr)[EB]? = some (.cells (eA E0 E1 E2 E3 E4 m0 m1 v.length m3 m4 d0 d1 d2 d3 d4) 36 (0, 0)) := blk_below EhE.out HB.out
   generalize l.getD j zFire = o at y0 y1 y2 y3 j3 HS HF
   have hcl : Calls Tryz.prog 56 #[.agg #[.int .i64 o.f0, .int .i64 o.f1.f0, .int .i64 o.f1.f1, .slice A3 o.f1.f2.length c3], .pointer (some ⟨EB, 0, none⟩)] wr (fun e w'' => e = .returned (.bool ((fun x => !fireB m0 v.length x) o)) ∧ Below wr.heap.size wr w'') := eng3_any o A3 c3 EB E0 m0 d0 E1 m1 d1 E2 v d2 E3 m3 d3 E4 m4 d4 wr hm hv j3 ehE
   clear j3 ehE HM
   cases hd : (fun x => !fireB m0 v.length x) o with
   | false =>
    have HE2 : Aside0 ((l.take (j + 1)).any (fun x => !fireB m0 v.length x) = false) := ⟨by rw [HS.out, HA.out, hd]; rfl⟩
    rw [hd] at hcl
    clear hd
    go_wp2_with (go_at_call 56; refine hcl.mono ?_; rintro e w1 ⟨rfl, hb1⟩; have HB1 := Aside0.mk (below_then HB.out HB.out.size hb1); clear hb1)
    go_roundw
    case rel => exact ⟨j + 1, by omega, by go_num, HE2, HB1⟩
    case measure => simp [intOf]; omega
   | true =>
    have HF2 := Aside0.mk (HF.out hd)
    rw [hd] at hcl
    clear hd
    go_wp2_with (go_at_call 56; refine hcl.mono ?_; rintro e w1 ⟨rfl, hb1⟩; have HB1 := Aside0.mk (below_then HB.out HB.out.size hb1); clear hb1)
    go_ret
    exact ⟨⟨(j : Int), rfl, by rw [HF2.out]; exact decide_eq_true (by omega)⟩, HB1.out⟩
  ·have hke : j = l.length := by omega
   subst hke
   have g1 : decide (l.length < l.length) = false := decide_eq_false (by omega)
   have HF : Aside0 (l.any (fun x => !fireB m0 v.length x) = false) := ⟨by have h := HA.out; rwa [List.take_length] at h⟩
   go_wp2
   go_ret
   exact ⟨⟨-1, rfl, by rw [HF.out]; decide⟩, HB.out⟩
set_option maxRecDepth 100000 in
theorem feg_has (EB : Nat) (E0 : Option Addr) (m0 d0 : Nat) (E1 : Option Addr) (m1 d1 : Nat) (E2 : Option Addr) (v : List TEv) (d2 : Nat) (E3 : Option Addr) (m3 d3 : Nat) (E4 : Option Addr) (m4 d4 : Nat) (hm : m0 ≤ 9223372036854775807) (hv : v.length ≤ 9223372036854775807) (A : Option Addr) (c : Nat) (l : List TFire) (w : World) (hL : IsS kFire w l A c) (hE : (World.heap w)[EB]? = some (.cells (eA E0 E1 E2 E3 E4 m0 m1 v.length m3 m4 d0 d1 d2 d3 d4) 36 (0, 0))) :
  Calls Tryz.prog 55 #[.slice A l.length c, .func (.func 56) #[] #[.pointer (some ⟨EB, 0, none⟩)]] w fun e w' => e = .returned (.bool (l.any (fun x => !fireB m0 v.length x))) ∧ Below w.heap.size w w' := by
 have HC := Aside0.mk (feg_idx EB E0 m0 d0 E1 m1 d1 E2 v d2 E3 m3 d3 E4 m4 d4 hm hv A c l w hL hE)
 clear hL hE
 go_enter Tryz.func55, Tryz.ntmps55
 go_wp2_with (go_at_call 88; refine HC.out.mono ?_; rintro e w2 ⟨⟨r, rfl, hr⟩, hb⟩; have HR := Aside0.mk hr; have HB2 := Aside0.mk hb; clear hr hb)
 go_ret
 exact ⟨by (rw [← HR.out]; rfl), HB2.out⟩
end Go.Proofs.YtckblabkapeigaaGreat.Pb9
