
/- Is an expression valid; a copy of it: the program's. -/
import Derived.Test.YtckblabkapeigaaGreatNJh
set_option linter.unusedVariables false
set_option linter.unusedSimpArgs false
namespace Go.Proofs.YtckblabkapeigaaGreat.Ji
open Go.RowKit Go.Proofs.YtckblabkapeigaaGreatW.PrintWords Go.Proofs.YtckblabkapeigaaGreat.Ja Go.Proofs.YtckblabkapeigaaGreat.Jb Go.Proofs.YtckblabkapeigaaGreat.Jc Go.Proofs.YtckblabkapeigaaGreat.Jd Go.Proofs.YtckblabkapeigaaGreat.Jg Go.Proofs.YtckblabkapeigaaGreat.Jh

set_option maxHeartbeats 2000000 in
set_option maxRecDepth 100000 in
theorem exOk_any (x : Ex) (A : Option Addr) (c : Nat) (w : World) (hc : cntL x.f3 ≤ 1048576) (hL : IsEL 50 w x.f3 A c) :
  Calls Tryz.prog 105 #[X x.f0 x.f1 x.f2 A x.f3.length c] w fun e w' => e = .returned (.bool (okE x)) ∧ Below w.heap.size w w' := by
 have hbx := box4 w (.int .i64 x.f0) (.int .i64 x.f1) (.int .i64 x.f2) (.slice A x.f3.length c) 50
 have HX := Aside0.mk hbx.1
 have HL := Aside0.mk (hL.below hbx.1)
 obtain ⟨W, hW⟩ : ∃ W, W = w.alloc (.cells #[.int .i64 x.f0, .int .i64 x.f1, .int .i64 x.f2, .slice A x.f3.length c] 50) := ⟨_, rfl⟩
 rw [← hW] at HX HL hbx
 have HW := Aside0.mk hW
 obtain ⟨_, p0, p1, p2, p3⟩ := hbx
 clear hL hW
 obtain ⟨m, hm⟩ : ∃ m : Int, m = 1 + (cntL x.f3 : Int) := ⟨_, rfl⟩
 obtain ⟨d, hd⟩ : ∃ d : Int, d = 1 + (deepL x.f3 : Int) := ⟨_, rfl⟩
 obtain ⟨b, hb⟩ : ∃ b, b = formB x := ⟨_, rfl⟩
 have HM := Aside0.mk hm
 have HD := Aside0.mk hd
 have HBB := Aside0.mk hb
 obtain ⟨k, hk⟩ : ∃ k, k = okE x := ⟨_, rfl⟩
 have hk2 : k = (decide (m ≤ 12) && decide (d ≤ 5) && b) := by
  rw [hk, hb]
  unfold okE
  congr 2
  ·exact decide_eq_decide.2 (by omega)
  ·exact decide_eq_decide.2 (by omega)
 have HK := Aside0.mk hk
 clear hm hd hb hk
 by_cases h1 : m ≤ 12
 ·have q1 : decide (m ≤ 12) = true := decide_eq_true h1
  by_cases h2 : d ≤ 5
  ·have q2 : decide (d ≤ 5) = true := decide_eq_true h2
   rw [q1, q2] at hk2
   have HK2 : Aside0 (b = k) := ⟨by rw [hk2]; simp⟩
   clear hk2 h1 h2
   go_enter Tryz.func105, Tryz.ntmps105
   go_upto_region 1 with fail
   rw [← HW.out]
   go_wp2_with (first | (go_at_call 123; refine (size_any x.f0 x.f1 x.f2 x.f3 A c _ hc HL.out).mono ?_; rintro e w2 ⟨rfl, hb2⟩; rw [← HM.out, ← HD.out]; have p0' := pw_cell_below hb2 p0; have p1' := pw_cell_below hb2 p1; have p2' := pw_cell_below hb2 p2; have p3' := pw_cell_below hb2 p3; have HB2 := Aside0.mk (below_then HX.out HX.out.size hb2); have HL2 := Aside0.mk (HL.out.below hb2); clear hb2) | (go_at_call 124; refine (formed_any x A c _ HL2.out).mono ?_; rintro e w3 ⟨rfl, hb3⟩; rw [← HBB.out]; have HB3 := Aside0.mk (below_then HB2.out HB2.out.size hb3); clear hb3))
   go_ret
   exact ⟨ret_bool (HK2.out.trans HK.out), HB3.out⟩
  ·have q2 : decide (d ≤ 5) = false := decide_eq_false h2
   rw [q1, q2] at hk2
   have HK2 : Aside0 (false = k) := ⟨by rw [hk2]; simp⟩
   clear hk2 h1 h2
   go_enter Tryz.func105, Tryz.ntmps105
   go_upto_region 1 with fail
   rw [← HW.out]
   go_wp2_with (first | (go_at_call 123; refine (size_any x.f0 x.f1 x.f2 x.f3 A c _ hc HL.out).mono ?_; rintro e w2 ⟨rfl, hb2⟩; rw [← HM.out, ← HD.out]; have p0' := pw_cell_below hb2 p0; have p1' := pw_cell_below hb2 p1; have p2' := pw_cell_below hb2 p2; have p3' := pw_cell_below hb2 p3; have HB2 := Aside0.mk (below_then HX.out HX.out.size hb2); have HL2 := Aside0.mk (HL.out.below hb2); clear hb2) | (go_at_call 124; refine (formed_any x A c _ HL2.out).mono ?_; rintro e w3 ⟨rfl, hb3⟩; rw [← HBB.out]; have HB3 := Aside0.mk (below_then HB2.out HB2.out.size hb3); clear hb3))
   go_ret
   exact ⟨ret_bool (HK2.out.trans HK.out), HB2.out⟩
 ·have q1 : decide (m ≤ 12) = false := decide_eq_false h1
  rw [q1] at hk2
  have HK2 : Aside0 (false = k) := ⟨by rw [hk2]; simp⟩
  clear hk2 h1
  go_enter Tryz.func105, Tryz.ntmps105
  go_upto_region 1 with fail
  rw [← HW.out]
  go_wp2_with (first | (go_at_call 123; refine (size_any x.f0 x.f1 x.f2 x.f3 A c _ hc HL.out).mono ?_; rintro e w2 ⟨rfl, hb2⟩; rw [← HM.out, ← HD.out]; have p0' := pw_cell_below hb2 p0; have p1' := pw_cell_below hb2 p1; have p2' := pw_cell_below hb2 p2; have p3' := pw_cell_below hb2 p3; have HB2 := Aside0.mk (below_then HX.out HX.out.size hb2); have HL2 := Aside0.mk (HL.out.below hb2); clear hb2) | (go_at_call 124; refine (formed_any x A c _ HL2.out).mono ?_; rintro e w3 ⟨rfl, hb3⟩; rw [← HBB.out]; have HB3 := Aside0.mk (below_then HB2.out HB2.out.size hb3); clear hb3))
  go_ret
  exact ⟨ret_bool (HK2.out.trans HK.out), HB2.out⟩

/-! copies -/
end Go.Proofs.YtckblabkapeigaaGreat.Ji
