
/- Is a rule valid: the reference's. -/
import Derived.Test.YtckblabkapeigaaGreatNEb8
import Derived.Test.YtckblabkapeigaaGreatNKa
import Derived.Test.YtckblabkapeigaaGreatNJi
import Derived.Test.YtckblabkapeigaaGreatNJj
set_option linter.unusedVariables false
set_option linter.unusedSimpArgs false
namespace Go.Proofs.YtckblabkapeigaaGreat.Ec8
open Go.RowKit Go.Proofs.YtckblabkapeigaaGreatW.PrintWords Go.Proofs.YtckblabkapeigaaGreat.Ja Go.Proofs.YtckblabkapeigaaGreat.Jb Go.Proofs.YtckblabkapeigaaGreat.Jc Go.Proofs.YtckblabkapeigaaGreat.Jg Go.Proofs.YtckblabkapeigaaGreat.Jh Go.Proofs.YtckblabkapeigaaGreat.Ji Go.Proofs.YtckblabkapeigaaGreat.Jj Go.Proofs.YtckblabkapeigaaGreat.Ka Go.Proofs.YtckblabkapeigaaGreat.Ea8 Go.Proofs.YtckblabkapeigaaGreat.Eb8

set_option maxHeartbeats 8000000 in
set_option maxRecDepth 100000 in
theorem sRuleOk_any (r : TRule) (A : Option Addr) (c : Nat) (w : World) (hn : r.f0.size ≤ 9223372036854775807) (hcE : cntL r.f3.f3 ≤ 1048576) (hL : IsEL 50 w r.f3.f3 A c) :
  Calls Tryz.prog 69 #[.agg #[.string r.f0, .int .i64 r.f1, .int .i64 r.f2, .int .i64 r.f3.f0, .int .i64 r.f3.f1, .int .i64 r.f3.f2, .slice A r.f3.f3.length c, .int .i64 r.f4, .int .i64 r.f5, .int .i64 r.f6, .int .i64 r.f7, .int .i64 r.f8]] w fun e w' => e = .returned (.bool (ruleB r)) ∧ Below w.heap.size w w' := by
 have hb0 := below_alloc (Below.refl w.heap.size w) (.cells #[.string r.f0, .int .i64 r.f1, .int .i64 r.f2, .int .i64 r.f3.f0, .int .i64 r.f3.f1, .int .i64 r.f3.f2, .slice A r.f3.f3.length c, .int .i64 r.f4, .int .i64 r.f5, .int .i64 r.f6, .int .i64 r.f7, .int .i64 r.f8] 52)
 have bX := blk_new w (.cells #[.string r.f0, .int .i64 r.f1, .int .i64 r.f2, .int .i64 r.f3.f0, .int .i64 r.f3.f1, .int .i64 r.f3.f2, .slice A r.f3.f3.length c, .int .i64 r.f4, .int .i64 r.f5, .int .i64 r.f6, .int .i64 r.f7, .int .i64 r.f8] 52)
 obtain ⟨W, hW⟩ : ∃ W, W = w.alloc (.cells #[.string r.f0, .int .i64 r.f1, .int .i64 r.f2, .int .i64 r.f3.f0, .int .i64 r.f3.f1, .int .i64 r.f3.f2, .slice A r.f3.f3.length c, .int .i64 r.f4, .int .i64 r.f5, .int .i64 r.f6, .int .i64 r.f7, .int .i64 r.f8] 52) := ⟨_, rfl⟩
 rw [← hW] at hb0 bX
 have HW := Aside0.mk hW
 have HX := Aside0.mk hb0
 have HL := Aside0.mk (hL.below hb0)
 have BX := Aside0.mk bX
 clear hW hb0 hL bX
 by_cases h0 : nameB r.f0 = true
 rotate_left
 ·have e0 : nameB r.f0 = false := by simpa using h0
  have E0 := Aside0.mk e0
  clear e0
  have HE : Aside0 (ruleB r = false) := ⟨ruleB_n0 (by simpa using h0)⟩
  clear h0
  go_enter Tryz.func69, Tryz.ntmps69
  go_wp2_with (first
    | (go_at_call 95; refine (sName_any r.f0 _ hn).mono ?_; rintro e w2 ⟨rfl, he⟩; subst he; rw [E0.out]))
  go_ret
  exact ⟨by rw [HE.out]; rfl, HW.out ▸ HX.out⟩
 by_cases h1 : 0 ≤ r.f1
 rotate_left
 ·have e0 : nameB r.f0 = true := h0
  have E0 := Aside0.mk e0
  clear e0
  have e1 : decide (r.f1 ≥ 0) = false := decide_eq_false h1
  have HE : Aside0 (ruleB r = false) := ⟨ruleB_n3 (by unfold ruleP; omega)⟩
  clear h0 h1
  go_enter Tryz.func69, Tryz.ntmps69
  go_wp2_with (first
    | (go_at_call 95; refine (sName_any r.f0 _ hn).mono ?_; rintro e w2 ⟨rfl, he⟩; subst he; rw [E0.out]))
  go_ret
  exact ⟨by rw [HE.out]; rfl, HW.out ▸ HX.out⟩
 by_cases h2 : r.f1 ≤ 9
 rotate_left
 ·have e0 : nameB r.f0 = true := h0
  have E0 := Aside0.mk e0
  clear e0
  have e1 : decide (r.f1 ≥ 0) = true := decide_eq_true h1
  have e2 : decide (r.f1 ≤ 9) = false := decide_eq_false h2
  have HE : Aside0 (ruleB r = false) := ⟨ruleB_n3 (by unfold ruleP; omega)⟩
  clear h0 h1 h2
  go_enter Tryz.func69, Tryz.ntmps69
  go_wp2_with (first
    | (go_at_call 95; refine (sName_any r.f0 _ hn).mono ?_; rintro e w2 ⟨rfl, he⟩; subst he; rw [E0.out]))
  go_ret
  exact ⟨by rw [HE.out]; rfl, HW.out ▸ HX.out⟩
 by_cases h3 : inb r.f2 0 4 = true
 rotate_left
 ·have e0 : nameB r.f0 = true := h0
  have E0 := Aside0.mk e0
  clear e0
  have e1 : decide (r.f1 ≥ 0) = true := decide_eq_true h1
  have e2 : decide (r.f1 ≤ 9) = true := decide_eq_true h2
  have e3 : inb r.f2 0 4 = false := by simpa using h3
  have E3 := Aside0.mk e3
  clear e3
  have HE : Aside0 (ruleB r = false) := ⟨ruleB_n1 (by simpa using h3)⟩
  clear h0 h1 h2 h3
  go_enter Tryz.func69, Tryz.ntmps69
  go_wp2_with (first
    | (go_at_call 71; refine (sMode_any r.f2 _).mono ?_; rintro e w2 ⟨rfl, he⟩; subst he; rw [E3.out])
    | (go_at_call 95; refine (sName_any r.f0 _ hn).mono ?_; rintro e w2 ⟨rfl, he⟩; subst he; rw [E0.out]))
  go_ret
  exact ⟨by rw [HE.out]; rfl, HW.out ▸ HX.out⟩
 by_cases h4 : okE r.f3 = true
 rotate_left
 ·have e0 : nameB r.f0 = true := h0
  have E0 := Aside0.mk e0
  clear e0
  have e1 : decide (r.f1 ≥ 0) = true := decide_eq_true h1
  have e2 : decide (r.f1 ≤ 9) = true := decide_eq_true h2
  have e3 : inb r.f2 0 4 = true := h3
  have E3 := Aside0.mk e3
  clear e3
  have e4 : okE r.f3 = false := by simpa using h4
  have E4 := Aside0.mk e4
  clear e4
  have HE : Aside0 (ruleB r = false) := ⟨ruleB_n2 (by simpa using h4)⟩
  clear h0 h1 h2 h3 h4
  go_enter Tryz.func69, Tryz.ntmps69
  go_wp2_with (first
    | (go_at_call 96; refine (sExOk_any r.f3 A c _ hcE (HW.out ▸ HL.out)).mono ?_; rintro e w2 ⟨rfl, hb⟩; rw [← HW.out] at hb; rw [E4.out]; have q7 := pw_cell_below hb ((blk_cell BX.out 7).trans rfl); have q8 := pw_cell_below hb ((blk_cell BX.out 8).trans rfl); have q9 := pw_cell_below hb ((blk_cell BX.out 9).trans rfl); have q10 := pw_cell_below hb ((blk_cell BX.out 10).trans rfl); have q11 := pw_cell_below hb ((blk_cell BX.out 11).trans rfl); have HB2 := Aside0.mk (below_then HX.out HX.out.size hb); clear hb)
    | (go_at_call 71; refine (sMode_any r.f2 _).mono ?_; rintro e w2 ⟨rfl, he⟩; subst he; rw [E3.out])
    | (go_at_call 95; refine (sName_any r.f0 _ hn).mono ?_; rintro e w2 ⟨rfl, he⟩; subst he; rw [E0.out]))
  go_ret
  exact ⟨by rw [HE.out]; rfl, HB2.out⟩
 by_cases h5 : 0 ≤ r.f4
 rotate_left
 ·have e0 : nameB r.f0 = true := h0
  have E0 := Aside0.mk e0
  clear e0
  have e1 : decide (r.f1 ≥ 0) = true := decide_eq_true h1
  have e2 : decide (r.f1 ≤ 9) = true := decide_eq_true h2
  have e3 : inb r.f2 0 4 = true := h3
  have E3 := Aside0.mk e3
  clear e3
  have e4 : okE r.f3 = true := h4
  have E4 := Aside0.mk e4
  clear e4
  have e5 : decide (r.f4 ≥ 0) = false := decide_eq_false h5
  have HE : Aside0 (ruleB r = false) := ⟨ruleB_n3 (by unfold ruleP; omega)⟩
  clear h0 h1 h2 h3 h4 h5
  go_enter Tryz.func69, Tryz.ntmps69
  go_wp2_with (first
    | (go_at_call 96; refine (sExOk_any r.f3 A c _ hcE (HW.out ▸ HL.out)).mono ?_; rintro e w2 ⟨rfl, hb⟩; rw [← HW.out] at hb; rw [E4.out]; have q7 := pw_cell_below hb ((blk_cell BX.out 7).trans rfl); have q8 := pw_cell_below hb ((blk_cell BX.out 8).trans rfl); have q9 := pw_cell_below hb ((blk_cell BX.out 9).trans rfl); have q10 := pw_cell_below hb ((blk_cell BX.out 10).trans rfl); have q11 := pw_cell_below hb ((blk_cell BX.out 11).trans rfl); have HB2 := Aside0.mk (below_then HX.out HX.out.size hb); clear hb)
    | (go_at_call 71; refine (sMode_any r.f2 _).mono ?_; rintro e w2 ⟨rfl, he⟩; subst he; rw [E3.out])
    | (go_at_call 95; refine (sName_any r.f0 _ hn).mono ?_; rintro e w2 ⟨rfl, he⟩; subst he; rw [E0.out]))
  go_ret
  exact ⟨by rw [HE.out]; rfl, HB2.out⟩
 by_cases h6 : r.f4 ≤ r.f5
 rotate_left
 ·have e0 : nameB r.f0 = true := h0
  have E0 := Aside0.mk e0
  clear e0
  have e1 : decide (r.f1 ≥ 0) = true := decide_eq_true h1
  have e2 : decide (r.f1 ≤ 9) = true := decide_eq_true h2
  have e3 : inb r.f2 0 4 = true := h3
  have E3 := Aside0.mk e3
  clear e3
  have e4 : okE r.f3 = true := h4
  have E4 := Aside0.mk e4
  clear e4
  have e5 : decide (r.f4 ≥ 0) = true := decide_eq_true h5
  have e6 : decide (r.f4 ≤ r.f5) = false := decide_eq_false h6
  have HE : Aside0 (ruleB r = false) := ⟨ruleB_n3 (by unfold ruleP; omega)⟩
  clear h0 h1 h2 h3 h4 h5 h6
  go_enter Tryz.func69, Tryz.ntmps69
  go_wp2_with (first
    | (go_at_call 96; refine (sExOk_any r.f3 A c _ hcE (HW.out ▸ HL.out)).mono ?_; rintro e w2 ⟨rfl, hb⟩; rw [← HW.out] at hb; rw [E4.out]; have q7 := pw_cell_below hb ((blk_cell BX.out 7).trans rfl); have q8 := pw_cell_below hb ((blk_cell BX.out 8).trans rfl); have q9 := pw_cell_below hb ((blk_cell BX.out 9).trans rfl); have q10 := pw_cell_below hb ((blk_cell BX.out 10).trans rfl); have q11 := pw_cell_below hb ((blk_cell BX.out 11).trans rfl); have HB2 := Aside0.mk (below_then HX.out HX.out.size hb); clear hb)
    | (go_at_call 71; refine (sMode_any r.f2 _).mono ?_; rintro e w2 ⟨rfl, he⟩; subst he; rw [E3.out])
    | (go_at_call 95; refine (sName_any r.f0 _ hn).mono ?_; rintro e w2 ⟨rfl, he⟩; subst he; rw [E0.out]))
  go_ret
  exact ⟨by rw [HE.out]; rfl, HB2.out⟩
 by_cases h7 : r.f5 ≤ 100
 rotate_left
 ·have e0 : nameB r.f0 = true := h0
  have E0 := Aside0.mk e0
  clear e0
  have e1 : decide (r.f1 ≥ 0) = true := decide_eq_true h1
  have e2 : decide (r.f1 ≤ 9) = true := decide_eq_true h2
  have e3 : inb r.f2 0 4 = true := h3
  have E3 := Aside0.mk e3
  clear e3
  have e4 : okE r.f3 = true := h4
  have E4 := Aside0.mk e4
  clear e4
  have e5 : decide (r.f4 ≥ 0) = true := decide_eq_true h5
  have e6 : decide (r.f4 ≤ r.f5) = true := decide_eq_true h6
  have e7 : decide (r.f5 ≤ 100) = false := decide_eq_false h7
  have HE : Aside0 (ruleB r = false) := ⟨ruleB_n3 (by unfold ruleP; omega)⟩
  clear h0 h1 h2 h3 h4 h5 h6 h7
  go_enter Tryz.func69, Tryz.ntmps69
  go_wp2_with (first
    | (go_at_call 96; refine (sExOk_any r.f3 A c _ hcE (HW.out ▸ HL.out)).mono ?_; rintro e w2 ⟨rfl, hb⟩; rw [← HW.out] at hb; rw [E4.out]; have q7 := pw_cell_below hb ((blk_cell BX.out 7).trans rfl); have q8 := pw_cell_below hb ((blk_cell BX.out 8).trans rfl); have q9 := pw_cell_below hb ((blk_cell BX.out 9).trans rfl); have q10 := pw_cell_below hb ((blk_cell BX.out 10).trans rfl); have q11 := pw_cell_below hb ((blk_cell BX.out 11).trans rfl); have HB2 := Aside0.mk (below_then HX.out HX.out.size hb); clear hb)
    | (go_at_call 71; refine (sMode_any r.f2 _).mono ?_; rintro e w2 ⟨rfl, he⟩; subst he; rw [E3.out])
    | (go_at_call 95; refine (sName_any r.f0 _ hn).mono ?_; rintro e w2 ⟨rfl, he⟩; subst he; rw [E0.out]))
  go_ret
  exact ⟨by rw [HE.out]; rfl, HB2.out⟩
 by_cases h8 : 0 ≤ r.f6
 rotate_left
 ·have e0 : nameB r.f0 = true := h0
  have E0 := Aside0.mk e0
  clear e0
  have e1 : decide (r.f1 ≥ 0) = true := decide_eq_true h1
  have e2 : decide (r.f1 ≤ 9) = true := decide_eq_true h2
  have e3 : inb r.f2 0 4 = true := h3
  have E3 := Aside0.mk e3
  clear e3
  have e4 : okE r.f3 = true := h4
  have E4 := Aside0.mk e4
  clear e4
  have e5 : decide (r.f4 ≥ 0) = true := decide_eq_true h5
  have e6 : decide (r.f4 ≤ r.f5) = true := decide_eq_true h6
  have e7 : decide (r.f5 ≤ 100) = true := decide_eq_true h7
  have e8 : decide (r.f6 ≥ 0) = false := decide_eq_false h8
  have HE : Aside0 (ruleB r = false) := ⟨ruleB_n3 (by unfold ruleP; omega)⟩
  clear h0 h1 h2 h3 h4 h5 h6 h7 h8
  go_enter Tryz.func69, Tryz.ntmps69
  go_wp2_with (first
    | (go_at_call 96; refine (sExOk_any r.f3 A c _ hcE (HW.out ▸ HL.out)).mono ?_; rintro e w2 ⟨rfl, hb⟩; rw [← HW.out] at hb; rw [E4.out]; have q7 := pw_cell_below hb ((blk_cell BX.out 7).trans rfl); have q8 := pw_cell_below hb ((blk_cell BX.out 8).trans rfl); have q9 := pw_cell_below hb ((blk_cell BX.out 9).trans rfl); have q10 := pw_cell_below hb ((blk_cell BX.out 10).trans rfl); have q11 := pw_cell_below hb ((blk_cell BX.out 11).trans rfl); have HB2 := Aside0.mk (below_then HX.out HX.out.size hb); clear hb)
    | (go_at_call 71; refine (sMode_any r.f2 _).mono ?_; rintro e w2 ⟨rfl, he⟩; subst he; rw [E3.out])
    | (go_at_call 95; refine (sName_any r.f0 _ hn).mono ?_; rintro e w2 ⟨rfl, he⟩; subst he; rw [E0.out]))
  go_ret
  exact ⟨by rw [HE.out]; rfl, HB2.out⟩
 by_cases h9 : r.f6 < 4
 rotate_left
 ·have e0 : nameB r.f0 = true := h0
  have E0 := Aside0.mk e0
  clear e0
  have e1 : decide (r.f1 ≥ 0) = true := decide_eq_true h1
  have e2 : decide (r.f1 ≤ 9) = true := decide_eq_true h2
  have e3 : inb r.f2 0 4 = true := h3
  have E3 := Aside0.mk e3
  clear e3
  have e4 : okE r.f3 = true := h4
  have E4 := Aside0.mk e4
  clear e4
  have e5 : decide (r.f4 ≥ 0) = true := decide_eq_true h5
  have e6 : decide (r.f4 ≤ r.f5) = true := decide_eq_true h6
  have e7 : decide (r.f5 ≤ 100) = true := decide_eq_true h7
  have e8 : decide (r.f6 ≥ 0) = true := decide_eq_true h8
  have e9 : decide (r.f6 < 4) = false := decide_eq_false h9
  have HE : Aside0 (ruleB r = false) := ⟨ruleB_n3 (by unfold ruleP; omega)⟩
  clear h0 h1 h2 h3 h4 h5 h6 h7 h8 h9
  go_enter Tryz.func69, Tryz.ntmps69
  go_wp2_with (first
    | (go_at_call 96; refine (sExOk_any r.f3 A c _ hcE (HW.out ▸ HL.out)).mono ?_; rintro e w2 ⟨rfl, hb⟩; rw [← HW.out] at hb; rw [E4.out]; have q7 := pw_cell_below hb ((blk_cell BX.out 7).trans rfl); have q8 := pw_cell_below hb ((blk_cell BX.out 8).trans rfl); have q9 := pw_cell_below hb ((blk_cell BX.out 9).trans rfl); have q10 := pw_cell_below hb ((blk_cell BX.out 10).trans rfl); have q11 := pw_cell_below hb ((blk_cell BX.out 11).trans rfl); have HB2 := Aside0.mk (below_then HX.out HX.out.size hb); clear hb)
    | (go_at_call 71; refine (sMode_any r.f2 _).mono ?_; rintro e w2 ⟨rfl, he⟩; subst he; rw [E3.out])
    | (go_at_call 95; refine (sName_any r.f0 _ hn).mono ?_; rintro e w2 ⟨rfl, he⟩; subst he; rw [E0.out]))
  go_ret
  exact ⟨by rw [HE.out]; rfl, HB2.out⟩
 by_cases h10 : -9 ≤ r.f7
 rotate_left
 ·have e0 : nameB r.f0 = true := h0
  have E0 := Aside0.mk e0
  clear e0
  have e1 : decide (r.f1 ≥ 0) = true := decide_eq_true h1
  have e2 : decide (r.f1 ≤ 9) = true := decide_eq_true h2
  have e3 : inb r.f2 0 4 = true := h3
  have E3 := Aside0.mk e3
  clear e3
  have e4 : okE r.f3 = true := h4
  have E4 := Aside0.mk e4
  clear e4
  have e5 : decide (r.f4 ≥ 0) = true := decide_eq_true h5
  have e6 : decide (r.f4 ≤ r.f5) = true := decide_eq_true h6
  have e7 : decide (r.f5 ≤ 100) = true := decide_eq_true h7
  have e8 : decide (r.f6 ≥ 0) = true := decide_eq_true h8
  have e9 : decide (r.f6 < 4) = true := decide_eq_true h9
  have e10 : decide (r.f7 ≥ -9) = false := decide_eq_false h10
  have HE : Aside0 (ruleB r = false) := ⟨ruleB_n3 (by unfold ruleP; omega)⟩
  clear h0 h1 h2 h3 h4 h5 h6 h7 h8 h9 h10
  go_enter Tryz.func69, Tryz.ntmps69
  go_wp2_with (first
    | (go_at_call 96; refine (sExOk_any r.f3 A c _ hcE (HW.out ▸ HL.out)).mono ?_; rintro e w2 ⟨rfl, hb⟩; rw [← HW.out] at hb; rw [E4.out]; have q7 := pw_cell_below hb ((blk_cell BX.out 7).trans rfl); have q8 := pw_cell_below hb ((blk_cell BX.out 8).trans rfl); have q9 := pw_cell_below hb ((blk_cell BX.out 9).trans rfl); have q10 := pw_cell_below hb ((blk_cell BX.out 10).trans rfl); have q11 := pw_cell_below hb ((blk_cell BX.out 11).trans rfl); have HB2 := Aside0.mk (below_then HX.out HX.out.size hb); clear hb)
    | (go_at_call 71; refine (sMode_any r.f2 _).mono ?_; rintro e w2 ⟨rfl, he⟩; subst he; rw [E3.out])
    | (go_at_call 95; refine (sName_any r.f0 _ hn).mono ?_; rintro e w2 ⟨rfl, he⟩; subst he; rw [E0.out]))
  go_ret
  exact ⟨by rw [HE.out]; rfl, HB2.out⟩
 by_cases h11 : r.f7 ≤ 9
 rotate_left
 ·have e0 : nameB r.f0 = true := h0
  have E0 := Aside0.mk e0
  clear e0
  have e1 : decide (r.f1 ≥ 0) = true := decide_eq_true h1
  have e2 : decide (r.f1 ≤ 9) = true := decide_eq_true h2
  have e3 : inb r.f2 0 4 = true := h3
  have E3 := Aside0.mk e3
  clear e3
  have e4 : okE r.f3 = true := h4
  have E4 := Aside0.mk e4
  clear e4
  have e5 : decide (r.f4 ≥ 0) = true := decide_eq_true h5
  have e6 : decide (r.f4 ≤ r.f5) = true := decide_eq_true h6
  have e7 : decide (r.f5 ≤ 100) = true := decide_eq_true h7
  have e8 : decide (r.f6 ≥ 0) = true := decide_eq_true h8
  have e9 : decide (r.f6 < 4) = true := decide_eq_true h9
  have e10 : decide (r.f7 ≥ -9) = true := decide_eq_true h10
  have e11 : decide (r.f7 ≤ 9) = false := decide_eq_false h11
  have HE : Aside0 (ruleB r = false) := ⟨ruleB_n3 (by unfold ruleP; omega)⟩
  clear h0 h1 h2 h3 h4 h5 h6 h7 h8 h9 h10 h11
  go_enter Tryz.func69, Tryz.ntmps69
  go_wp2_with (first
    | (go_at_call 96; refine (sExOk_any r.f3 A c _ hcE (HW.out ▸ HL.out)).mono ?_; rintro e w2 ⟨rfl, hb⟩; rw [← HW.out] at hb; rw [E4.out]; have q7 := pw_cell_below hb ((blk_cell BX.out 7).trans rfl); have q8 := pw_cell_below hb ((blk_cell BX.out 8).trans rfl); have q9 := pw_cell_below hb ((blk_cell BX.out 9).trans rfl); have q10 := pw_cell_below hb ((blk_cell BX.out 10).trans rfl); have q11 := pw_cell_below hb ((blk_cell BX.out 11).trans rfl); have HB2 := Aside0.mk (below_then HX.out HX.out.size hb); clear hb)
    | (go_at_call 71; refine (sMode_any r.f2 _).mono ?_; rintro e w2 ⟨rfl, he⟩; subst he; rw [E3.out])
    | (go_at_call 95; refine (sName_any r.f0 _ hn).mono ?_; rintro e w2 ⟨rfl, he⟩; subst he; rw [E0.out]))
  go_ret
  exact ⟨by rw [HE.out]; rfl, HB2.out⟩
 by_cases h12 : -1 ≤ r.f8
 rotate_left
 ·have e0 : nameB r.f0 = true := h0
  have E0 := Aside0.mk e0
  clear e0
  have e1 : decide (r.f1 ≥ 0) = true := decide_eq_true h1
  have e2 : decide (r.f1 ≤ 9) = true := decide_eq_true h2
  have e3 : inb r.f2 0 4 = true := h3
  have E3 := Aside0.mk e3
  clear e3
  have e4 : okE r.f3 = true := h4
  have E4 := Aside0.mk e4
  clear e4
  have e5 : decide (r.f4 ≥ 0) = true := decide_eq_true h5
  have e6 : decide (r.f4 ≤ r.f5) = true := decide_eq_true h6
  have e7 : decide (r.f5 ≤ 100) = true := decide_eq_true h7
  have e8 : decide (r.f6 ≥ 0) = true := decide_eq_true h8
  have e9 : decide (r.f6 < 4) = true := decide_eq_true h9
  have e10 : decide (r.f7 ≥ -9) = true := decide_eq_true h10
  have e11 : decide (r.f7 ≤ 9) = true := decide_eq_true h11
  have e12 : decide (r.f8 ≥ -1) = false := decide_eq_false h12
  have HE : Aside0 (ruleB r = false) := ⟨ruleB_n3 (by unfold ruleP; omega)⟩
  clear h0 h1 h2 h3 h4 h5 h6 h7 h8 h9 h10 h11 h12
  go_enter Tryz.func69, Tryz.ntmps69
  go_wp2_with (first
    | (go_at_call 96; refine (sExOk_any r.f3 A c _ hcE (HW.out ▸ HL.out)).mono ?_; rintro e w2 ⟨rfl, hb⟩; rw [← HW.out] at hb; rw [E4.out]; have q7 := pw_cell_below hb ((blk_cell BX.out 7).trans rfl); have q8 := pw_cell_below hb ((blk_cell BX.out 8).trans rfl); have q9 := pw_cell_below hb ((blk_cell BX.out 9).trans rfl); have q10 := pw_cell_below hb ((blk_cell BX.out 10).trans rfl); have q11 := pw_cell_below hb ((blk_cell BX.out 11).trans rfl); have HB2 := Aside0.mk (below_then HX.out HX.out.size hb); clear hb)
    | (go_at_call 71; refine (sMode_any r.f2 _).mono ?_; rintro e w2 ⟨rfl, he⟩; subst he; rw [E3.out])
    | (go_at_call 95; refine (sName_any r.f0 _ hn).mono ?_; rintro e w2 ⟨rfl, he⟩; subst he; rw [E0.out]))
  go_ret
  exact ⟨by rw [HE.out]; rfl, HB2.out⟩
 by_cases h13 : r.f8 < 5
 rotate_left
 ·have e0 : nameB r.f0 = true := h0
  have E0 := Aside0.mk e0
  clear e0
  have e1 : decide (r.f1 ≥ 0) = true := decide_eq_true h1
  have e2 : decide (r.f1 ≤ 9) = true := decide_eq_true h2
  have e3 : inb r.f2 0 4 = true := h3
  have E3 := Aside0.mk e3
  clear e3
  have e4 : okE r.f3 = true := h4
  have E4 := Aside0.mk e4
  clear e4
  have e5 : decide (r.f4 ≥ 0) = true := decide_eq_true h5
  have e6 : decide (r.f4 ≤ r.f5) = true := decide_eq_true h6
  have e7 : decide (r.f5 ≤ 100) = true := decide_eq_true h7
  have e8 : decide (r.f6 ≥ 0) = true := decide_eq_true h8
  have e9 : decide (r.f6 < 4) = true := decide_eq_true h9
  have e10 : decide (r.f7 ≥ -9) = true := decide_eq_true h10
  have e11 : decide (r.f7 ≤ 9) = true := decide_eq_true h11
  have e12 : decide (r.f8 ≥ -1) = true := decide_eq_true h12
  have e13 : decide (r.f8 < 5) = false := decide_eq_false h13
  have HE : Aside0 (ruleB r = false) := ⟨ruleB_n3 (by unfold ruleP; omega)⟩
  clear h0 h1 h2 h3 h4 h5 h6 h7 h8 h9 h10 h11 h12 h13
  go_enter Tryz.func69, Tryz.ntmps69
  go_wp2_with (first
    | (go_at_call 96; refine (sExOk_any r.f3 A c _ hcE (HW.out ▸ HL.out)).mono ?_; rintro e w2 ⟨rfl, hb⟩; rw [← HW.out] at hb; rw [E4.out]; have q7 := pw_cell_below hb ((blk_cell BX.out 7).trans rfl); have q8 := pw_cell_below hb ((blk_cell BX.out 8).trans rfl); have q9 := pw_cell_below hb ((blk_cell BX.out 9).trans rfl); have q10 := pw_cell_below hb ((blk_cell BX.out 10).trans rfl); have q11 := pw_cell_below hb ((blk_cell BX.out 11).trans rfl); have HB2 := Aside0.mk (below_then HX.out HX.out.size hb); clear hb)
    | (go_at_call 71; refine (sMode_any r.f2 _).mono ?_; rintro e w2 ⟨rfl, he⟩; subst he; rw [E3.out])
    | (go_at_call 95; refine (sName_any r.f0 _ hn).mono ?_; rintro e w2 ⟨rfl, he⟩; subst he; rw [E0.out]))
  go_ret
  exact ⟨by rw [HE.out]; rfl, HB2.out⟩
 have e0 : nameB r.f0 = true := h0
 have E0 := Aside0.mk e0
 clear e0
 have e1 : decide (r.f1 ≥ 0) = true := decide_eq_true h1
 have e2 : decide (r.f1 ≤ 9) = true := decide_eq_true h2
 have e3 : inb r.f2 0 4 = true := h3
 have E3 := Aside0.mk e3
 clear e3
 have e4 : okE r.f3 = true := h4
 have E4 := Aside0.mk e4
 clear e4
 have e5 : decide (r.f4 ≥ 0) = true := decide_eq_true h5
 have e6 : decide (r.f4 ≤ r.f5) = true := decide_eq_true h6
 have e7 : decide (r.f5 ≤ 100) = true := decide_eq_true h7
 have e8 : decide (r.f6 ≥ 0) = true := decide_eq_true h8
 have e9 : decide (r.f6 < 4) = true := decide_eq_true h9
 have e10 : decide (r.f7 ≥ -9) = true := decide_eq_true h10
 have e11 : decide (r.f7 ≤ 9) = true := decide_eq_true h11
 have e12 : decide (r.f8 ≥ -1) = true := decide_eq_true h12
 have e13 : decide (r.f8 < 5) = true := decide_eq_true h13
 have HE : Aside0 (ruleB r = true) := ⟨ruleB_of h0 h3 h4 (by unfold ruleP; omega)⟩
 clear h0 h1 h2 h3 h4 h5 h6 h7 h8 h9 h10 h11 h12 h13
 go_enter Tryz.func69, Tryz.ntmps69
 go_wp2_with (first
   | (go_at_call 96; refine (sExOk_any r.f3 A c _ hcE (HW.out ▸ HL.out)).mono ?_; rintro e w2 ⟨rfl, hb⟩; rw [← HW.out] at hb; rw [E4.out]; have q7 := pw_cell_below hb ((blk_cell BX.out 7).trans rfl); have q8 := pw_cell_below hb ((blk_cell BX.out 8).trans rfl); have q9 := pw_cell_below hb ((blk_cell BX.out 9).trans rfl); have q10 := pw_cell_below hb ((blk_cell BX.out 10).trans rfl); have q11 := pw_cell_below hb ((blk_cell BX.out 11).trans rfl); have HB2 := Aside0.mk (below_then HX.out HX.out.size hb); clear hb)
   | (go_at_call 71; refine (sMode_any r.f2 _).mono ?_; rintro e w2 ⟨rfl, he⟩; subst he; rw [E3.out])
   | (go_at_call 95; refine (sName_any r.f0 _ hn).mono ?_; rintro e w2 ⟨rfl, he⟩; subst he; rw [E0.out]))
 go_ret
 exact ⟨by rw [HE.out]; rfl, HB2.out⟩
end Go.Proofs.YtckblabkapeigaaGreat.Ec8
