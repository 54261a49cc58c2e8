
/- Is a rule valid: both sides. -/
import Derived.Test.YtckblabkapeigaaGreatNEa8
import Derived.Test.YtckblabkapeigaaGreatNKa
import Derived.Test.YtckblabkapeigaaGreatNJi
import Derived.Test.YtckblabkapeigaaGreatNJj
set_option linter.unusedVariables false
set_option linter.unusedSimpArgs false
namespace Go.Proofs.YtckblabkapeigaaGreat.Eb8
open Go.RowKit Go.Proofs.YtckblabkapeigaaGreatW.PrintWords Go.Proofs.YtckblabkapeigaaGreat.Ja Go.Proofs.YtckblabkapeigaaGreat.Jb Go.Proofs.YtckblabkapeigaaGreat.Jc Go.Proofs.YtckblabkapeigaaGreat.Jg Go.Proofs.YtckblabkapeigaaGreat.Jh Go.Proofs.YtckblabkapeigaaGreat.Ji Go.Proofs.YtckblabkapeigaaGreat.Jj Go.Proofs.YtckblabkapeigaaGreat.Ka Go.Proofs.YtckblabkapeigaaGreat.Ea8

def ruleP (r : TRule) : Prop := 0 ≤ r.f1 ∧ r.f1 ≤ 9 ∧ 0 ≤ r.f4 ∧ r.f4 ≤ r.f5 ∧ r.f5 ≤ 100 ∧ 0 ≤ r.f6 ∧ r.f6 ≤ 3 ∧ -9 ≤ r.f7 ∧ r.f7 ≤ 9 ∧ -1 ≤ r.f8 ∧ r.f8 ≤ 4
instance (r : TRule) : Decidable (ruleP r) := by unfold ruleP; infer_instance
def ruleB (r : TRule) : Bool := nameB r.f0 && (inb r.f2 0 4 && (okE r.f3 && decide (ruleP r)))
theorem ruleB_of {r : TRule} (h0 : nameB r.f0 = true) (h1 : inb r.f2 0 4 = true) (h2 : okE r.f3 = true) (h3 : ruleP r) : ruleB r = true := by unfold ruleB; rw [h0, h1, h2, decide_eq_true h3]; rfl
theorem ruleB_n0 {r : TRule} (h0 : nameB r.f0 = false) : ruleB r = false := by unfold ruleB; rw [h0]; rfl
theorem ruleB_n1 {r : TRule} (h0 : inb r.f2 0 4 = false) : ruleB r = false := by unfold ruleB; rw [h0]; simp
theorem ruleB_n2 {r : TRule} (h0 : okE r.f3 = false) : ruleB r = false := by unfold ruleB; rw [h0]; simp
theorem ruleB_n3 {r : TRule} (h0 : ¬ ruleP r) : ruleB r = false := by unfold ruleB; rw [decide_eq_false h0]; simp
theorem inb_t {n a b : Int} (h : a ≤ n ∧ n ≤ b) : inb n a b = true := by unfold inb; rw [decide_eq_true h.1, decide_eq_true h.2]; rfl
theorem inb_f {n a b : Int} (h : ¬ (a ≤ n ∧ n ≤ b)) : inb n a b = false := by
 unfold inb
 by_cases h1 : a ≤ n
 ·rw [decide_eq_false (fun h2 => h ⟨h1, h2⟩)]; simp
 ·rw [decide_eq_false h1]; rfl
set_option maxHeartbeats 8000000 in
set_option maxRecDepth 100000 in
theorem ruleOk_any (r : TRule) (A : Option Addr) (c : Nat) (w : World) (hn : r.f0.size ≤ 9223372036854775807) (hcE : cntL r.f3.f3 ≤ 1048576) (hL : IsEL 50 w r.f3.f3 A c) :
  Calls Tryz.prog 77 #[.agg #[.string r.f0, .int .i64 r.f1, .int .i64 r.f2, .int .i64 r.f3.f0, .int .i64 r.f3.f1, .int .i64 r.f3.f2, .slice A r.f3.f3.length c, .int .i64 r.f4, .int .i64 r.f5, .int .i64 r.f6, .int .i64 r.f7, .int .i64 r.f8]] w fun e w' => e = .returned (.bool (ruleB r)) ∧ Below w.heap.size w w' := by
 have hb0 := below_alloc (Below.refl w.heap.size w) (.cells #[.string r.f0, .int .i64 r.f1, .int .i64 r.f2, .int .i64 r.f3.f0, .int .i64 r.f3.f1, .int .i64 r.f3.f2, .slice A r.f3.f3.length c, .int .i64 r.f4, .int .i64 r.f5, .int .i64 r.f6, .int .i64 r.f7, .int .i64 r.f8] 52)
 have bX := blk_new w (.cells #[.string r.f0, .int .i64 r.f1, .int .i64 r.f2, .int .i64 r.f3.f0, .int .i64 r.f3.f1, .int .i64 r.f3.f2, .slice A r.f3.f3.length c, .int .i64 r.f4, .int .i64 r.f5, .int .i64 r.f6, .int .i64 r.f7, .int .i64 r.f8] 52)
 obtain ⟨W, hW⟩ : ∃ W, W = w.alloc (.cells #[.string r.f0, .int .i64 r.f1, .int .i64 r.f2, .int .i64 r.f3.f0, .int .i64 r.f3.f1, .int .i64 r.f3.f2, .slice A r.f3.f3.length c, .int .i64 r.f4, .int .i64 r.f5, .int .i64 r.f6, .int .i64 r.f7, .int .i64 r.f8] 52) := ⟨_, rfl⟩
 rw [← hW] at hb0 bX
 have HW := Aside0.mk hW
 have HX := Aside0.mk hb0
 have HL := Aside0.mk (hL.below hb0)
 have BX := Aside0.mk bX
 clear hW hb0 hL bX
 by_cases h0 : nameB r.f0 = true
 rotate_left
 ·have e0 : nameB r.f0 = false := by simpa using h0
  have E0 := Aside0.mk e0
  clear e0
  have HE : Aside0 (ruleB r = false) := ⟨ruleB_n0 (by simpa using h0)⟩
  clear h0
  go_enter Tryz.func77, Tryz.ntmps77
  go_upto_region 1 with fail
  rw [← HW.out]
  have p0 := (blk_cell BX.out 0).trans rfl
  have p1 := (blk_cell BX.out 1).trans rfl
  have p2 := (blk_cell BX.out 2).trans rfl
  have p3 := (blk_cell BX.out 3).trans rfl
  have p4 := (blk_cell BX.out 4).trans rfl
  have p5 := (blk_cell BX.out 5).trans rfl
  have p6 := (blk_cell BX.out 6).trans rfl
  have p7 := (blk_cell BX.out 7).trans rfl
  have p8 := (blk_cell BX.out 8).trans rfl
  have p9 := (blk_cell BX.out 9).trans rfl
  have p10 := (blk_cell BX.out 10).trans rfl
  have p11 := (blk_cell BX.out 11).trans rfl
  go_wp2_with (first
    | (go_at_call 103; refine (isName_any r.f0 _ hn).mono ?_; rintro e w2 ⟨rfl, he⟩; subst he; rw [E0.out]))
  go_ret
  exact ⟨by rw [HE.out]; rfl, HX.out⟩
 by_cases h1 : 0 ≤ r.f1 ∧ r.f1 ≤ 9
 rotate_left
 ·have e0 : nameB r.f0 = true := h0
  have E0 := Aside0.mk e0
  clear e0
  have e1 : inb r.f1 (0) (9) = false := inb_f h1
  have HE : Aside0 (ruleB r = false) := ⟨ruleB_n3 (by unfold ruleP; omega)⟩
  clear h0 h1
  go_enter Tryz.func77, Tryz.ntmps77
  go_upto_region 1 with fail
  rw [← HW.out]
  have p0 := (blk_cell BX.out 0).trans rfl
  have p1 := (blk_cell BX.out 1).trans rfl
  have p2 := (blk_cell BX.out 2).trans rfl
  have p3 := (blk_cell BX.out 3).trans rfl
  have p4 := (blk_cell BX.out 4).trans rfl
  have p5 := (blk_cell BX.out 5).trans rfl
  have p6 := (blk_cell BX.out 6).trans rfl
  have p7 := (blk_cell BX.out 7).trans rfl
  have p8 := (blk_cell BX.out 8).trans rfl
  have p9 := (blk_cell BX.out 9).trans rfl
  have p10 := (blk_cell BX.out 10).trans rfl
  have p11 := (blk_cell BX.out 11).trans rfl
  go_wp2_with (first
    | (go_at_call 54; refine (in_any _ _ _ _).mono ?_; rintro e w2 ⟨rfl, he⟩; subst he)
    | (go_at_call 103; refine (isName_any r.f0 _ hn).mono ?_; rintro e w2 ⟨rfl, he⟩; subst he; rw [E0.out]))
  go_ret
  exact ⟨by rw [HE.out]; rfl, HX.out⟩
 by_cases h2 : inb r.f2 0 4 = true
 rotate_left
 ·have e0 : nameB r.f0 = true := h0
  have E0 := Aside0.mk e0
  clear e0
  have e1 : inb r.f1 (0) (9) = true := inb_t h1
  have e2 : inb r.f2 0 4 = false := by simpa using h2
  have E2 := Aside0.mk e2
  clear e2
  have HE : Aside0 (ruleB r = false) := ⟨ruleB_n1 (by simpa using h2)⟩
  clear h0 h1 h2
  go_enter Tryz.func77, Tryz.ntmps77
  go_upto_region 1 with fail
  rw [← HW.out]
  have p0 := (blk_cell BX.out 0).trans rfl
  have p1 := (blk_cell BX.out 1).trans rfl
  have p2 := (blk_cell BX.out 2).trans rfl
  have p3 := (blk_cell BX.out 3).trans rfl
  have p4 := (blk_cell BX.out 4).trans rfl
  have p5 := (blk_cell BX.out 5).trans rfl
  have p6 := (blk_cell BX.out 6).trans rfl
  have p7 := (blk_cell BX.out 7).trans rfl
  have p8 := (blk_cell BX.out 8).trans rfl
  have p9 := (blk_cell BX.out 9).trans rfl
  have p10 := (blk_cell BX.out 10).trans rfl
  have p11 := (blk_cell BX.out 11).trans rfl
  go_wp2_with (first
    | (go_at_call 104; refine (isMode_any r.f2 _).mono ?_; rintro e w2 ⟨rfl, he⟩; subst he; rw [E2.out])
    | (go_at_call 54; refine (in_any _ _ _ _).mono ?_; rintro e w2 ⟨rfl, he⟩; subst he)
    | (go_at_call 103; refine (isName_any r.f0 _ hn).mono ?_; rintro e w2 ⟨rfl, he⟩; subst he; rw [E0.out]))
  go_ret
  exact ⟨by rw [HE.out]; rfl, HX.out⟩
 by_cases h3 : okE r.f3 = true
 rotate_left
 ·have e0 : nameB r.f0 = true := h0
  have E0 := Aside0.mk e0
  clear e0
  have e1 : inb r.f1 (0) (9) = true := inb_t h1
  have e2 : inb r.f2 0 4 = true := h2
  have E2 := Aside0.mk e2
  clear e2
  have e3 : okE r.f3 = false := by simpa using h3
  have E3 := Aside0.mk e3
  clear e3
  have HE : Aside0 (ruleB r = false) := ⟨ruleB_n2 (by simpa using h3)⟩
  clear h0 h1 h2 h3
  go_enter Tryz.func77, Tryz.ntmps77
  go_upto_region 1 with fail
  rw [← HW.out]
  have p0 := (blk_cell BX.out 0).trans rfl
  have p1 := (blk_cell BX.out 1).trans rfl
  have p2 := (blk_cell BX.out 2).trans rfl
  have p3 := (blk_cell BX.out 3).trans rfl
  have p4 := (blk_cell BX.out 4).trans rfl
  have p5 := (blk_cell BX.out 5).trans rfl
  have p6 := (blk_cell BX.out 6).trans rfl
  have p7 := (blk_cell BX.out 7).trans rfl
  have p8 := (blk_cell BX.out 8).trans rfl
  have p9 := (blk_cell BX.out 9).trans rfl
  have p10 := (blk_cell BX.out 10).trans rfl
  have p11 := (blk_cell BX.out 11).trans rfl
  go_wp2_with (first
    | (go_at_call 105; refine (exOk_any r.f3 A c _ hcE HL.out).mono ?_; rintro e w2 ⟨rfl, hb⟩; rw [E3.out]; have q7 := pw_cell_below hb ((blk_cell BX.out 7).trans rfl); have q8 := pw_cell_below hb ((blk_cell BX.out 8).trans rfl); have q9 := pw_cell_below hb ((blk_cell BX.out 9).trans rfl); have q10 := pw_cell_below hb ((blk_cell BX.out 10).trans rfl); have q11 := pw_cell_below hb ((blk_cell BX.out 11).trans rfl); have HB2 := Aside0.mk (below_then HX.out HX.out.size hb); clear hb)
    | (go_at_call 104; refine (isMode_any r.f2 _).mono ?_; rintro e w2 ⟨rfl, he⟩; subst he; rw [E2.out])
    | (go_at_call 54; refine (in_any _ _ _ _).mono ?_; rintro e w2 ⟨rfl, he⟩; subst he)
    | (go_at_call 103; refine (isName_any r.f0 _ hn).mono ?_; rintro e w2 ⟨rfl, he⟩; subst he; rw [E0.out]))
  go_ret
  exact ⟨by rw [HE.out]; rfl, HB2.out⟩
 by_cases h4 : 0 ≤ r.f4 ∧ r.f4 ≤ r.f5
 rotate_left
 ·have e0 : nameB r.f0 = true := h0
  have E0 := Aside0.mk e0
  clear e0
  have e1 : inb r.f1 (0) (9) = true := inb_t h1
  have e2 : inb r.f2 0 4 = true := h2
  have E2 := Aside0.mk e2
  clear e2
  have e3 : okE r.f3 = true := h3
  have E3 := Aside0.mk e3
  clear e3
  have e4 : inb r.f4 (0) r.f5 = false := inb_f h4
  have HE : Aside0 (ruleB r = false) := ⟨ruleB_n3 (by unfold ruleP; omega)⟩
  clear h0 h1 h2 h3 h4
  go_enter Tryz.func77, Tryz.ntmps77
  go_upto_region 1 with fail
  rw [← HW.out]
  have p0 := (blk_cell BX.out 0).trans rfl
  have p1 := (blk_cell BX.out 1).trans rfl
  have p2 := (blk_cell BX.out 2).trans rfl
  have p3 := (blk_cell BX.out 3).trans rfl
  have p4 := (blk_cell BX.out 4).trans rfl
  have p5 := (blk_cell BX.out 5).trans rfl
  have p6 := (blk_cell BX.out 6).trans rfl
  have p7 := (blk_cell BX.out 7).trans rfl
  have p8 := (blk_cell BX.out 8).trans rfl
  have p9 := (blk_cell BX.out 9).trans rfl
  have p10 := (blk_cell BX.out 10).trans rfl
  have p11 := (blk_cell BX.out 11).trans rfl
  go_wp2_with (first
    | (go_at_call 105; refine (exOk_any r.f3 A c _ hcE HL.out).mono ?_; rintro e w2 ⟨rfl, hb⟩; rw [E3.out]; have q7 := pw_cell_below hb ((blk_cell BX.out 7).trans rfl); have q8 := pw_cell_below hb ((blk_cell BX.out 8).trans rfl); have q9 := pw_cell_below hb ((blk_cell BX.out 9).trans rfl); have q10 := pw_cell_below hb ((blk_cell BX.out 10).trans rfl); have q11 := pw_cell_below hb ((blk_cell BX.out 11).trans rfl); have HB2 := Aside0.mk (below_then HX.out HX.out.size hb); clear hb)
    | (go_at_call 104; refine (isMode_any r.f2 _).mono ?_; rintro e w2 ⟨rfl, he⟩; subst he; rw [E2.out])
    | (go_at_call 54; refine (in_any _ _ _ _).mono ?_; rintro e w2 ⟨rfl, he⟩; subst he)
    | (go_at_call 103; refine (isName_any r.f0 _ hn).mono ?_; rintro e w2 ⟨rfl, he⟩; subst he; rw [E0.out]))
  go_ret
  exact ⟨by rw [HE.out]; rfl, HB2.out⟩
 by_cases h5 : r.f5 ≤ 100
 rotate_left
 ·have e0 : nameB r.f0 = true := h0
  have E0 := Aside0.mk e0
  clear e0
  have e1 : inb r.f1 (0) (9) = true := inb_t h1
  have e2 : inb r.f2 0 4 = true := h2
  have E2 := Aside0.mk e2
  clear e2
  have e3 : okE r.f3 = true := h3
  have E3 := Aside0.mk e3
  clear e3
  have e4 : inb r.f4 (0) r.f5 = true := inb_t h4
  have e5 : decide (r.f5 ≤ 100) = false := decide_eq_false h5
  have HE : Aside0 (ruleB r = false) := ⟨ruleB_n3 (by unfold ruleP; omega)⟩
  clear h0 h1 h2 h3 h4 h5
  go_enter Tryz.func77, Tryz.ntmps77
  go_upto_region 1 with fail
  rw [← HW.out]
  have p0 := (blk_cell BX.out 0).trans rfl
  have p1 := (blk_cell BX.out 1).trans rfl
  have p2 := (blk_cell BX.out 2).trans rfl
  have p3 := (blk_cell BX.out 3).trans rfl
  have p4 := (blk_cell BX.out 4).trans rfl
  have p5 := (blk_cell BX.out 5).trans rfl
  have p6 := (blk_cell BX.out 6).trans rfl
  have p7 := (blk_cell BX.out 7).trans rfl
  have p8 := (blk_cell BX.out 8).trans rfl
  have p9 := (blk_cell BX.out 9).trans rfl
  have p10 := (blk_cell BX.out 10).trans rfl
  have p11 := (blk_cell BX.out 11).trans rfl
  go_wp2_with (first
    | (go_at_call 105; refine (exOk_any r.f3 A c _ hcE HL.out).mono ?_; rintro e w2 ⟨rfl, hb⟩; rw [E3.out]; have q7 := pw_cell_below hb ((blk_cell BX.out 7).trans rfl); have q8 := pw_cell_below hb ((blk_cell BX.out 8).trans rfl); have q9 := pw_cell_below hb ((blk_cell BX.out 9).trans rfl); have q10 := pw_cell_below hb ((blk_cell BX.out 10).trans rfl); have q11 := pw_cell_below hb ((blk_cell BX.out 11).trans rfl); have HB2 := Aside0.mk (below_then HX.out HX.out.size hb); clear hb)
    | (go_at_call 104; refine (isMode_any r.f2 _).mono ?_; rintro e w2 ⟨rfl, he⟩; subst he; rw [E2.out])
    | (go_at_call 54; refine (in_any _ _ _ _).mono ?_; rintro e w2 ⟨rfl, he⟩; subst he)
    | (go_at_call 103; refine (isName_any r.f0 _ hn).mono ?_; rintro e w2 ⟨rfl, he⟩; subst he; rw [E0.out]))
  go_ret
  exact ⟨by rw [HE.out]; rfl, HB2.out⟩
 by_cases h6 : 0 ≤ r.f6 ∧ r.f6 ≤ 3
 rotate_left
 ·have e0 : nameB r.f0 = true := h0
  have E0 := Aside0.mk e0
  clear e0
  have e1 : inb r.f1 (0) (9) = true := inb_t h1
  have e2 : inb r.f2 0 4 = true := h2
  have E2 := Aside0.mk e2
  clear e2
  have e3 : okE r.f3 = true := h3
  have E3 := Aside0.mk e3
  clear e3
  have e4 : inb r.f4 (0) r.f5 = true := inb_t h4
  have e5 : decide (r.f5 ≤ 100) = true := decide_eq_true h5
  have e6 : inb r.f6 (0) (3) = false := inb_f h6
  have HE : Aside0 (ruleB r = false) := ⟨ruleB_n3 (by unfold ruleP; omega)⟩
  clear h0 h1 h2 h3 h4 h5 h6
  go_enter Tryz.func77, Tryz.ntmps77
  go_upto_region 1 with fail
  rw [← HW.out]
  have p0 := (blk_cell BX.out 0).trans rfl
  have p1 := (blk_cell BX.out 1).trans rfl
  have p2 := (blk_cell BX.out 2).trans rfl
  have p3 := (blk_cell BX.out 3).trans rfl
  have p4 := (blk_cell BX.out 4).trans rfl
  have p5 := (blk_cell BX.out 5).trans rfl
  have p6 := (blk_cell BX.out 6).trans rfl
  have p7 := (blk_cell BX.out 7).trans rfl
  have p8 := (blk_cell BX.out 8).trans rfl
  have p9 := (blk_cell BX.out 9).trans rfl
  have p10 := (blk_cell BX.out 10).trans rfl
  have p11 := (blk_cell BX.out 11).trans rfl
  go_wp2_with (first
    | (go_at_call 105; refine (exOk_any r.f3 A c _ hcE HL.out).mono ?_; rintro e w2 ⟨rfl, hb⟩; rw [E3.out]; have q7 := pw_cell_below hb ((blk_cell BX.out 7).trans rfl); have q8 := pw_cell_below hb ((blk_cell BX.out 8).trans rfl); have q9 := pw_cell_below hb ((blk_cell BX.out 9).trans rfl); have q10 := pw_cell_below hb ((blk_cell BX.out 10).trans rfl); have q11 := pw_cell_below hb ((blk_cell BX.out 11).trans rfl); have HB2 := Aside0.mk (below_then HX.out HX.out.size hb); clear hb)
    | (go_at_call 104; refine (isMode_any r.f2 _).mono ?_; rintro e w2 ⟨rfl, he⟩; subst he; rw [E2.out])
    | (go_at_call 54; refine (in_any _ _ _ _).mono ?_; rintro e w2 ⟨rfl, he⟩; subst he)
    | (go_at_call 103; refine (isName_any r.f0 _ hn).mono ?_; rintro e w2 ⟨rfl, he⟩; subst he; rw [E0.out]))
  go_ret
  exact ⟨by rw [HE.out]; rfl, HB2.out⟩
 by_cases h7 : -9 ≤ r.f7 ∧ r.f7 ≤ 9
 rotate_left
 ·have e0 : nameB r.f0 = true := h0
  have E0 := Aside0.mk e0
  clear e0
  have e1 : inb r.f1 (0) (9) = true := inb_t h1
  have e2 : inb r.f2 0 4 = true := h2
  have E2 := Aside0.mk e2
  clear e2
  have e3 : okE r.f3 = true := h3
  have E3 := Aside0.mk e3
  clear e3
  have e4 : inb r.f4 (0) r.f5 = true := inb_t h4
  have e5 : decide (r.f5 ≤ 100) = true := decide_eq_true h5
  have e6 : inb r.f6 (0) (3) = true := inb_t h6
  have e7 : inb r.f7 (-9) (9) = false := inb_f h7
  have HE : Aside0 (ruleB r = false) := ⟨ruleB_n3 (by unfold ruleP; omega)⟩
  clear h0 h1 h2 h3 h4 h5 h6 h7
  go_enter Tryz.func77, Tryz.ntmps77
  go_upto_region 1 with fail
  rw [← HW.out]
  have p0 := (blk_cell BX.out 0).trans rfl
  have p1 := (blk_cell BX.out 1).trans rfl
  have p2 := (blk_cell BX.out 2).trans rfl
  have p3 := (blk_cell BX.out 3).trans rfl
  have p4 := (blk_cell BX.out 4).trans rfl
  have p5 := (blk_cell BX.out 5).trans rfl
  have p6 := (blk_cell BX.out 6).trans rfl
  have p7 := (blk_cell BX.out 7).trans rfl
  have p8 := (blk_cell BX.out 8).trans rfl
  have p9 := (blk_cell BX.out 9).trans rfl
  have p10 := (blk_cell BX.out 10).trans rfl
  have p11 := (blk_cell BX.out 11).trans rfl
  go_wp2_with (first
    | (go_at_call 105; refine (exOk_any r.f3 A c _ hcE HL.out).mono ?_; rintro e w2 ⟨rfl, hb⟩; rw [E3.out]; have q7 := pw_cell_below hb ((blk_cell BX.out 7).trans rfl); have q8 := pw_cell_below hb ((blk_cell BX.out 8).trans rfl); have q9 := pw_cell_below hb ((blk_cell BX.out 9).trans rfl); have q10 := pw_cell_below hb ((blk_cell BX.out 10).trans rfl); have q11 := pw_cell_below hb ((blk_cell BX.out 11).trans rfl); have HB2 := Aside0.mk (below_then HX.out HX.out.size hb); clear hb)
    | (go_at_call 104; refine (isMode_any r.f2 _).mono ?_; rintro e w2 ⟨rfl, he⟩; subst he; rw [E2.out])
    | (go_at_call 54; refine (in_any _ _ _ _).mono ?_; rintro e w2 ⟨rfl, he⟩; subst he)
    | (go_at_call 103; refine (isName_any r.f0 _ hn).mono ?_; rintro e w2 ⟨rfl, he⟩; subst he; rw [E0.out]))
  go_ret
  exact ⟨by rw [HE.out]; rfl, HB2.out⟩
 by_cases h8 : -1 ≤ r.f8 ∧ r.f8 ≤ 4
 rotate_left
 ·have e0 : nameB r.f0 = true := h0
  have E0 := Aside0.mk e0
  clear e0
  have e1 : inb r.f1 (0) (9) = true := inb_t h1
  have e2 : inb r.f2 0 4 = true := h2
  have E2 := Aside0.mk e2
  clear e2
  have e3 : okE r.f3 = true := h3
  have E3 := Aside0.mk e3
  clear e3
  have e4 : inb r.f4 (0) r.f5 = true := inb_t h4
  have e5 : decide (r.f5 ≤ 100) = true := decide_eq_true h5
  have e6 : inb r.f6 (0) (3) = true := inb_t h6
  have e7 : inb r.f7 (-9) (9) = true := inb_t h7
  have e8 : inb r.f8 (-1) (4) = false := inb_f h8
  have HE : Aside0 (ruleB r = false) := ⟨ruleB_n3 (by unfold ruleP; omega)⟩
  clear h0 h1 h2 h3 h4 h5 h6 h7 h8
  go_enter Tryz.func77, Tryz.ntmps77
  go_upto_region 1 with fail
  rw [← HW.out]
  have p0 := (blk_cell BX.out 0).trans rfl
  have p1 := (blk_cell BX.out 1).trans rfl
  have p2 := (blk_cell BX.out 2).trans rfl
  have p3 := (blk_cell BX.out 3).trans rfl
  have p4 := (blk_cell BX.out 4).trans rfl
  have p5 := (blk_cell BX.out 5).trans rfl
  have p6 := (blk_cell BX.out 6).trans rfl
  have p7 := (blk_cell BX.out 7).trans rfl
  have p8 := (blk_cell BX.out 8).trans rfl
  have p9 := (blk_cell BX.out 9).trans rfl
  have p10 := (blk_cell BX.out 10).trans rfl
  have p11 := (blk_cell BX.out 11).trans rfl
  go_wp2_with (first
    | (go_at_call 105; refine (exOk_any r.f3 A c _ hcE HL.out).mono ?_; rintro e w2 ⟨rfl, hb⟩; rw [E3.out]; have q7 := pw_cell_below hb ((blk_cell BX.out 7).trans rfl); have q8 := pw_cell_below hb ((blk_cell BX.out 8).trans rfl); have q9 := pw_cell_below hb ((blk_cell BX.out 9).trans rfl); have q10 := pw_cell_below hb ((blk_cell BX.out 10).trans rfl); have q11 := pw_cell_below hb ((blk_cell BX.out 11).trans rfl); have HB2 := Aside0.mk (below_then HX.out HX.out.size hb); clear hb)
    | (go_at_call 104; refine (isMode_any r.f2 _).mono ?_; rintro e w2 ⟨rfl, he⟩; subst he; rw [E2.out])
    | (go_at_call 54; refine (in_any _ _ _ _).mono ?_; rintro e w2 ⟨rfl, he⟩; subst he)
    | (go_at_call 103; refine (isName_any r.f0 _ hn).mono ?_; rintro e w2 ⟨rfl, he⟩; subst he; rw [E0.out]))
  go_ret
  exact ⟨by rw [HE.out]; rfl, HB2.out⟩
 have e0 : nameB r.f0 = true := h0
 have E0 := Aside0.mk e0
 clear e0
 have e1 : inb r.f1 (0) (9) = true := inb_t h1
 have e2 : inb r.f2 0 4 = true := h2
 have E2 := Aside0.mk e2
 clear e2
 have e3 : okE r.f3 = true := h3
 have E3 := Aside0.mk e3
 clear e3
 have e4 : inb r.f4 (0) r.f5 = true := inb_t h4
 have e5 : decide (r.f5 ≤ 100) = true := decide_eq_true h5
 have e6 : inb r.f6 (0) (3) = true := inb_t h6
 have e7 : inb r.f7 (-9) (9) = true := inb_t h7
 have e8 : inb r.f8 (-1) (4) = true := inb_t h8
 have HE : Aside0 (ruleB r = true) := ⟨ruleB_of h0 h2 h3 (by unfold ruleP; omega)⟩
 clear h0 h1 h2 h3 h4 h5 h6 h7 h8
 go_enter Tryz.func77, Tryz.ntmps77
 go_upto_region 1 with fail
 rw [← HW.out]
 have p0 := (blk_cell BX.out 0).trans rfl
 have p1 := (blk_cell BX.out 1).trans rfl
 have p2 := (blk_cell BX.out 2).trans rfl
 have p3 := (blk_cell BX.out 3).trans rfl
 have p4 := (blk_cell BX.out 4).trans rfl
 have p5 := (blk_cell BX.out 5).trans rfl
 have p6 := (blk_cell BX.out 6).trans rfl
 have p7 := (blk_cell BX.out 7).trans rfl
 have p8 := (blk_cell BX.out 8).trans rfl
 have p9 := (blk_cell BX.out 9).trans rfl
 have p10 := (blk_cell BX.out 10).trans rfl
 have p11 := (blk_cell BX.out 11).trans rfl
 go_wp2_with (first
   | (go_at_call 105; refine (exOk_any r.f3 A c _ hcE HL.out).mono ?_; rintro e w2 ⟨rfl, hb⟩; rw [E3.out]; have q7 := pw_cell_below hb ((blk_cell BX.out 7).trans rfl); have q8 := pw_cell_below hb ((blk_cell BX.out 8).trans rfl); have q9 := pw_cell_below hb ((blk_cell BX.out 9).trans rfl); have q10 := pw_cell_below hb ((blk_cell BX.out 10).trans rfl); have q11 := pw_cell_below hb ((blk_cell BX.out 11).trans rfl); have HB2 := Aside0.mk (below_then HX.out HX.out.size hb); clear hb)
   | (go_at_call 104; refine (isMode_any r.f2 _).mono ?_; rintro e w2 ⟨rfl, he⟩; subst he; rw [E2.out])
   | (go_at_call 54; refine (in_any _ _ _ _).mono ?_; rintro e w2 ⟨rfl, he⟩; subst he)
   | (go_at_call 103; refine (isName_any r.f0 _ hn).mono ?_; rintro e w2 ⟨rfl, he⟩; subst he; rw [E0.out]))
 go_ret
 exact ⟨by rw [HE.out]; rfl, HB2.out⟩
end Go.Proofs.YtckblabkapeigaaGreat.Eb8
