
/- Events that are valid, both sides; the time of the last event; keys. Printed by genOv9.py. -/
import Derived.Test.YtckblabkapeigaaGreatNKb
import Derived.Test.YtckblabkapeigaaGreatNJh
set_option linter.unusedVariables false
set_option linter.unusedSimpArgs false
namespace Go.Proofs.YtckblabkapeigaaGreat.Ov9
open Go.RowKit Go.Proofs.YtckblabkapeigaaGreatW.PrintWords Go.Proofs.YtckblabkapeigaaGreat.Ja Go.Proofs.YtckblabkapeigaaGreat.Jb Go.Proofs.YtckblabkapeigaaGreat.Jg Go.Proofs.YtckblabkapeigaaGreat.Jh Go.Proofs.YtckblabkapeigaaGreat.Ka Go.Proofs.YtckblabkapeigaaGreat.Kb

def evB (e : TEv) : Bool := inb e.f0 0 4 && (inb e.f1 1 1000 && inb e.f2 0 100)
def goodE (l : List TEv) (k : Nat) : Bool := evB (l.getD k zEv) && (decide (k = 0) || decide ((l.getD (k - 1) zEv).f1 < (l.getD k zEv).f1))
def evsTo (l : List TEv) (k : Nat) : Bool := (List.range k).all (goodE l)
def evsB (l : List TEv) : Bool := decide (l.length ≤ 24) && evsTo l l.length
theorem evsTo_succ (l : List TEv) (k : Nat) : evsTo l (k + 1) = (evsTo l k && goodE l k) := by unfold evsTo; rw [List.range_succ, List.all_append]; simp
theorem evs_no {l : List TEv} {k : Nat} (h : k < l.length) (hb : goodE l k = false) : evsB l = false := by
 unfold evsB evsTo
 have : (List.range l.length).all (goodE l) = false := List.all_eq_false.2 ⟨k, List.mem_range.2 h, by rw [hb]; simp⟩
 rw [this]; simp
/-- the time of the last event, 0 ahead of all -/
def endB (l : List TEv) : Int := if l = [] then 0 else (l.getD (l.length - 1) zEv).f1
theorem box3E (w : World) (e : TEv) (t : TypeId) : Below w.heap.size w (w.alloc (.cells #[.int .i64 e.f0, .int .i64 e.f1, .int .i64 e.f2] t)) := below_alloc (Below.refl _ _) _
set_option maxHeartbeats 2000000 in
set_option maxRecDepth 100000 in
theorem iEvOk_any (e : TEv) (w : World) : Calls Tryz.prog 80 #[.agg #[.int .i64 e.f0, .int .i64 e.f1, .int .i64 e.f2]] w fun r w' => r = .returned (.bool (evB e)) ∧ Below w.heap.size w w' := by
 have hb0 := box3E w e 97
 have bX := blk_new w (.cells #[.int .i64 e.f0, .int .i64 e.f1, .int .i64 e.f2] 97)
 obtain ⟨W, hW⟩ : ∃ W, W = w.alloc (.cells #[.int .i64 e.f0, .int .i64 e.f1, .int .i64 e.f2] 97) := ⟨_, rfl⟩
 rw [← hW] at hb0 bX
 have HW := Aside0.mk hW
 have HX := Aside0.mk hb0
 have p0 := (blk_cell bX 0).trans rfl
 have p1 := (blk_cell bX 1).trans rfl
 have p2 := (blk_cell bX 2).trans rfl
 clear hW hb0 bX
 cases h0 : inb e.f0 0 4 with
 | false =>
  have HE : Aside0 (evB e = false) := ⟨by unfold evB; rw [h0]; simp⟩
  go_enter Tryz.func80, Tryz.ntmps80
  go_upto_region 1 with fail
  rw [← HW.out]
  go_wp2_with (first | (go_at_call 54; refine (in_any _ _ _ _).mono ?_; rintro q w2 ⟨rfl, he⟩; subst he) | (go_at_call 107; refine (isSym_any e.f0 _).mono ?_; rintro q w2 ⟨rfl, he⟩; subst he))
  go_ret
  exact ⟨by rw [HE.out]; rfl, HX.out⟩
 | true =>
 cases h1 : inb e.f1 1 1000 with
 | false =>
  have HE : Aside0 (evB e = false) := ⟨by unfold evB; rw [h0, h1]; simp⟩
  go_enter Tryz.func80, Tryz.ntmps80
  go_upto_region 1 with fail
  rw [← HW.out]
  go_wp2_with (first | (go_at_call 54; refine (in_any _ _ _ _).mono ?_; rintro q w2 ⟨rfl, he⟩; subst he) | (go_at_call 107; refine (isSym_any e.f0 _).mono ?_; rintro q w2 ⟨rfl, he⟩; subst he))
  go_ret
  exact ⟨by rw [HE.out]; rfl, HX.out⟩
 | true =>
 cases h2 : inb e.f2 0 100 with
 | false =>
  have HE : Aside0 (evB e = false) := ⟨by unfold evB; rw [h0, h1, h2]; simp⟩
  go_enter Tryz.func80, Tryz.ntmps80
  go_upto_region 1 with fail
  rw [← HW.out]
  go_wp2_with (first | (go_at_call 54; refine (in_any _ _ _ _).mono ?_; rintro q w2 ⟨rfl, he⟩; subst he) | (go_at_call 107; refine (isSym_any e.f0 _).mono ?_; rintro q w2 ⟨rfl, he⟩; subst he))
  go_ret
  exact ⟨by rw [HE.out]; rfl, HX.out⟩
 | true =>
 have HE : Aside0 (evB e = true) := ⟨by unfold evB; rw [h0, h1, h2]; rfl⟩
 go_enter Tryz.func80, Tryz.ntmps80
 go_upto_region 1 with fail
 rw [← HW.out]
 go_wp2_with (first | (go_at_call 54; refine (in_any _ _ _ _).mono ?_; rintro q w2 ⟨rfl, he⟩; subst he) | (go_at_call 107; refine (isSym_any e.f0 _).mono ?_; rintro q w2 ⟨rfl, he⟩; subst he))
 go_ret
 exact ⟨by rw [HE.out]; rfl, HX.out⟩
set_option maxHeartbeats 2000000 in
set_option maxRecDepth 100000 in
theorem sEvOk_any (e : TEv) (w : World) : Calls Tryz.prog 70 #[.agg #[.int .i64 e.f0, .int .i64 e.f1, .int .i64 e.f2]] w fun r w' => r = .returned (.bool (evB e)) ∧ Below w.heap.size w w' := by
 have hb0 := box3E w e 97
 have bX := blk_new w (.cells #[.int .i64 e.f0, .int .i64 e.f1, .int .i64 e.f2] 97)
 obtain ⟨W, hW⟩ : ∃ W, W = w.alloc (.cells #[.int .i64 e.f0, .int .i64 e.f1, .int .i64 e.f2] 97) := ⟨_, rfl⟩
 rw [← hW] at hb0 bX
 have HW := Aside0.mk hW
 have HX := Aside0.mk hb0
 have p0 := (blk_cell bX 0).trans rfl
 have p1 := (blk_cell bX 1).trans rfl
 have p2 := (blk_cell bX 2).trans rfl
 clear hW hb0 bX
 by_cases h0 : 0 ≤ e.f0
 rotate_left
 ·have d0 : decide (e.f0 ≥ 0) = false := decide_eq_false (by omega)
  have HE : Aside0 (evB e = false) := ⟨by unfold evB inb; simp; omega⟩
  clear h0
  go_enter Tryz.func70, Tryz.ntmps70
  go_upto_region 1 with fail
  rw [← HW.out]
  go_wp2
  go_ret
  exact ⟨by rw [HE.out]; rfl, HX.out⟩
 by_cases h1 : e.f0 < 5
 rotate_left
 ·have d0 : decide (e.f0 ≥ 0) = true := decide_eq_true (by omega)
  have d1 : decide (e.f0 < 5) = false := decide_eq_false (by omega)
  have HE : Aside0 (evB e = false) := ⟨by unfold evB inb; simp; omega⟩
  clear h0 h1
  go_enter Tryz.func70, Tryz.ntmps70
  go_upto_region 1 with fail
  rw [← HW.out]
  go_wp2
  go_ret
  exact ⟨by rw [HE.out]; rfl, HX.out⟩
 by_cases h2 : 1 ≤ e.f1
 rotate_left
 ·have d0 : decide (e.f0 ≥ 0) = true := decide_eq_true (by omega)
  have d1 : decide (e.f0 < 5) = true := decide_eq_true (by omega)
  have d2 : decide (e.f1 ≥ 1) = false := decide_eq_false (by omega)
  have HE : Aside0 (evB e = false) := ⟨by unfold evB inb; simp; omega⟩
  clear h0 h1 h2
  go_enter Tryz.func70, Tryz.ntmps70
  go_upto_region 1 with fail
  rw [← HW.out]
  go_wp2
  go_ret
  exact ⟨by rw [HE.out]; rfl, HX.out⟩
 by_cases h3 : e.f1 ≤ 1000
 rotate_left
 ·have d0 : decide (e.f0 ≥ 0) = true := decide_eq_true (by omega)
  have d1 : decide (e.f0 < 5) = true := decide_eq_true (by omega)
  have d2 : decide (e.f1 ≥ 1) = true := decide_eq_true (by omega)
  have d3 : decide (e.f1 ≤ 1000) = false := decide_eq_false (by omega)
  have HE : Aside0 (evB e = false) := ⟨by unfold evB inb; simp; omega⟩
  clear h0 h1 h2 h3
  go_enter Tryz.func70, Tryz.ntmps70
  go_upto_region 1 with fail
  rw [← HW.out]
  go_wp2
  go_ret
  exact ⟨by rw [HE.out]; rfl, HX.out⟩
 by_cases h4 : 0 ≤ e.f2
 rotate_left
 ·have d0 : decide (e.f0 ≥ 0) = true := decide_eq_true (by omega)
  have d1 : decide (e.f0 < 5) = true := decide_eq_true (by omega)
  have d2 : decide (e.f1 ≥ 1) = true := decide_eq_true (by omega)
  have d3 : decide (e.f1 ≤ 1000) = true := decide_eq_true (by omega)
  have d4 : decide (e.f2 ≥ 0) = false := decide_eq_false (by omega)
  have HE : Aside0 (evB e = false) := ⟨by unfold evB inb; simp; omega⟩
  clear h0 h1 h2 h3 h4
  go_enter Tryz.func70, Tryz.ntmps70
  go_upto_region 1 with fail
  rw [← HW.out]
  go_wp2
  go_ret
  exact ⟨by rw [HE.out]; rfl, HX.out⟩
 by_cases h5 : e.f2 ≤ 100
 rotate_left
 ·have d0 : decide (e.f0 ≥ 0) = true := decide_eq_true (by omega)
  have d1 : decide (e.f0 < 5) = true := decide_eq_true (by omega)
  have d2 : decide (e.f1 ≥ 1) = true := decide_eq_true (by omega)
  have d3 : decide (e.f1 ≤ 1000) = true := decide_eq_true (by omega)
  have d4 : decide (e.f2 ≥ 0) = true := decide_eq_true (by omega)
  have d5 : decide (e.f2 ≤ 100) = false := decide_eq_false (by omega)
  have HE : Aside0 (evB e = false) := ⟨by unfold evB inb; simp; omega⟩
  clear h0 h1 h2 h3 h4 h5
  go_enter Tryz.func70, Tryz.ntmps70
  go_upto_region 1 with fail
  rw [← HW.out]
  go_wp2
  go_ret
  exact ⟨by rw [HE.out]; rfl, HX.out⟩
 have d0 : decide (e.f0 ≥ 0) = true := decide_eq_true (by omega)
 have d1 : decide (e.f0 < 5) = true := decide_eq_true (by omega)
 have d2 : decide (e.f1 ≥ 1) = true := decide_eq_true (by omega)
 have d3 : decide (e.f1 ≤ 1000) = true := decide_eq_true (by omega)
 have d4 : decide (e.f2 ≥ 0) = true := decide_eq_true (by omega)
 have d5 : decide (e.f2 ≤ 100) = true := decide_eq_true (by omega)
 have HE : Aside0 (evB e = true) := ⟨by unfold evB inb; simp; omega⟩
 clear h0 h1 h2 h3 h4 h5
 go_enter Tryz.func70, Tryz.ntmps70
 go_upto_region 1 with fail
 rw [← HW.out]
 go_wp2
 go_ret
 exact ⟨by rw [HE.out]; rfl, HX.out⟩
set_option maxHeartbeats 4000000 in
set_option maxRecDepth 100000 in
theorem iEvsOk_any (A : Option Addr) (c : Nat) (l : List TEv) (w : World) (hL : IsS kEv w l A c) :
  Calls Tryz.prog 48 #[.slice A l.length c] w fun r w' => r = .returned (.bool (evsB l)) ∧ Below w.heap.size w w' := by
 have hn := hL.len
 have HL := Aside0.mk hL
 clear hL
 go_enter Tryz.func48, Tryz.ntmps48
 go_wp2
 go_loopw [7] (fun i wr => ∃ k : Nat, k ≤ l.length ∧ i = .int .i64 k ∧ Aside0 (evsTo l k = true) ∧ Aside0 (Below w.heap.size w wr)) (fun i _ => l.length - (intOf i).toNat)
 case atStart => exact ⟨0, Nat.zero_le _, rfl, ⟨rfl⟩, ⟨Below.refl _ _⟩⟩
 case round =>
  obtain ⟨k, hk, rfl, HH, HB⟩ := hrel
  by_cases hlt : k < l.length
  ·obtain ⟨ad, rfl, ha, hb, hc⟩ := atEv (HL.out.below HB.out) k hlt
   have i1 : (k : Int) < l.length := by omega
   have g1 : decide (k < l.length) = true := decide_eq_true hlt
   have HS := Aside0.mk (evsTo_succ l k)
   have HNO := Aside0.mk (evs_no hlt)
   by_cases hk0 : k = 0
   ·have hg : decide ((k : Int) > 0) = false := by simp; omega
    have hg2 : decide (0 < k) = false := by simp; omega
    have HD : Aside0 (goodE l k = evB (l.getD k zEv)) := ⟨by unfold goodE; rw [decide_eq_true hk0]; simp⟩
    clear hk0
    generalize l.getD k zEv = o at ha hb hc HD
    cases hq : evB o with
    | true =>
     have HG : Aside0 (evsTo l (k + 1) = true) := ⟨by rw [HS.out, HH.out, HD.out, hq]; rfl⟩
     go_wp2
     have hbW := below_alloc (Below.refl wr.heap.size wr) (.cells #[.int .i64 o.f0, .int .i64 o.f1, .int .i64 o.f2] 97)
     have bX := blk_new wr (.cells #[.int .i64 o.f0, .int .i64 o.f1, .int .i64 o.f2] 97)
     generalize wr.alloc (.cells #[.int .i64 o.f0, .int .i64 o.f1, .int .i64 o.f2] 97) = W at hbW bX ⊢
     have k0 := cellE ((blk_cell bX 0).trans rfl)
     have k1 := cellE ((blk_cell bX 1).trans rfl)
     have k2 := cellE ((blk_cell bX 2).trans rfl)
     have HB2 := Aside0.mk (below_then HB.out HB.out.size hbW)
     have hcl := fun s : Ext W => iEvOk_any o s.1
     rw [hq] at hcl
     clear hbW ha hb hc
     refine region_ext (W := W) (Below.refl _ _) (by kernel_rfl) (by kernel_rfl) ?_
     repeat (first | go_big_quiet_step ((first | (go_at_call 80; exact calls_ext (hcl _)))) | quiet_step ((first | (go_at_call 80; exact calls_ext (hcl _)))))
     refine wpQuiet_nil ?_
     rintro _ ⟨s, rfl⟩
     have HB3 := Aside0.mk (below_then HB2.out HB2.out.size s.2)
     generalize s.1 = W2 at HB3
     clear hq
     go_wp2
     go_roundw
     case rel => exact ⟨k + 1, by omega, by go_num, HG, HB3⟩
     case measure => simp [intOf]; omega
    | false =>
     have HG : Aside0 (evsB l = false) := ⟨HNO.out (by rw [HD.out, hq])⟩
     go_wp2
     have hbW := below_alloc (Below.refl wr.heap.size wr) (.cells #[.int .i64 o.f0, .int .i64 o.f1, .int .i64 o.f2] 97)
     have bX := blk_new wr (.cells #[.int .i64 o.f0, .int .i64 o.f1, .int .i64 o.f2] 97)
     generalize wr.alloc (.cells #[.int .i64 o.f0, .int .i64 o.f1, .int .i64 o.f2] 97) = W at hbW bX ⊢
     have k0 := cellE ((blk_cell bX 0).trans rfl)
     have k1 := cellE ((blk_cell bX 1).trans rfl)
     have k2 := cellE ((blk_cell bX 2).trans rfl)
     have HB2 := Aside0.mk (below_then HB.out HB.out.size hbW)
     have hcl := fun s : Ext W => iEvOk_any o s.1
     rw [hq] at hcl
     clear hbW ha hb hc
     refine region_ext (W := W) (Below.refl _ _) (by kernel_rfl) (by kernel_rfl) ?_
     repeat (first | go_big_quiet_step ((first | (go_at_call 80; exact calls_ext (hcl _)))) | quiet_step ((first | (go_at_call 80; exact calls_ext (hcl _)))))
     refine wpQuiet_nil ?_
     rintro _ ⟨s, rfl⟩
     have HB3 := Aside0.mk (below_then HB2.out HB2.out.size s.2)
     generalize s.1 = W2 at HB3
     clear hq
     go_wp2
     go_ret
     exact ⟨by rw [HG.out]; rfl, HB3.out⟩
   ·have hg : decide ((k : Int) > 0) = true := by simp; omega
    have hg2 : decide (0 < k) = true := by simp; omega
    have hk1 : 0 < k := by omega
    have hk2 : 0 ≤ (k : Int) - 1 := by omega
    have hk3 : ((k : Int) - 1).toNat = k - 1 := by omega
    have hk4 : (k : Int) - 1 < l.length := by omega
    have HD : Aside0 (goodE l k = (evB (l.getD k zEv) && decide ((l.getD (k - 1) zEv).f1 < (l.getD k zEv).f1))) := ⟨by unfold goodE; rw [decide_eq_false hk0]; simp⟩
    clear hk0
    obtain ⟨_, e, pa, pb, pc⟩ := atEv (HL.out.below HB.out) (k - 1) (by omega)
    cases e
    clear pa pc
    generalize l.getD (k - 1) zEv = p at pb HD
    generalize l.getD k zEv = o at ha hb hc HD
    cases hq : evB o with
    | true =>
     by_cases hd : p.f1 < o.f1
     ·have d1 : decide (o.f1 ≤ p.f1) = false := decide_eq_false (by omega)
      have HG : Aside0 (evsTo l (k + 1) = true) := ⟨by rw [HS.out, HH.out, HD.out, hq, decide_eq_true hd]; rfl⟩
      clear hd
      go_wp2
      have hbW := below_alloc (Below.refl wr.heap.size wr) (.cells #[.int .i64 o.f0, .int .i64 o.f1, .int .i64 o.f2] 97)
      have bX := blk_new wr (.cells #[.int .i64 o.f0, .int .i64 o.f1, .int .i64 o.f2] 97)
      generalize wr.alloc (.cells #[.int .i64 o.f0, .int .i64 o.f1, .int .i64 o.f2] 97) = W at hbW bX ⊢
      have k0 := cellE ((blk_cell bX 0).trans rfl)
      have k1 := cellE ((blk_cell bX 1).trans rfl)
      have k2 := cellE ((blk_cell bX 2).trans rfl)
      have HB2 := Aside0.mk (below_then HB.out HB.out.size hbW)
      have hcl := fun s : Ext W => iEvOk_any o s.1
      rw [hq] at hcl
      replace pb := cellE (pw_cell_below hbW pb)
      clear hbW ha hb hc
      refine region_ext (W := W) (Below.refl _ _) (by kernel_rfl) (by kernel_rfl) ?_
      repeat (first | go_big_quiet_step ((first | (go_at_call 80; exact calls_ext (hcl _)))) | quiet_step ((first | (go_at_call 80; exact calls_ext (hcl _)))))
      refine wpQuiet_nil ?_
      rintro _ ⟨s, rfl⟩
      have HB3 := Aside0.mk (below_then HB2.out HB2.out.size s.2)
      generalize s.1 = W2 at HB3
      clear hq
      go_wp2
      go_roundw
      case rel => exact ⟨k + 1, by omega, by go_num, HG, HB3⟩
      case measure => simp [intOf]; omega
     ·have d1 : decide (o.f1 ≤ p.f1) = true := decide_eq_true (by omega)
      have HG : Aside0 (evsB l = false) := ⟨HNO.out (by rw [HD.out, hq, decide_eq_false hd]; rfl)⟩
      clear hd
      go_wp2
      have hbW := below_alloc (Below.refl wr.heap.size wr) (.cells #[.int .i64 o.f0, .int .i64 o.f1, .int .i64 o.f2] 97)
      have bX := blk_new wr (.cells #[.int .i64 o.f0, .int .i64 o.f1, .int .i64 o.f2] 97)
      generalize wr.alloc (.cells #[.int .i64 o.f0, .int .i64 o.f1, .int .i64 o.f2] 97) = W at hbW bX ⊢
      have k0 := cellE ((blk_cell bX 0).trans rfl)
      have k1 := cellE ((blk_cell bX 1).trans rfl)
      have k2 := cellE ((blk_cell bX 2).trans rfl)
      have HB2 := Aside0.mk (below_then HB.out HB.out.size hbW)
      have hcl := fun s : Ext W => iEvOk_any o s.1
      rw [hq] at hcl
      replace pb := cellE (pw_cell_below hbW pb)
      clear hbW ha hb hc
      refine region_ext (W := W) (Below.refl _ _) (by kernel_rfl) (by kernel_rfl) ?_
      repeat (first | go_big_quiet_step ((first | (go_at_call 80; exact calls_ext (hcl _)))) | quiet_step ((first | (go_at_call 80; exact calls_ext (hcl _)))))
      refine wpQuiet_nil ?_
      rintro _ ⟨s, rfl⟩
      have HB3 := Aside0.mk (below_then HB2.out HB2.out.size s.2)
      generalize s.1 = W2 at HB3
      clear hq
      go_wp2
      go_ret
      exact ⟨by rw [HG.out]; rfl, HB3.out⟩
    | false =>
     have HG : Aside0 (evsB l = false) := ⟨HNO.out (by rw [HD.out, hq]; rfl)⟩
     go_wp2
     have hbW := below_alloc (Below.refl wr.heap.size wr) (.cells #[.int .i64 o.f0, .int .i64 o.f1, .int .i64 o.f2] 97)
     have bX := blk_new wr (.cells #[.int .i64 o.f0, .int .i64 o.f1, .int .i64 o.f2] 97)
     generalize wr.alloc (.cells #[.int .i64 o.f0, .int .i64 o.f1, .int .i64 o.f2] 97) = W at hbW bX ⊢
     have k0 := cellE ((blk_cell bX 0).trans rfl)
     have k1 := cellE ((blk_cell bX 1).trans rfl)
     have k2 := cellE ((blk_cell bX 2).trans rfl)
     have HB2 := Aside0.mk (below_then HB.out HB.out.size hbW)
     have hcl := fun s : Ext W => iEvOk_any o s.1
     rw [hq] at hcl
     replace pb := cellE (pw_cell_below hbW pb)
     clear hbW ha hb hc
     refine region_ext (W := W) (Below.refl _ _) (by kernel_rfl) (by kernel_rfl) ?_
     repeat (first | go_big_quiet_step ((first | (go_at_call 80; exact calls_ext (hcl _)))) | quiet_step ((first | (go_at_call 80; exact calls_ext (hcl _)))))
     refine wpQuiet_nil ?_
     rintro _ ⟨s, rfl⟩
     have HB3 := Aside0.mk (below_then HB2.out HB2.out.size s.2)
     generalize s.1 = W2 at HB3
     clear hq
     go_wp2
     go_ret
     exact ⟨by rw [HG.out]; rfl, HB3.out⟩
  ·have hke : k = l.length := by omega
   subst hke
   have g1 : decide (l.length < l.length) = false := decide_eq_false (by omega)
   by_cases h24 : l.length ≤ 24
   ·have d24 : decide ((l.length : Int) ≤ 24) = true := decide_eq_true (by omega)
    have HE : Aside0 (evsB l = true) := ⟨by unfold evsB; rw [HH.out, decide_eq_true h24]; rfl⟩
    clear h24
    go_wp2
    go_ret
    exact ⟨ret_bool HE.out.symm, HB.out⟩
   ·have d24 : decide ((l.length : Int) ≤ 24) = false := decide_eq_false (by omega)
    have HE : Aside0 (evsB l = false) := ⟨by unfold evsB; rw [decide_eq_false h24]; rfl⟩
    clear h24
    go_wp2
    go_ret
    exact ⟨ret_bool HE.out.symm, HB.out⟩
set_option maxHeartbeats 4000000 in
set_option maxRecDepth 100000 in
theorem sEvsOk_any (A : Option Addr) (c : Nat) (l : List TEv) (w : World) (hL : IsS kEv w l A c) :
  Calls Tryz.prog 37 #[.slice A l.length c] w fun r w' => r = .returned (.bool (evsB l)) ∧ Below w.heap.size w w' := by
 have hn := hL.len
 have HL := Aside0.mk hL
 clear hL
 by_cases h24 : l.length ≤ 24
 rotate_left
 ·have d24 : decide ((l.length : Int) > 24) = true := decide_eq_true (by omega)
  have d24' : decide (24 < l.length) = true := decide_eq_true (by omega)
  have HE : Aside0 (evsB l = false) := ⟨by unfold evsB; rw [decide_eq_false h24]; rfl⟩
  clear h24
  go_enter Tryz.func37, Tryz.ntmps37
  go_wp2
  go_ret
  exact ⟨by rw [HE.out]; rfl, Below.refl _ _⟩
 have d24 : decide ((l.length : Int) > 24) = false := decide_eq_false (by omega)
 have d24' : decide (24 < l.length) = false := decide_eq_false (by omega)
 have H24 := Aside0.mk h24
 clear h24
 go_enter Tryz.func37, Tryz.ntmps37
 go_upto_region 4 with fail
 clear d24 d24'
 go_loopw [3] (fun i wr => ∃ k : Nat, k ≤ l.length ∧ i = .int .i64 k ∧ Aside0 (evsTo l k = true) ∧ Aside0 (Below w.heap.size w wr)) (fun i _ => l.length - (intOf i).toNat)
 case atStart => exact ⟨0, Nat.zero_le _, rfl, ⟨rfl⟩, ⟨Below.refl _ _⟩⟩
 case round =>
  obtain ⟨k, hk, rfl, HH, HB⟩ := hrel
  by_cases hlt : k < l.length
  ·obtain ⟨ad, rfl, ha, hb, hc⟩ := atEv (HL.out.below HB.out) k hlt
   have i1 : (k : Int) < l.length := by omega
   have g1 : decide (k < l.length) = true := decide_eq_true hlt
   have HS := Aside0.mk (evsTo_succ l k)
   have HNO := Aside0.mk (evs_no hlt)
   by_cases hk0 : k = 0
   ·have hg : decide ((k : Int) > 0) = false := by simp; omega
    have hg2 : decide (0 < k) = false := by simp; omega
    have HD : Aside0 (goodE l k = evB (l.getD k zEv)) := ⟨by unfold goodE; rw [decide_eq_true hk0]; simp⟩
    clear hk0
    generalize l.getD k zEv = o at ha hb hc HD
    cases hq : evB o with
    | true =>
     have HG : Aside0 (evsTo l (k + 1) = true) := ⟨by rw [HS.out, HH.out, HD.out, hq]; rfl⟩
     go_upto_region 6 with fail
     have hbW : Below wr.heap.size wr wr := Below.refl _ _
     obtain ⟨W, hW⟩ : ∃ W, W = wr := ⟨_, rfl⟩
     rw [← hW] at hbW ha hb hc ⊢
     have k0 := cellE ha
     have k1 := cellE hb
     have k2 := cellE hc
     have HB2 : Aside0 (Below w.heap.size w W) := ⟨by rw [hW]; exact HB.out⟩
     have hcl := fun s : Ext W => sEvOk_any o s.1
     rw [hq] at hcl
     clear hbW ha hb hc hW
     refine region_ext (W := W) (Below.refl _ _) (by kernel_rfl) (by kernel_rfl) ?_
     repeat (first | go_big_quiet_step ((first | (go_at_call 70; exact calls_ext (hcl _)))) | quiet_step ((first | (go_at_call 70; exact calls_ext (hcl _)))))
     refine wpQuiet_nil ?_
     rintro _ ⟨s, rfl⟩
     have HB3 := Aside0.mk (below_then HB2.out HB2.out.size s.2)
     generalize s.1 = W2 at HB3
     clear hq
     go_wp2
     go_roundw
     case rel => exact ⟨k + 1, by omega, by go_num, HG, HB3⟩
     case measure => simp [intOf]; omega
    | false =>
     have HG : Aside0 (evsB l = false) := ⟨HNO.out (by rw [HD.out, hq])⟩
     go_upto_region 6 with fail
     have hbW : Below wr.heap.size wr wr := Below.refl _ _
     obtain ⟨W, hW⟩ : ∃ W, W = wr := ⟨_, rfl⟩
     rw [← hW] at hbW ha hb hc ⊢
     have k0 := cellE ha
     have k1 := cellE hb
     have k2 := cellE hc
     have HB2 : Aside0 (Below w.heap.size w W) := ⟨by rw [hW]; exact HB.out⟩
     have hcl := fun s : Ext W => sEvOk_any o s.1
     rw [hq] at hcl
     clear hbW ha hb hc hW
     refine region_ext (W := W) (Below.refl _ _) (by kernel_rfl) (by kernel_rfl) ?_
     repeat (first | go_big_quiet_step ((first | (go_at_call 70; exact calls_ext (hcl _)))) | quiet_step ((first | (go_at_call 70; exact calls_ext (hcl _)))))
     refine wpQuiet_nil ?_
     rintro _ ⟨s, rfl⟩
     have HB3 := Aside0.mk (below_then HB2.out HB2.out.size s.2)
     generalize s.1 = W2 at HB3
     clear hq
     go_wp2
     go_ret
     exact ⟨by rw [HG.out]; rfl, HB3.out⟩
   ·have hg : decide ((k : Int) > 0) = true := by simp; omega
    have hg2 : decide (0 < k) = true := by simp; omega
    have hk1 : 0 < k := by omega
    have hk2 : 0 ≤ (k : Int) - 1 := by omega
    have hk3 : ((k : Int) - 1).toNat = k - 1 := by omega
    have hk4 : (k : Int) - 1 < l.length := by omega
    have HD : Aside0 (goodE l k = (evB (l.getD k zEv) && decide ((l.getD (k - 1) zEv).f1 < (l.getD k zEv).f1))) := ⟨by unfold goodE; rw [decide_eq_false hk0]; simp⟩
    clear hk0
    obtain ⟨_, e, pa, pb, pc⟩ := atEv (HL.out.below HB.out) (k - 1) (by omega)
    cases e
    clear pa pc
    generalize l.getD (k - 1) zEv = p at pb HD
    generalize l.getD k zEv = o at ha hb hc HD
    cases hq : evB o with
    | true =>
     by_cases hd : p.f1 < o.f1
     ·have d1 : decide (o.f1 ≤ p.f1) = false := decide_eq_false (by omega)
      have HG : Aside0 (evsTo l (k + 1) = true) := ⟨by rw [HS.out, HH.out, HD.out, hq, decide_eq_true hd]; rfl⟩
      clear hd
      go_upto_region 6 with fail
      have hbW : Below wr.heap.size wr wr := Below.refl _ _
      obtain ⟨W, hW⟩ : ∃ W, W = wr := ⟨_, rfl⟩
      rw [← hW] at hbW ha hb hc ⊢
      have k0 := cellE ha
      have k1 := cellE hb
      have k2 := cellE hc
      have HB2 : Aside0 (Below w.heap.size w W) := ⟨by rw [hW]; exact HB.out⟩
      have hcl := fun s : Ext W => sEvOk_any o s.1
      rw [hq] at hcl
      rw [← hW] at pb
      replace pb := cellE pb
      clear hbW ha hb hc hW
      refine region_ext (W := W) (Below.refl _ _) (by kernel_rfl) (by kernel_rfl) ?_
      repeat (first | go_big_quiet_step ((first | (go_at_call 70; exact calls_ext (hcl _)))) | quiet_step ((first | (go_at_call 70; exact calls_ext (hcl _)))))
      refine wpQuiet_nil ?_
      rintro _ ⟨s, rfl⟩
      have HB3 := Aside0.mk (below_then HB2.out HB2.out.size s.2)
      generalize s.1 = W2 at HB3
      clear hq
      go_wp2
      go_roundw
      case rel => exact ⟨k + 1, by omega, by go_num, HG, HB3⟩
      case measure => simp [intOf]; omega
     ·have d1 : decide (o.f1 ≤ p.f1) = true := decide_eq_true (by omega)
      have HG : Aside0 (evsB l = false) := ⟨HNO.out (by rw [HD.out, hq, decide_eq_false hd]; rfl)⟩
      clear hd
      go_upto_region 6 with fail
      have hbW : Below wr.heap.size wr wr := Below.refl _ _
      obtain ⟨W, hW⟩ : ∃ W, W = wr := ⟨_, rfl⟩
      rw [← hW] at hbW ha hb hc ⊢
      have k0 := cellE ha
      have k1 := cellE hb
      have k2 := cellE hc
      have HB2 : Aside0 (Below w.heap.size w W) := ⟨by rw [hW]; exact HB.out⟩
      have hcl := fun s : Ext W => sEvOk_any o s.1
      rw [hq] at hcl
      rw [← hW] at pb
      replace pb := cellE pb
      clear hbW ha hb hc hW
      refine region_ext (W := W) (Below.refl _ _) (by kernel_rfl) (by kernel_rfl) ?_
      repeat (first | go_big_quiet_step ((first | (go_at_call 70; exact calls_ext (hcl _)))) | quiet_step ((first | (go_at_call 70; exact calls_ext (hcl _)))))
      refine wpQuiet_nil ?_
      rintro _ ⟨s, rfl⟩
      have HB3 := Aside0.mk (below_then HB2.out HB2.out.size s.2)
      generalize s.1 = W2 at HB3
      clear hq
      go_wp2
      go_ret
      exact ⟨by rw [HG.out]; rfl, HB3.out⟩
    | false =>
     have HG : Aside0 (evsB l = false) := ⟨HNO.out (by rw [HD.out, hq]; rfl)⟩
     go_upto_region 6 with fail
     have hbW : Below wr.heap.size wr wr := Below.refl _ _
     obtain ⟨W, hW⟩ : ∃ W, W = wr := ⟨_, rfl⟩
     rw [← hW] at hbW ha hb hc ⊢
     have k0 := cellE ha
     have k1 := cellE hb
     have k2 := cellE hc
     have HB2 : Aside0 (Below w.heap.size w W) := ⟨by rw [hW]; exact HB.out⟩
     have hcl := fun s : Ext W => sEvOk_any o s.1
     rw [hq] at hcl
     rw [← hW] at pb
     replace pb := cellE pb
     clear hbW ha hb hc hW
     refine region_ext (W := W) (Below.refl _ _) (by kernel_rfl) (by kernel_rfl) ?_
     repeat (first | go_big_quiet_step ((first | (go_at_call 70; exact calls_ext (hcl _)))) | quiet_step ((first | (go_at_call 70; exact calls_ext (hcl _)))))
     refine wpQuiet_nil ?_
     rintro _ ⟨s, rfl⟩
     have HB3 := Aside0.mk (below_then HB2.out HB2.out.size s.2)
     generalize s.1 = W2 at HB3
     clear hq
     go_wp2
     go_ret
     exact ⟨by rw [HG.out]; rfl, HB3.out⟩
  ·have hke : k = l.length := by omega
   subst hke
   have g1 : decide (l.length < l.length) = false := decide_eq_false (by omega)
   have HE : Aside0 (evsB l = true) := ⟨by unfold evsB; rw [HH.out, decide_eq_true H24.out]; rfl⟩
   go_wp2
   go_ret
   exact ⟨by rw [HE.out]; rfl, HB.out⟩
set_option maxRecDepth 100000 in
theorem now_any (A : Option Addr) (c : Nat) (l : List TEv) (w : World) (hL : IsS kEv w l A c) :
  Calls Tryz.prog 83 #[.slice A l.length c] w fun r w' => r = .returned (.int .i64 (endB l)) ∧ w' = w := by
 have hn := hL.len
 cases l with
 | nil =>
  have HE : Aside0 (endB [] = 0) := ⟨rfl⟩
  clear hL
  go_enter Tryz.func83, Tryz.ntmps83
  go_wp2
  go_ret
  exact ⟨by (rw [HE.out]; try rfl), rfl⟩
 | cons x xs =>
  obtain ⟨ad, rfl, ha, hb, hc⟩ := atEv hL xs.length (by simp)
  have HE : Aside0 (endB (x :: xs) = ((x :: xs).getD xs.length zEv).f1) := ⟨by unfold endB; rw [if_neg (by simp)]; rfl⟩
  have hl : (x :: xs).length = xs.length + 1 := rfl
  clear hL ha hc
  generalize (x :: xs).getD xs.length zEv = o at hb HE
  have d0 : (((xs.length + 1 : Nat) : Int) == 0) = false := by simp; omega
  generalize hnn : (x :: xs).length = n at *
  have h1 : 0 ≤ (n : Int) - 1 := by omega
  have h2 : ((n : Int) - 1).toNat = xs.length := by omega
  have h3 : (n : Int) - 1 < n := by omega
  have d1 : ((n : Int) == 0) = false := by simp; omega
  have HN := Aside0.mk hnn
  clear hnn hl d0
  go_enter Tryz.func83, Tryz.ntmps83
  go_wp2
  go_ret
  exact ⟨by (rw [HE.out]; try rfl), rfl⟩
set_option maxRecDepth 100000 in
theorem l6End_any (A : Option Addr) (c : Nat) (l : List TEv) (w : World) (hL : IsS kEv w l A c) :
  Calls Tryz.prog 39 #[.slice A l.length c] w fun r w' => r = .returned (.int .i64 (endB l)) ∧ w' = w := by
 have hn := hL.len
 cases l with
 | nil =>
  have HE : Aside0 (endB [] = 0) := ⟨rfl⟩
  clear hL
  go_enter Tryz.func39, Tryz.ntmps39
  go_wp2
  go_ret
  exact ⟨by (rw [HE.out]; try rfl), rfl⟩
 | cons x xs =>
  obtain ⟨ad, rfl, ha, hb, hc⟩ := atEv hL xs.length (by simp)
  have HE : Aside0 (endB (x :: xs) = ((x :: xs).getD xs.length zEv).f1) := ⟨by unfold endB; rw [if_neg (by simp)]; rfl⟩
  have hl : (x :: xs).length = xs.length + 1 := rfl
  clear hL ha hc
  generalize (x :: xs).getD xs.length zEv = o at hb HE
  have d0 : (((xs.length + 1 : Nat) : Int) == 0) = false := by simp; omega
  generalize hnn : (x :: xs).length = n at *
  have h1 : 0 ≤ (n : Int) - 1 := by omega
  have h2 : ((n : Int) - 1).toNat = xs.length := by omega
  have h3 : (n : Int) - 1 < n := by omega
  have d1 : ((n : Int) == 0) = false := by simp; omega
  have HN := Aside0.mk hnn
  clear hnn hl d0
  go_enter Tryz.func39, Tryz.ntmps39
  go_wp2
  go_ret
  exact ⟨by (rw [HE.out]; try rfl), rfl⟩
set_option maxRecDepth 100000 in
theorem l9Key_any (n : Int) (w : World) : Calls Tryz.prog 41 #[.int .i64 n] w fun r w' => r = .returned (.bool (inb n 0 1000)) ∧ w' = w := by
 by_cases h0 : 0 ≤ n
 ·have d0 : decide (n ≥ 0) = true := decide_eq_true h0
  have HE : Aside0 (inb n 0 1000 = decide (n ≤ 1000)) := ⟨by unfold inb; rw [decide_eq_true h0]; rfl⟩
  go_enter Tryz.func41, Tryz.ntmps41
  go_wp2
  go_ret
  exact ⟨by rw [HE.out]; rfl, rfl⟩
 ·have d0 : decide (n ≥ 0) = false := decide_eq_false h0
  have HE : Aside0 (inb n 0 1000 = false) := ⟨by unfold inb; rw [decide_eq_false h0]; rfl⟩
  go_enter Tryz.func41, Tryz.ntmps41
  go_wp2
  go_ret
  exact ⟨by rw [HE.out]; rfl, rfl⟩
end Go.Proofs.YtckblabkapeigaaGreat.Ov9
