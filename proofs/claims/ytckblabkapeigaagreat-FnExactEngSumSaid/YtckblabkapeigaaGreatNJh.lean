
/- Is an expression right: the program's. -/
import Derived.Test.YtckblabkapeigaaGreatNJg
set_option linter.unusedVariables false
set_option linter.unusedSimpArgs false
namespace Go.Proofs.YtckblabkapeigaaGreat.Jh
open Go.RowKit Go.Proofs.YtckblabkapeigaaGreatW.PrintWords Go.Proofs.YtckblabkapeigaaGreat.Ja Go.Proofs.YtckblabkapeigaaGreat.Jb Go.Proofs.YtckblabkapeigaaGreat.Jc Go.Proofs.YtckblabkapeigaaGreat.Jd Go.Proofs.YtckblabkapeigaaGreat.Jg

abbrev bad (x : Ex) : Bool := !formB x
theorem any_snoc {l : List Ex} {k : Nat} (p : Ex → Bool) (h : k < l.length) : (l.take (k + 1)).any p = ((l.take k).any p || p (l.getD k zE)) := by
 rw [take_snoc l k zE h, List.any_append]; simp
theorem any_of {l : List Ex} {k : Nat} (p : Ex → Bool) (h : k < l.length) (hp : p (l.getD k zE) = true) : l.any p = true := List.any_eq_true.2 ⟨_, getE_mem h, hp⟩
abbrev FormCall (x : Ex) : Prop := ∀ A c w, IsEL 50 w x.f3 A c → Calls Tryz.prog 124 #[X x.f0 x.f1 x.f2 A x.f3.length c] w fun e w' => e = .returned (.bool (formB x)) ∧ Below w.heap.size w w'
set_option maxRecDepth 100000 in
theorem formed1_of (x : Ex) (hx : FormCall x) (A : Option Addr) (c : Nat) (w : World) (hL : IsEL 50 w x.f3 A c) :
  Calls Tryz.prog 138 #[X x.f0 x.f1 x.f2 A x.f3.length c] w fun e w' => e = .returned (.bool (bad x)) ∧ Below w.heap.size w w' := by
 have hbx := box4 w (.int .i64 x.f0) (.int .i64 x.f1) (.int .i64 x.f2) (.slice A x.f3.length c) 50
 have HX := Aside0.mk hbx.1
 have HL := Aside0.mk (hL.below hbx.1)
 have HC := Aside0.mk hx
 obtain ⟨b, hb⟩ : ∃ b, b = formB x := ⟨_, rfl⟩
 have HBB := Aside0.mk hb
 clear hbx hL hx hb
 go_enter Tryz.func138, Tryz.ntmps138
 go_wp2_with (go_at_call 124; refine (HC.out A c _ HL.out).mono ?_; rintro e w2 ⟨rfl, hb2⟩; rw [← HBB.out]; have HB2 := Aside0.mk (below_then HX.out HX.out.size hb2); clear hb2)
 go_ret
 exact ⟨ret_bool (by show (!b) = !formB x; rw [HBB.out]), HB2.out⟩
set_option maxHeartbeats 1000000 in
set_option maxRecDepth 100000 in
theorem indexForm_of (A : Option Addr) (c : Nat) (l : List Ex) (hE : ∀ x, x ∈ l → FormCall x) (w : World) (hL : IsEL 50 w l A c) :
  Calls Tryz.prog 140 #[.slice A l.length c, .func (.func 138) #[] #[]] w fun e w' => (∃ r : Int, e = .returned (.int .i64 r) ∧ decide (r ≥ 0) = l.any bad) ∧ Below w.heap.size w w' := by
 have hn := hL.len
 have HL := Aside0.mk hL
 have HE := Aside0.mk hE
 clear hL hE
 go_enter Tryz.func140, Tryz.ntmps140
 go_wp2
 go_loopw [8] (fun vi wr => ∃ (k : Nat), k ≤ l.length ∧ vi = .int .i64 k ∧ Aside0 ((l.take k).any bad = false) ∧ Aside0 (Below w.heap.size w wr)) (fun vi _ => l.length - (intOf vi).toNat)
 case atStart => exact ⟨0, Nat.zero_le _, rfl, ⟨by simp⟩, ⟨Below.refl _ _⟩⟩
 case round =>
  obtain ⟨k, hk, rfl, HN, HB⟩ := hrel
  by_cases hlt : k < l.length
  ·have g1 : decide (k < l.length) = true := decide_eq_true hlt
   have i1 : (k : Int) < l.length := by omega
   obtain ⟨ad, A2, c2, rfl, q0, q1, q2, q3, pL⟩ := atE (HL.out.below HB.out) k hlt
   have HS := Aside0.mk (any_snoc bad hlt)
   have HA := Aside0.mk (any_of bad hlt)
   have HQ := Aside0.mk (formed1_of _ (HE.out _ (getE_mem hlt)))
   generalize l.getD k zE = z at q0 q1 q2 q3 pL HS HA HQ
   have HPL := Aside0.mk pL
   clear pL
   cases hd : bad z with
   | false =>
    have HE2 : Aside0 ((l.take (k + 1)).any bad = false) := ⟨by rw [HS.out, HN.out, hd]; rfl⟩
    have HD := Aside0.mk hd
    clear hd
    go_wp2_with (go_at_call 138; refine (HQ.out A2 c2 _ HPL.out).mono ?_; rintro e w1 ⟨rfl, hb1⟩; rw [HD.out]; have HB1 := Aside0.mk (below_then HB.out HB.out.size hb1); clear hb1)
    go_roundw
    case rel => exact ⟨k + 1, by omega, by go_num, HE2, HB1⟩
    case measure => simp [intOf]; omega
   | true =>
    have HE2 : Aside0 (l.any bad = true) := ⟨HA.out hd⟩
    have HD := Aside0.mk hd
    clear hd
    go_wp2_with (go_at_call 138; refine (HQ.out A2 c2 _ HPL.out).mono ?_; rintro e w1 ⟨rfl, hb1⟩; rw [HD.out]; have HB1 := Aside0.mk (below_then HB.out HB.out.size hb1); clear hb1)
    go_ret
    exact ⟨⟨(k : Int), rfl, by rw [HE2.out]; exact decide_eq_true (by omega)⟩, HB1.out⟩
  ·have hke : k = l.length := by omega
   subst hke
   have g1 : decide (l.length < l.length) = false := decide_eq_false (by omega)
   have HE2 : Aside0 (l.any bad = false) := ⟨by have h := HN.out; rwa [List.take_length] at h⟩
   go_wp2
   go_ret
   exact ⟨⟨-1, rfl, by rw [HE2.out]; rfl⟩, HB.out⟩
set_option maxRecDepth 100000 in
theorem hasBad_of (A : Option Addr) (c : Nat) (l : List Ex) (hE : ∀ x, x ∈ l → FormCall x) (w : World) (hL : IsEL 50 w l A c) :
  Calls Tryz.prog 137 #[.slice A l.length c, .func (.func 138) #[] #[]] w fun e w' => e = .returned (.bool (l.any bad)) ∧ Below w.heap.size w w' := by
 go_enter Tryz.func137, Tryz.ntmps137
 go_wp2_with (go_at_call 140; refine (indexForm_of A c l hE _ hL).mono ?_; rintro e w1 ⟨⟨r, rfl, hr⟩, hb1⟩; have HR := Aside0.mk hr; have HB := Aside0.mk hb1; clear hr hb1)
 go_ret
 exact ⟨ret_bool HR.out, HB.out⟩

theorem form_no {f0 f1 f2 : Int} {l : List Ex} {fb : Bool} (h : fb = formB (.mk f0 f1 f2 l)) (hn : ¬ HeadOk f0 f1 f2 l.length) : fb = false := by
 rw [h, formB_eq]
 show (decide (HeadOk f0 f1 f2 l.length) && formL l) = false
 rw [decide_eq_false hn, Bool.false_and]
theorem form_yes {f0 f1 f2 : Int} {l : List Ex} {fb : Bool} (h : fb = formB (.mk f0 f1 f2 l)) (hn : HeadOk f0 f1 f2 l.length) : (!(l.any bad)) = fb := by
 rw [h, formB_eq]
 show _ = (decide (HeadOk f0 f1 f2 l.length) && formL l)
 rw [decide_eq_true hn, Bool.true_and]
 exact formL_any l
theorem inb_t {n a b : Int} (h : a ≤ n ∧ n ≤ b) : inb n a b = true := by simp [inb, h.1, h.2]
theorem inb_f {n a b : Int} (h : ¬ (a ≤ n ∧ n ≤ b)) : inb n a b = false := by
 unfold inb
 by_cases h1 : a ≤ n
 ·have h2 : ¬ n ≤ b := fun g => h ⟨h1, g⟩
  simp [h2]
 ·simp [h1]
theorem ne_t {a b : Int} (h : ¬ a = b) : (a != b) = true := by simp [h]
theorem ne_f {a b : Int} (h : a = b) : (a != b) = false := by simp [h]
theorem eq_t {a b : Int} (h : a = b) : (a == b) = true := by simp [h]
theorem eq_f {a b : Int} (h : ¬ a = b) : (a == b) = false := by simp [h]
set_option maxHeartbeats 8000000 in
set_option maxRecDepth 100000 in
theorem formed_of (f0 f1 f2 : Int) (A : Option Addr) (c : Nat) (l : List Ex) (fb : Bool) (hfb : fb = formB (.mk f0 f1 f2 l)) (w : World) (hL : IsEL 50 w l A c) (hE : ∀ x, x ∈ l → FormCall x) :
  Calls Tryz.prog 124 #[X f0 f1 f2 A l.length c] w fun e w' => e = .returned (.bool fb) ∧ Below w.heap.size w w' := by
 have hbx := box4 w (.int .i64 f0) (.int .i64 f1) (.int .i64 f2) (.slice A l.length c) 50
 have hn := hL.len
 obtain ⟨W, hW⟩ : ∃ W, W = w.alloc (.cells #[.int .i64 f0, .int .i64 f1, .int .i64 f2, .slice A l.length c] 50) := ⟨_, rfl⟩
 rw [← hW] at hbx
 have HW := Aside0.mk hW
 have HB0 := Aside0.mk hbx.1
 have HL := Aside0.mk (hL.below hbx.1)
 have HE := Aside0.mk hE
 have e0 := cellE hbx.2.1
 have e1 := cellE hbx.2.2.1
 have e2 := cellE hbx.2.2.2.1
 have e3 := cellE hbx.2.2.2.2
 clear hbx hL hE hW
 by_cases hkd : 1 ≤ f0 ∧ f0 ≤ 7
 ·have hk : ∀ s : Ext W, Calls Tryz.prog 125 #[.int .i64 f0] s.1 fun e w'' => e = .returned (.bool true) ∧ Below s.1.heap.size s.1 w'' := fun s => (isKind_any f0 s.1).mono (fun e w' ⟨h1, h2⟩ => ⟨by rw [h1, inb_t hkd], by rw [h2]; exact Below.refl _ _⟩)
  have hc0 : ∀ s : Ext W, Calls Tryz.prog 126 #[.int .i64 f0] s.1 fun e w'' => e = .returned (.int .i64 (kidsN f0)) ∧ Below s.1.heap.size s.1 w'' := fun s => kids_any f0 hkd.1 hkd.2 s.1
  obtain ⟨kn, hkn⟩ : ∃ kn, kn = kidsN f0 := ⟨_, rfl⟩
  rw [← hkn] at hc0
  have hc := hc0
  clear hc0
  by_cases hm : (l.length : Int) = kn
  ·have n0 : ((l.length : Int) != kn) = false := ne_f hm
   by_cases h1 : f0 = 1
   ·have h7 : ¬ f0 = 7 := by omega
    have k1 : (f0 == 1) = true := eq_t h1
    have k1n : (f0 != 1) = false := ne_f h1
    have k7 : (f0 == 7) = false := eq_f h7
    have k7n : (f0 != 7) = true := ne_t h7
    by_cases hs : 0 ≤ f1 ∧ f1 ≤ 4
    ·have HSY := Aside0.mk (inb_t hs)
     by_cases hp : f2 = 0
     ·have HIN : Aside0 (inb f2 1 20 = inb f2 1 20) := ⟨rfl⟩
      have p0 : (f2 != 0) = false := ne_f hp
      obtain ⟨q, hq⟩ : ∃ q, q = l.any bad := ⟨_, rfl⟩
      have HQ := Aside0.mk hq
      have HF : Aside0 ((!q) = fb) := ⟨by rw [hq]; exact form_yes hfb ⟨hkd, hm.trans hkn, by omega, fun _ => by omega, fun _ => by omega, fun _ => by omega⟩⟩
      clear hq hp hs h1 h7 hm hkn hkd hfb
      go_enter Tryz.func124, Tryz.ntmps124
      go_upto_region 1 with fail
      rw [← HW.out]
      refine region_ext (W := W) (Below.refl _ _) (by kernel_rfl) (by kernel_rfl) ?_
      repeat (first | go_big_quiet_step ((first | (go_at_call 125; exact calls_ext (hk _)) | (go_at_call 126; exact calls_ext (hc _)))) | quiet_step ((first | (go_at_call 125; exact calls_ext (hk _)) | (go_at_call 126; exact calls_ext (hc _)))))
      refine wpQuiet_nil ?_
      rintro _ ⟨s, rfl⟩
      have c0 := e0 s
      have c1 := e1 s
      have c2 := e2 s
      have c3 := e3 s
      have HB2 := Aside0.mk s.2
      clear e0 e1 e2 e3 hk hc
      generalize s.1 = W2 at c0 c1 c2 c3 HB2 ⊢
      go_wp2_with (first | (go_at_call 107; refine (isSym_any f1 _).mono ?_; rintro e w9 ⟨rfl, rfl⟩; rw [HSY.out]) | (go_at_call 54; refine (in_any f2 1 20 _).mono ?_; rintro e w9 ⟨rfl, rfl⟩; rw [HIN.out]) | (go_at_call 137; refine (hasBad_of A c l HE.out _ (HL.out.below HB2.out)).mono ?_; rintro e w9 ⟨rfl, hb9⟩; have HB9 := Aside0.mk (below_then HB0.out HB0.out.size (below_then HB2.out HB2.out.size hb9)); clear hb9; rw [← HQ.out]))
      go_ret
      exact ⟨ret_bool HF.out, HB9.out⟩
     ·have HIN : Aside0 (inb f2 1 20 = inb f2 1 20) := ⟨rfl⟩
      have p0 : (f2 != 0) = true := ne_t hp
      have HQ : Aside0 (l.any bad = l.any bad) := ⟨rfl⟩
      have HF : Aside0 (fb = false) := ⟨form_no hfb (fun g => hp (g.noN h7))⟩
      clear hp hs h1 h7 hm hkn hkd hfb
      go_enter Tryz.func124, Tryz.ntmps124
      go_upto_region 1 with fail
      rw [← HW.out]
      refine region_ext (W := W) (Below.refl _ _) (by kernel_rfl) (by kernel_rfl) ?_
      repeat (first | go_big_quiet_step ((first | (go_at_call 125; exact calls_ext (hk _)) | (go_at_call 126; exact calls_ext (hc _)))) | quiet_step ((first | (go_at_call 125; exact calls_ext (hk _)) | (go_at_call 126; exact calls_ext (hc _)))))
      refine wpQuiet_nil ?_
      rintro _ ⟨s, rfl⟩
      have c0 := e0 s
      have c1 := e1 s
      have c2 := e2 s
      have c3 := e3 s
      have HB2 := Aside0.mk s.2
      clear e0 e1 e2 e3 hk hc
      generalize s.1 = W2 at c0 c1 c2 c3 HB2 ⊢
      go_wp2_with (first | (go_at_call 107; refine (isSym_any f1 _).mono ?_; rintro e w9 ⟨rfl, rfl⟩; rw [HSY.out]) | (go_at_call 54; refine (in_any f2 1 20 _).mono ?_; rintro e w9 ⟨rfl, rfl⟩; rw [HIN.out]) | (go_at_call 137; refine (hasBad_of A c l HE.out _ (HL.out.below HB2.out)).mono ?_; rintro e w9 ⟨rfl, hb9⟩; have HB9 := Aside0.mk (below_then HB0.out HB0.out.size (below_then HB2.out HB2.out.size hb9)); clear hb9; rw [← HQ.out]))
      go_ret
      exact ⟨ret_bool HF.out.symm, below_then HB0.out HB0.out.size HB2.out⟩
    ·have HSY := Aside0.mk (inb_f hs)
     have HIN : Aside0 (inb f2 1 20 = inb f2 1 20) := ⟨rfl⟩
     have HQ : Aside0 (l.any bad = l.any bad) := ⟨rfl⟩
     have HF : Aside0 (fb = false) := ⟨form_no hfb (fun g => hs g.sym)⟩
     clear hs h1 h7 hm hkn hkd hfb
     go_enter Tryz.func124, Tryz.ntmps124
     go_upto_region 1 with fail
     rw [← HW.out]
     refine region_ext (W := W) (Below.refl _ _) (by kernel_rfl) (by kernel_rfl) ?_
     repeat (first | go_big_quiet_step ((first | (go_at_call 125; exact calls_ext (hk _)) | (go_at_call 126; exact calls_ext (hc _)))) | quiet_step ((first | (go_at_call 125; exact calls_ext (hk _)) | (go_at_call 126; exact calls_ext (hc _)))))
     refine wpQuiet_nil ?_
     rintro _ ⟨s, rfl⟩
     have c0 := e0 s
     have c1 := e1 s
     have c2 := e2 s
     have c3 := e3 s
     have HB2 := Aside0.mk s.2
     clear e0 e1 e2 e3 hk hc
     generalize s.1 = W2 at c0 c1 c2 c3 HB2 ⊢
     go_wp2_with (first | (go_at_call 107; refine (isSym_any f1 _).mono ?_; rintro e w9 ⟨rfl, rfl⟩; rw [HSY.out]) | (go_at_call 54; refine (in_any f2 1 20 _).mono ?_; rintro e w9 ⟨rfl, rfl⟩; rw [HIN.out]) | (go_at_call 137; refine (hasBad_of A c l HE.out _ (HL.out.below HB2.out)).mono ?_; rintro e w9 ⟨rfl, hb9⟩; have HB9 := Aside0.mk (below_then HB0.out HB0.out.size (below_then HB2.out HB2.out.size hb9)); clear hb9; rw [← HQ.out]))
     go_ret
     exact ⟨ret_bool HF.out.symm, below_then HB0.out HB0.out.size HB2.out⟩
   ·by_cases h7 : f0 = 7
    ·skip
     have k1 : (f0 == 1) = false := eq_f h1
     have k1n : (f0 != 1) = true := ne_t h1
     have k7 : (f0 == 7) = true := eq_t h7
     have k7n : (f0 != 7) = false := ne_f h7
     by_cases hs : f1 = 0
     ·have HSY : Aside0 (inb f1 0 4 = inb f1 0 4) := ⟨rfl⟩
      have s0 : (f1 != 0) = false := ne_f hs
      by_cases hp : 1 ≤ f2 ∧ f2 ≤ 20
      ·have HIN := Aside0.mk (inb_t hp)
       obtain ⟨q, hq⟩ : ∃ q, q = l.any bad := ⟨_, rfl⟩
       have HQ := Aside0.mk hq
       have HF : Aside0 ((!q) = fb) := ⟨by rw [hq]; exact form_yes hfb ⟨hkd, hm.trans hkn, by omega, fun _ => by omega, fun _ => by omega, fun _ => by omega⟩⟩
       clear hq hp hs h1 h7 hm hkn hkd hfb
       go_enter Tryz.func124, Tryz.ntmps124
       go_upto_region 1 with fail
       rw [← HW.out]
       refine region_ext (W := W) (Below.refl _ _) (by kernel_rfl) (by kernel_rfl) ?_
       repeat (first | go_big_quiet_step ((first | (go_at_call 125; exact calls_ext (hk _)) | (go_at_call 126; exact calls_ext (hc _)))) | quiet_step ((first | (go_at_call 125; exact calls_ext (hk _)) | (go_at_call 126; exact calls_ext (hc _)))))
       refine wpQuiet_nil ?_
       rintro _ ⟨s, rfl⟩
       have c0 := e0 s
       have c1 := e1 s
       have c2 := e2 s
       have c3 := e3 s
       have HB2 := Aside0.mk s.2
       clear e0 e1 e2 e3 hk hc
       generalize s.1 = W2 at c0 c1 c2 c3 HB2 ⊢
       go_wp2_with (first | (go_at_call 107; refine (isSym_any f1 _).mono ?_; rintro e w9 ⟨rfl, rfl⟩; rw [HSY.out]) | (go_at_call 54; refine (in_any f2 1 20 _).mono ?_; rintro e w9 ⟨rfl, rfl⟩; rw [HIN.out]) | (go_at_call 137; refine (hasBad_of A c l HE.out _ (HL.out.below HB2.out)).mono ?_; rintro e w9 ⟨rfl, hb9⟩; have HB9 := Aside0.mk (below_then HB0.out HB0.out.size (below_then HB2.out HB2.out.size hb9)); clear hb9; rw [← HQ.out]))
       go_ret
       exact ⟨ret_bool HF.out, HB9.out⟩
      ·have HIN := Aside0.mk (inb_f hp)
       have HQ : Aside0 (l.any bad = l.any bad) := ⟨rfl⟩
       have HF : Aside0 (fb = false) := ⟨form_no hfb (fun g => hp (g.plus h7))⟩
       clear hp hs h1 h7 hm hkn hkd hfb
       go_enter Tryz.func124, Tryz.ntmps124
       go_upto_region 1 with fail
       rw [← HW.out]
       refine region_ext (W := W) (Below.refl _ _) (by kernel_rfl) (by kernel_rfl) ?_
       repeat (first | go_big_quiet_step ((first | (go_at_call 125; exact calls_ext (hk _)) | (go_at_call 126; exact calls_ext (hc _)))) | quiet_step ((first | (go_at_call 125; exact calls_ext (hk _)) | (go_at_call 126; exact calls_ext (hc _)))))
       refine wpQuiet_nil ?_
       rintro _ ⟨s, rfl⟩
       have c0 := e0 s
       have c1 := e1 s
       have c2 := e2 s
       have c3 := e3 s
       have HB2 := Aside0.mk s.2
       clear e0 e1 e2 e3 hk hc
       generalize s.1 = W2 at c0 c1 c2 c3 HB2 ⊢
       go_wp2_with (first | (go_at_call 107; refine (isSym_any f1 _).mono ?_; rintro e w9 ⟨rfl, rfl⟩; rw [HSY.out]) | (go_at_call 54; refine (in_any f2 1 20 _).mono ?_; rintro e w9 ⟨rfl, rfl⟩; rw [HIN.out]) | (go_at_call 137; refine (hasBad_of A c l HE.out _ (HL.out.below HB2.out)).mono ?_; rintro e w9 ⟨rfl, hb9⟩; have HB9 := Aside0.mk (below_then HB0.out HB0.out.size (below_then HB2.out HB2.out.size hb9)); clear hb9; rw [← HQ.out]))
       go_ret
       exact ⟨ret_bool HF.out.symm, below_then HB0.out HB0.out.size HB2.out⟩
     ·have HSY : Aside0 (inb f1 0 4 = inb f1 0 4) := ⟨rfl⟩
      have s0 : (f1 != 0) = true := ne_t hs
      have HIN : Aside0 (inb f2 1 20 = inb f2 1 20) := ⟨rfl⟩
      have HQ : Aside0 (l.any bad = l.any bad) := ⟨rfl⟩
      have HF : Aside0 (fb = false) := ⟨form_no hfb (fun g => hs (g.no h1))⟩
      clear hs h1 h7 hm hkn hkd hfb
      go_enter Tryz.func124, Tryz.ntmps124
      go_upto_region 1 with fail
      rw [← HW.out]
      refine region_ext (W := W) (Below.refl _ _) (by kernel_rfl) (by kernel_rfl) ?_
      repeat (first | go_big_quiet_step ((first | (go_at_call 125; exact calls_ext (hk _)) | (go_at_call 126; exact calls_ext (hc _)))) | quiet_step ((first | (go_at_call 125; exact calls_ext (hk _)) | (go_at_call 126; exact calls_ext (hc _)))))
      refine wpQuiet_nil ?_
      rintro _ ⟨s, rfl⟩
      have c0 := e0 s
      have c1 := e1 s
      have c2 := e2 s
      have c3 := e3 s
      have HB2 := Aside0.mk s.2
      clear e0 e1 e2 e3 hk hc
      generalize s.1 = W2 at c0 c1 c2 c3 HB2 ⊢
      go_wp2_with (first | (go_at_call 107; refine (isSym_any f1 _).mono ?_; rintro e w9 ⟨rfl, rfl⟩; rw [HSY.out]) | (go_at_call 54; refine (in_any f2 1 20 _).mono ?_; rintro e w9 ⟨rfl, rfl⟩; rw [HIN.out]) | (go_at_call 137; refine (hasBad_of A c l HE.out _ (HL.out.below HB2.out)).mono ?_; rintro e w9 ⟨rfl, hb9⟩; have HB9 := Aside0.mk (below_then HB0.out HB0.out.size (below_then HB2.out HB2.out.size hb9)); clear hb9; rw [← HQ.out]))
      go_ret
      exact ⟨ret_bool HF.out.symm, below_then HB0.out HB0.out.size HB2.out⟩
    ·skip
     have k1 : (f0 == 1) = false := eq_f h1
     have k1n : (f0 != 1) = true := ne_t h1
     have k7 : (f0 == 7) = false := eq_f h7
     have k7n : (f0 != 7) = true := ne_t h7
     by_cases hs : f1 = 0
     ·have HSY : Aside0 (inb f1 0 4 = inb f1 0 4) := ⟨rfl⟩
      have s0 : (f1 != 0) = false := ne_f hs
      by_cases hp : f2 = 0
      ·have HIN : Aside0 (inb f2 1 20 = inb f2 1 20) := ⟨rfl⟩
       have p0 : (f2 != 0) = false := ne_f hp
       obtain ⟨q, hq⟩ : ∃ q, q = l.any bad := ⟨_, rfl⟩
       have HQ := Aside0.mk hq
       have HF : Aside0 ((!q) = fb) := ⟨by rw [hq]; exact form_yes hfb ⟨hkd, hm.trans hkn, by omega, fun _ => by omega, fun _ => by omega, fun _ => by omega⟩⟩
       clear hq hp hs h1 h7 hm hkn hkd hfb
       go_enter Tryz.func124, Tryz.ntmps124
       go_upto_region 1 with fail
       rw [← HW.out]
       refine region_ext (W := W) (Below.refl _ _) (by kernel_rfl) (by kernel_rfl) ?_
       repeat (first | go_big_quiet_step ((first | (go_at_call 125; exact calls_ext (hk _)) | (go_at_call 126; exact calls_ext (hc _)))) | quiet_step ((first | (go_at_call 125; exact calls_ext (hk _)) | (go_at_call 126; exact calls_ext (hc _)))))
       refine wpQuiet_nil ?_
       rintro _ ⟨s, rfl⟩
       have c0 := e0 s
       have c1 := e1 s
       have c2 := e2 s
       have c3 := e3 s
       have HB2 := Aside0.mk s.2
       clear e0 e1 e2 e3 hk hc
       generalize s.1 = W2 at c0 c1 c2 c3 HB2 ⊢
       go_wp2_with (first | (go_at_call 107; refine (isSym_any f1 _).mono ?_; rintro e w9 ⟨rfl, rfl⟩; rw [HSY.out]) | (go_at_call 54; refine (in_any f2 1 20 _).mono ?_; rintro e w9 ⟨rfl, rfl⟩; rw [HIN.out]) | (go_at_call 137; refine (hasBad_of A c l HE.out _ (HL.out.below HB2.out)).mono ?_; rintro e w9 ⟨rfl, hb9⟩; have HB9 := Aside0.mk (below_then HB0.out HB0.out.size (below_then HB2.out HB2.out.size hb9)); clear hb9; rw [← HQ.out]))
       go_ret
       exact ⟨ret_bool HF.out, HB9.out⟩
      ·have HIN : Aside0 (inb f2 1 20 = inb f2 1 20) := ⟨rfl⟩
       have p0 : (f2 != 0) = true := ne_t hp
       have HQ : Aside0 (l.any bad = l.any bad) := ⟨rfl⟩
       have HF : Aside0 (fb = false) := ⟨form_no hfb (fun g => hp (g.noN h7))⟩
       clear hp hs h1 h7 hm hkn hkd hfb
       go_enter Tryz.func124, Tryz.ntmps124
       go_upto_region 1 with fail
       rw [← HW.out]
       refine region_ext (W := W) (Below.refl _ _) (by kernel_rfl) (by kernel_rfl) ?_
       repeat (first | go_big_quiet_step ((first | (go_at_call 125; exact calls_ext (hk _)) | (go_at_call 126; exact calls_ext (hc _)))) | quiet_step ((first | (go_at_call 125; exact calls_ext (hk _)) | (go_at_call 126; exact calls_ext (hc _)))))
       refine wpQuiet_nil ?_
       rintro _ ⟨s, rfl⟩
       have c0 := e0 s
       have c1 := e1 s
       have c2 := e2 s
       have c3 := e3 s
       have HB2 := Aside0.mk s.2
       clear e0 e1 e2 e3 hk hc
       generalize s.1 = W2 at c0 c1 c2 c3 HB2 ⊢
       go_wp2_with (first | (go_at_call 107; refine (isSym_any f1 _).mono ?_; rintro e w9 ⟨rfl, rfl⟩; rw [HSY.out]) | (go_at_call 54; refine (in_any f2 1 20 _).mono ?_; rintro e w9 ⟨rfl, rfl⟩; rw [HIN.out]) | (go_at_call 137; refine (hasBad_of A c l HE.out _ (HL.out.below HB2.out)).mono ?_; rintro e w9 ⟨rfl, hb9⟩; have HB9 := Aside0.mk (below_then HB0.out HB0.out.size (below_then HB2.out HB2.out.size hb9)); clear hb9; rw [← HQ.out]))
       go_ret
       exact ⟨ret_bool HF.out.symm, below_then HB0.out HB0.out.size HB2.out⟩
     ·have HSY : Aside0 (inb f1 0 4 = inb f1 0 4) := ⟨rfl⟩
      have s0 : (f1 != 0) = true := ne_t hs
      have HIN : Aside0 (inb f2 1 20 = inb f2 1 20) := ⟨rfl⟩
      have HQ : Aside0 (l.any bad = l.any bad) := ⟨rfl⟩
      have HF : Aside0 (fb = false) := ⟨form_no hfb (fun g => hs (g.no h1))⟩
      clear hs h1 h7 hm hkn hkd hfb
      go_enter Tryz.func124, Tryz.ntmps124
      go_upto_region 1 with fail
      rw [← HW.out]
      refine region_ext (W := W) (Below.refl _ _) (by kernel_rfl) (by kernel_rfl) ?_
      repeat (first | go_big_quiet_step ((first | (go_at_call 125; exact calls_ext (hk _)) | (go_at_call 126; exact calls_ext (hc _)))) | quiet_step ((first | (go_at_call 125; exact calls_ext (hk _)) | (go_at_call 126; exact calls_ext (hc _)))))
      refine wpQuiet_nil ?_
      rintro _ ⟨s, rfl⟩
      have c0 := e0 s
      have c1 := e1 s
      have c2 := e2 s
      have c3 := e3 s
      have HB2 := Aside0.mk s.2
      clear e0 e1 e2 e3 hk hc
      generalize s.1 = W2 at c0 c1 c2 c3 HB2 ⊢
      go_wp2_with (first | (go_at_call 107; refine (isSym_any f1 _).mono ?_; rintro e w9 ⟨rfl, rfl⟩; rw [HSY.out]) | (go_at_call 54; refine (in_any f2 1 20 _).mono ?_; rintro e w9 ⟨rfl, rfl⟩; rw [HIN.out]) | (go_at_call 137; refine (hasBad_of A c l HE.out _ (HL.out.below HB2.out)).mono ?_; rintro e w9 ⟨rfl, hb9⟩; have HB9 := Aside0.mk (below_then HB0.out HB0.out.size (below_then HB2.out HB2.out.size hb9)); clear hb9; rw [← HQ.out]))
      go_ret
      exact ⟨ret_bool HF.out.symm, below_then HB0.out HB0.out.size HB2.out⟩
  ·have n0 : ((l.length : Int) != kn) = true := ne_t hm
   have HSY : Aside0 (inb f1 0 4 = inb f1 0 4) := ⟨rfl⟩
   have HIN : Aside0 (inb f2 1 20 = inb f2 1 20) := ⟨rfl⟩
   have HQ : Aside0 (l.any bad = l.any bad) := ⟨rfl⟩
   have HF : Aside0 (fb = false) := ⟨form_no hfb (fun g => hm (g.kids.trans hkn.symm))⟩
   clear hm hkn hkd hfb
   go_enter Tryz.func124, Tryz.ntmps124
   go_upto_region 1 with fail
   rw [← HW.out]
   refine region_ext (W := W) (Below.refl _ _) (by kernel_rfl) (by kernel_rfl) ?_
   repeat (first | go_big_quiet_step ((first | (go_at_call 125; exact calls_ext (hk _)) | (go_at_call 126; exact calls_ext (hc _)))) | quiet_step ((first | (go_at_call 125; exact calls_ext (hk _)) | (go_at_call 126; exact calls_ext (hc _)))))
   refine wpQuiet_nil ?_
   rintro _ ⟨s, rfl⟩
   have c0 := e0 s
   have c1 := e1 s
   have c2 := e2 s
   have c3 := e3 s
   have HB2 := Aside0.mk s.2
   clear e0 e1 e2 e3 hk hc
   generalize s.1 = W2 at c0 c1 c2 c3 HB2 ⊢
   go_wp2_with (first | (go_at_call 107; refine (isSym_any f1 _).mono ?_; rintro e w9 ⟨rfl, rfl⟩; rw [HSY.out]) | (go_at_call 54; refine (in_any f2 1 20 _).mono ?_; rintro e w9 ⟨rfl, rfl⟩; rw [HIN.out]) | (go_at_call 137; refine (hasBad_of A c l HE.out _ (HL.out.below HB2.out)).mono ?_; rintro e w9 ⟨rfl, hb9⟩; have HB9 := Aside0.mk (below_then HB0.out HB0.out.size (below_then HB2.out HB2.out.size hb9)); clear hb9; rw [← HQ.out]))
   go_ret
   exact ⟨ret_bool HF.out.symm, below_then HB0.out HB0.out.size HB2.out⟩
 ·have hk : ∀ s : Ext W, Calls Tryz.prog 125 #[.int .i64 f0] s.1 fun e w'' => e = .returned (.bool false) ∧ Below s.1.heap.size s.1 w'' := fun s => (isKind_any f0 s.1).mono (fun e w' ⟨h1, h2⟩ => ⟨by rw [h1, inb_f hkd], by rw [h2]; exact Below.refl _ _⟩)
  have HSY : Aside0 (inb f1 0 4 = inb f1 0 4) := ⟨rfl⟩
  have HIN : Aside0 (inb f2 1 20 = inb f2 1 20) := ⟨rfl⟩
  have HQ : Aside0 (l.any bad = l.any bad) := ⟨rfl⟩
  have HF : Aside0 (fb = false) := ⟨form_no hfb (fun g => hkd g.kind)⟩
  clear hkd hfb
  go_enter Tryz.func124, Tryz.ntmps124
  go_upto_region 1 with fail
  rw [← HW.out]
  refine region_ext (W := W) (Below.refl _ _) (by kernel_rfl) (by kernel_rfl) ?_
  repeat (first | go_big_quiet_step ((go_at_call 125; exact calls_ext (hk _))) | quiet_step ((go_at_call 125; exact calls_ext (hk _))))
  refine wpQuiet_nil ?_
  rintro _ ⟨s, rfl⟩
  have c0 := e0 s
  have c1 := e1 s
  have c2 := e2 s
  have c3 := e3 s
  have HB2 := Aside0.mk s.2
  clear e0 e1 e2 e3 hk
  generalize s.1 = W2 at c0 c1 c2 c3 HB2 ⊢
  go_wp2_with (first | (go_at_call 107; refine (isSym_any f1 _).mono ?_; rintro e w9 ⟨rfl, rfl⟩; rw [HSY.out]) | (go_at_call 54; refine (in_any f2 1 20 _).mono ?_; rintro e w9 ⟨rfl, rfl⟩; rw [HIN.out]) | (go_at_call 137; refine (hasBad_of A c l HE.out _ (HL.out.below HB2.out)).mono ?_; rintro e w9 ⟨rfl, hb9⟩; have HB9 := Aside0.mk (below_then HB0.out HB0.out.size (below_then HB2.out HB2.out.size hb9)); clear hb9; rw [← HQ.out]))
  go_ret
  exact ⟨ret_bool HF.out.symm, below_then HB0.out HB0.out.size HB2.out⟩
theorem formed_any (x : Ex) : FormCall x := fun A c w hL => formed_of x.f0 x.f1 x.f2 A c x.f3 _ (by cases x; rfl) w hL (fun y hy =>
 have := cnt_mem hy
 formed_any y)
termination_by cntL x.f3
end Go.Proofs.YtckblabkapeigaaGreat.Jh
