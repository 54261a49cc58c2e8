
/- Is an expression valid: the reference's. -/
import Derived.Test.YtckblabkapeigaaGreatNJh
set_option linter.unusedVariables false
set_option linter.unusedSimpArgs false
namespace Go.Proofs.YtckblabkapeigaaGreat.Jj
open Go.RowKit Go.Proofs.YtckblabkapeigaaGreatW.PrintWords Go.Proofs.YtckblabkapeigaaGreat.Ja Go.Proofs.YtckblabkapeigaaGreat.Jb Go.Proofs.YtckblabkapeigaaGreat.Jc Go.Proofs.YtckblabkapeigaaGreat.Jd Go.Proofs.YtckblabkapeigaaGreat.Jg Go.Proofs.YtckblabkapeigaaGreat.Jh

def kidsS (k : Int) : Int := if 1 ≤ k ∧ k ≤ 7 then kidsN k else -1
set_option maxHeartbeats 1000000 in
set_option maxRecDepth 100000 in
theorem l2Kids_any (k : Int) (w : World) : Calls Tryz.prog 97 #[.int .i64 k] w fun e w' => e = .returned (.int .i64 (kidsS k)) ∧ w' = w := by
 by_cases h : 1 ≤ k ∧ k ≤ 7
 ·rcases (show k = 1 ∨ k = 2 ∨ k = 3 ∨ k = 4 ∨ k = 5 ∨ k = 6 ∨ k = 7 by omega) with rfl | rfl | rfl | rfl | rfl | rfl | rfl
  all_goals
   clear h
   go_enter Tryz.func97, Tryz.ntmps97
   go_wp2
   go_ret
   exact ⟨rfl, rfl⟩
 ·have h1 : (k == 1) = false := eq_f (by omega)
  have h2 : (k == 2) = false := eq_f (by omega)
  have h3 : (k == 3) = false := eq_f (by omega)
  have h4 : (k == 4) = false := eq_f (by omega)
  have h5 : (k == 5) = false := eq_f (by omega)
  have h6 : (k == 6) = false := eq_f (by omega)
  have h7 : (k == 7) = false := eq_f (by omega)
  have HK : Aside0 (kidsS k = -1) := ⟨if_neg h⟩
  clear h
  go_enter Tryz.func97, Tryz.ntmps97
  go_wp2
  go_ret
  exact ⟨by (rw [HK.out]; try rfl), rfl⟩
theorem kidsS_ok {k : Int} {n : Nat} (h : (n : Int) = kidsS k) : (1 ≤ k ∧ k ≤ 7) ∧ (n : Int) = kidsN k := by
 unfold kidsS at h
 by_cases hk : 1 ≤ k ∧ k ≤ 7
 ·rw [if_pos hk] at h; exact ⟨hk, h⟩
 ·rw [if_neg hk] at h; omega
theorem kidsS_no {k : Int} {n : Nat} (hk : 1 ≤ k ∧ k ≤ 7) (h : (n : Int) = kidsN k) : (n : Int) = kidsS k := by rw [h]; exact (if_pos hk).symm

def fitE (x : Ex) (d : Int) : Bool := decide (1 + (deepL x.f3 : Int) ≤ d) && formB x
theorem fit_all : ∀ (l : List Ex) (d : Int), 1 ≤ d → (decide (1 + (deepL l : Int) ≤ d) && formL l) = l.all (fun x => fitE x (d - 1))
 | [], d, h => by rw [deepL_nil, formL_nil]; simp; omega
 | x :: xs, d, h => by
  rw [List.all_cons, ← fit_all xs d h, deepL_cons, formL_cons]
  unfold fitE
  by_cases h1 : 1 + (deepL x.f3 : Int) ≤ d - 1
  ·by_cases h2 : 1 + (deepL xs : Int) ≤ d
   ·rw [decide_eq_true h1, decide_eq_true h2, decide_eq_true (by omega)]; simp
   ·rw [decide_eq_false h2, decide_eq_false (by omega)]; simp
  ·rw [decide_eq_false h1, decide_eq_false (by omega)]; simp
theorem all_snoc {l : List Ex} {k : Nat} (p : Ex → Bool) (h : k < l.length) : (l.take (k + 1)).all p = ((l.take k).all p && p (l.getD k zE)) := by
 rw [take_snoc l k zE h, List.all_append]; simp
theorem all_no {l : List Ex} {k : Nat} (p : Ex → Bool) (h : k < l.length) (hp : p (l.getD k zE) = false) : l.all p = false := by
 rw [List.all_eq_false]
 exact ⟨_, getE_mem h, by rw [hp]; exact Bool.false_ne_true⟩
theorem fit_no {f0 f1 f2 d : Int} {l : List Ex} {fb : Bool} (h : fb = fitE (.mk f0 f1 f2 l) d) (hn : ¬ HeadOk f0 f1 f2 l.length) : fb = false := by
 rw [h]
 unfold fitE
 rw [form_no rfl hn, Bool.and_false]
theorem fit_low {f0 f1 f2 d : Int} {l : List Ex} {fb : Bool} (h : fb = fitE (.mk f0 f1 f2 l) d) (hn : d < 1) : fb = false := by
 rw [h]
 unfold fitE
 show (decide (1 + (deepL l : Int) ≤ d) && _) = false
 rw [decide_eq_false (by omega), Bool.false_and]
theorem fit_yes {f0 f1 f2 d : Int} {l : List Ex} {fb : Bool} (h : fb = fitE (.mk f0 f1 f2 l) d) (hd : 1 ≤ d) (hn : HeadOk f0 f1 f2 l.length) : l.all (fun x => fitE x (d - 1)) = fb := by
 rw [h, ← fit_all l d hd]
 unfold fitE
 rw [formB_eq]
 show _ = (decide (1 + (deepL l : Int) ≤ d) && (decide (HeadOk f0 f1 f2 l.length) && formL l))
 rw [decide_eq_true hn, Bool.true_and]
abbrev FitCall (x : Ex) (d : Int) : Prop := ∀ A c w, IsEL 50 w x.f3 A c → Calls Tryz.prog 117 #[X x.f0 x.f1 x.f2 A x.f3.length c, .int .i64 d] w fun e w' => e = .returned (.bool (fitE x d)) ∧ Below w.heap.size w w'
set_option maxHeartbeats 8000000 in
set_option maxRecDepth 100000 in
theorem l2Form_of (f0 f1 f2 d : Int) (hd0 : 0 ≤ d) (hd5 : d ≤ 5) (A : Option Addr) (c : Nat) (l : List Ex) (fb : Bool) (hfb : fb = fitE (.mk f0 f1 f2 l) d) (w : World) (hL : IsEL 50 w l A c) (hE : ∀ x, x ∈ l → 1 ≤ d → FitCall x (d - 1)) :
  Calls Tryz.prog 117 #[X f0 f1 f2 A l.length c, .int .i64 d] w fun e w' => e = .returned (.bool fb) ∧ Below w.heap.size w w' := by
 have hbx := box4 w (.int .i64 f0) (.int .i64 f1) (.int .i64 f2) (.slice A l.length c) 50
 have hn := hL.len
 obtain ⟨W, hW⟩ : ∃ W, W = w.alloc (.cells #[.int .i64 f0, .int .i64 f1, .int .i64 f2, .slice A l.length c] 50) := ⟨_, rfl⟩
 rw [← hW] at hbx
 have HW := Aside0.mk hW
 have HB0 := Aside0.mk hbx.1
 have HL := Aside0.mk (hL.below hbx.1)
 have HE := Aside0.mk hE
 have e0 := cellE hbx.2.1
 have e1 := cellE hbx.2.2.1
 have e2 := cellE hbx.2.2.2.1
 have e3 := cellE hbx.2.2.2.2
 clear hbx hL hE hW
 obtain ⟨kn, hkn⟩ : ∃ kn, kn = kidsS f0 := ⟨_, rfl⟩
 have hk : ∀ s : Ext W, Calls Tryz.prog 97 #[.int .i64 f0] s.1 fun e w'' => e = .returned (.int .i64 kn) ∧ Below s.1.heap.size s.1 w'' := fun s => (l2Kids_any f0 s.1).mono (fun e w' ⟨h1, h2⟩ => ⟨by rw [h1, hkn], by rw [h2]; exact Below.refl _ _⟩)
 by_cases hd1 : 1 ≤ d
 ·have d1 : decide (d < 1) = false := decide_eq_false (by omega)
  by_cases hm : (l.length : Int) = kn
  ·have n0 : (kn != (l.length : Int)) = false := ne_f hm.symm
   have hko := kidsS_ok (hm.trans hkn)
   by_cases hs0 : f1 < 0
   ·have s0 : decide (f1 < 0) = true := decide_eq_true hs0
    have HF : Aside0 (fb = false) := ⟨fit_no hfb (fun g => by have := g.sym; omega)⟩
    clear hs0 hko hm hkn hfb hd1
    go_enter Tryz.func117, Tryz.ntmps117
    go_upto_region 1 with fail
    rw [← HW.out]
    refine region_ext (W := W) (Below.refl _ _) (by kernel_rfl) (by kernel_rfl) ?_
    repeat (first | go_big_quiet_step ((go_at_call 97; exact calls_ext (hk _))) | quiet_step ((go_at_call 97; exact calls_ext (hk _))))
    refine wpQuiet_nil ?_
    rintro _ ⟨s, rfl⟩
    have c0 := e0 s
    have c1 := e1 s
    have c2 := e2 s
    have c3 := e3 s
    have HB2 := Aside0.mk s.2
    clear e0 e1 e2 e3 hk
    generalize s.1 = W2 at c0 c1 c2 c3 HB2 ⊢
    go_wp2
    go_ret
    exact ⟨ret_bool HF.out.symm, below_then HB0.out HB0.out.size HB2.out⟩
   ·have s0 : decide (f1 < 0) = false := decide_eq_false hs0
    by_cases hs5 : f1 ≥ 5
    ·have s5 : decide (f1 ≥ 5) = true := decide_eq_true hs5
     have HF : Aside0 (fb = false) := ⟨fit_no hfb (fun g => by have := g.sym; omega)⟩
     clear hs0 hs5 hko hm hkn hfb hd1
     go_enter Tryz.func117, Tryz.ntmps117
     go_upto_region 1 with fail
     rw [← HW.out]
     refine region_ext (W := W) (Below.refl _ _) (by kernel_rfl) (by kernel_rfl) ?_
     repeat (first | go_big_quiet_step ((go_at_call 97; exact calls_ext (hk _))) | quiet_step ((go_at_call 97; exact calls_ext (hk _))))
     refine wpQuiet_nil ?_
     rintro _ ⟨s, rfl⟩
     have c0 := e0 s
     have c1 := e1 s
     have c2 := e2 s
     have c3 := e3 s
     have HB2 := Aside0.mk s.2
     clear e0 e1 e2 e3 hk
     generalize s.1 = W2 at c0 c1 c2 c3 HB2 ⊢
     go_wp2
     go_ret
     exact ⟨ret_bool HF.out.symm, below_then HB0.out HB0.out.size HB2.out⟩
    ·have s5 : decide (f1 ≥ 5) = false := decide_eq_false hs5
     by_cases h1 : f0 = 1
     ·have h7 : ¬ f0 = 7 := by omega
      have k1n : (f0 != 1) = false := ne_f h1
      have k7 : (f0 == 7) = false := eq_f h7
      have k7n : (f0 != 7) = true := ne_t h7
      by_cases hp : f2 = 0
      ·have p0 : (f2 != 0) = false := ne_f hp
       have HF : Aside0 (l.all (fun x => fitE x (d - 1)) = fb) := ⟨fit_yes hfb hd1 ⟨hko.1, hko.2, by omega, fun _ => by omega, fun _ => by omega, fun _ => by omega⟩⟩
       clear hp h1 h7 hs0 hs5 hko hm hkn hfb
       go_enter Tryz.func117, Tryz.ntmps117
       go_upto_region 1 with fail
       rw [← HW.out]
       refine region_ext (W := W) (Below.refl _ _) (by kernel_rfl) (by kernel_rfl) ?_
       repeat (first | go_big_quiet_step ((go_at_call 97; exact calls_ext (hk _))) | quiet_step ((go_at_call 97; exact calls_ext (hk _))))
       refine wpQuiet_nil ?_
       rintro _ ⟨s, rfl⟩
       have c0 := e0 s
       have c1 := e1 s
       have c2 := e2 s
       have c3 := e3 s
       have HB2 := Aside0.mk s.2
       clear e0 e1 e2 e3 hk
       generalize s.1 = W2 at c0 c1 c2 c3 HB2 ⊢
       clear d1 n0 s0 s5 k1n
       go_wp2
       go_loopw [5] (fun vi wr => ∃ (k : Nat), k ≤ l.length ∧ vi = .int .i64 k ∧ Aside0 ((l.take k).all (fun x => fitE x (d - 1)) = true) ∧ Aside0 (Below W2.heap.size W2 wr)) (fun vi _ => l.length - (intOf vi).toNat)
       case atStart => exact ⟨0, Nat.zero_le _, rfl, ⟨by simp⟩, ⟨Below.refl _ _⟩⟩
       case round =>
        obtain ⟨k, hk, rfl, HN, HB⟩ := hrel
        have c3' := pw_cell_below HB.out c3
        by_cases hlt : k < l.length
        ·have g1 : decide (k < l.length) = true := decide_eq_true hlt
         have i1 : (k : Int) < l.length := by omega
         obtain ⟨ad, A2, c2', rfl, q0, q1, q2, q3, pL⟩ := atE ((HL.out.below HB2.out).below HB.out) k hlt
         have HS := Aside0.mk (all_snoc (fun x => fitE x (d - 1)) hlt)
         have HA := Aside0.mk (all_no (fun x => fitE x (d - 1)) hlt)
         have HQ := Aside0.mk (HE.out _ (getE_mem hlt) hd1)
         generalize l.getD k zE = z at q0 q1 q2 q3 pL HS HA HQ
         have HPL := Aside0.mk pL
         clear pL c0 c1 c2
         cases hd : fitE z (d - 1) with
         | true =>
          have HE2 : Aside0 ((l.take (k + 1)).all (fun x => fitE x (d - 1)) = true) := ⟨by rw [HS.out, HN.out]; show (true && fitE z (d - 1)) = true; rw [hd]; rfl⟩
          have HD := Aside0.mk hd
          clear hd
          go_wp2_with (go_at_call 117; refine (HQ.out A2 c2' _ HPL.out).mono ?_; rintro e w1 ⟨rfl, hb1⟩; rw [HD.out]; have HB1 := Aside0.mk (below_then HB.out HB.out.size hb1); clear hb1)
          go_roundw
          case rel => exact ⟨k + 1, by omega, by go_num, HE2, HB1⟩
          case measure => simp [intOf]; omega
         | false =>
          have HE2 : Aside0 (l.all (fun x => fitE x (d - 1)) = false) := ⟨HA.out hd⟩
          have HD := Aside0.mk hd
          clear hd
          go_wp2_with (go_at_call 117; refine (HQ.out A2 c2' _ HPL.out).mono ?_; rintro e w1 ⟨rfl, hb1⟩; rw [HD.out]; have HB1 := Aside0.mk (below_then HB.out HB.out.size hb1); clear hb1)
          go_ret
          exact ⟨ret_bool (HE2.out.symm.trans HF.out), below_then HB0.out HB0.out.size (below_then HB2.out HB2.out.size HB1.out)⟩
        ·have hke : k = l.length := by omega
         subst hke
         have g1 : decide (l.length < l.length) = false := decide_eq_false (by omega)
         have HE2 : Aside0 (l.all (fun x => fitE x (d - 1)) = true) := ⟨by have h := HN.out; rwa [List.take_length] at h⟩
         go_wp2
         go_ret
         exact ⟨ret_bool (HE2.out.symm.trans HF.out), below_then HB0.out HB0.out.size (below_then HB2.out HB2.out.size HB.out)⟩
      ·have p0 : (f2 != 0) = true := ne_t hp
       have HF : Aside0 (fb = false) := ⟨fit_no hfb (fun g => hp (g.noN h7))⟩
       clear hp h1 h7 hs0 hs5 hko hm hkn hfb hd1
       go_enter Tryz.func117, Tryz.ntmps117
       go_upto_region 1 with fail
       rw [← HW.out]
       refine region_ext (W := W) (Below.refl _ _) (by kernel_rfl) (by kernel_rfl) ?_
       repeat (first | go_big_quiet_step ((go_at_call 97; exact calls_ext (hk _))) | quiet_step ((go_at_call 97; exact calls_ext (hk _))))
       refine wpQuiet_nil ?_
       rintro _ ⟨s, rfl⟩
       have c0 := e0 s
       have c1 := e1 s
       have c2 := e2 s
       have c3 := e3 s
       have HB2 := Aside0.mk s.2
       clear e0 e1 e2 e3 hk
       generalize s.1 = W2 at c0 c1 c2 c3 HB2 ⊢
       go_wp2
       go_ret
       exact ⟨ret_bool HF.out.symm, below_then HB0.out HB0.out.size HB2.out⟩
     ·by_cases h7 : f0 = 7
      ·skip
       have k1n : (f0 != 1) = true := ne_t h1
       have k7 : (f0 == 7) = true := eq_t h7
       have k7n : (f0 != 7) = false := ne_f h7
       by_cases hz : f1 = 0
       ·have z0 : (f1 != 0) = false := ne_f hz
        by_cases hp1 : f2 < 1
        ·have p1 : decide (f2 < 1) = true := decide_eq_true hp1
         have HF : Aside0 (fb = false) := ⟨fit_no hfb (fun g => by have := g.plus h7; omega)⟩
         clear hp1 h1 h7 hs0 hs5 hko hm hkn hfb hd1 hz
         go_enter Tryz.func117, Tryz.ntmps117
         go_upto_region 1 with fail
         rw [← HW.out]
         refine region_ext (W := W) (Below.refl _ _) (by kernel_rfl) (by kernel_rfl) ?_
         repeat (first | go_big_quiet_step ((go_at_call 97; exact calls_ext (hk _))) | quiet_step ((go_at_call 97; exact calls_ext (hk _))))
         refine wpQuiet_nil ?_
         rintro _ ⟨s, rfl⟩
         have c0 := e0 s
         have c1 := e1 s
         have c2 := e2 s
         have c3 := e3 s
         have HB2 := Aside0.mk s.2
         clear e0 e1 e2 e3 hk
         generalize s.1 = W2 at c0 c1 c2 c3 HB2 ⊢
         go_wp2
         go_ret
         exact ⟨ret_bool HF.out.symm, below_then HB0.out HB0.out.size HB2.out⟩
        ·have p1 : decide (f2 < 1) = false := decide_eq_false hp1
         by_cases hp2 : f2 > 20
         ·have p2 : decide (f2 > 20) = true := decide_eq_true hp2
          have HF : Aside0 (fb = false) := ⟨fit_no hfb (fun g => by have := g.plus h7; omega)⟩
          clear hp1 hp2 h1 h7 hs0 hs5 hko hm hkn hfb hd1 hz
          go_enter Tryz.func117, Tryz.ntmps117
          go_upto_region 1 with fail
          rw [← HW.out]
          refine region_ext (W := W) (Below.refl _ _) (by kernel_rfl) (by kernel_rfl) ?_
          repeat (first | go_big_quiet_step ((go_at_call 97; exact calls_ext (hk _))) | quiet_step ((go_at_call 97; exact calls_ext (hk _))))
          refine wpQuiet_nil ?_
          rintro _ ⟨s, rfl⟩
          have c0 := e0 s
          have c1 := e1 s
          have c2 := e2 s
          have c3 := e3 s
          have HB2 := Aside0.mk s.2
          clear e0 e1 e2 e3 hk
          generalize s.1 = W2 at c0 c1 c2 c3 HB2 ⊢
          go_wp2
          go_ret
          exact ⟨ret_bool HF.out.symm, below_then HB0.out HB0.out.size HB2.out⟩
         ·have p2 : decide (f2 > 20) = false := decide_eq_false hp2
          have HF : Aside0 (l.all (fun x => fitE x (d - 1)) = fb) := ⟨fit_yes hfb hd1 ⟨hko.1, hko.2, by omega, fun _ => by omega, fun _ => by omega, fun _ => by omega⟩⟩
          clear hp1 hp2 h1 h7 hs0 hs5 hko hm hkn hfb hz
          go_enter Tryz.func117, Tryz.ntmps117
          go_upto_region 1 with fail
          rw [← HW.out]
          refine region_ext (W := W) (Below.refl _ _) (by kernel_rfl) (by kernel_rfl) ?_
          repeat (first | go_big_quiet_step ((go_at_call 97; exact calls_ext (hk _))) | quiet_step ((go_at_call 97; exact calls_ext (hk _))))
          refine wpQuiet_nil ?_
          rintro _ ⟨s, rfl⟩
          have c0 := e0 s
          have c1 := e1 s
          have c2 := e2 s
          have c3 := e3 s
          have HB2 := Aside0.mk s.2
          clear e0 e1 e2 e3 hk
          generalize s.1 = W2 at c0 c1 c2 c3 HB2 ⊢
          clear d1 n0 s0 s5 k1n
          go_wp2
          go_loopw [5] (fun vi wr => ∃ (k : Nat), k ≤ l.length ∧ vi = .int .i64 k ∧ Aside0 ((l.take k).all (fun x => fitE x (d - 1)) = true) ∧ Aside0 (Below W2.heap.size W2 wr)) (fun vi _ => l.length - (intOf vi).toNat)
          case atStart => exact ⟨0, Nat.zero_le _, rfl, ⟨by simp⟩, ⟨Below.refl _ _⟩⟩
          case round =>
           obtain ⟨k, hk, rfl, HN, HB⟩ := hrel
           have c3' := pw_cell_below HB.out c3
           by_cases hlt : k < l.length
           ·have g1 : decide (k < l.length) = true := decide_eq_true hlt
            have i1 : (k : Int) < l.length := by omega
            obtain ⟨ad, A2, c2', rfl, q0, q1, q2, q3, pL⟩ := atE ((HL.out.below HB2.out).below HB.out) k hlt
            have HS := Aside0.mk (all_snoc (fun x => fitE x (d - 1)) hlt)
            have HA := Aside0.mk (all_no (fun x => fitE x (d - 1)) hlt)
            have HQ := Aside0.mk (HE.out _ (getE_mem hlt) hd1)
            generalize l.getD k zE = z at q0 q1 q2 q3 pL HS HA HQ
            have HPL := Aside0.mk pL
            clear pL c0 c1 c2
            cases hd : fitE z (d - 1) with
            | true =>
             have HE2 : Aside0 ((l.take (k + 1)).all (fun x => fitE x (d - 1)) = true) := ⟨by rw [HS.out, HN.out]; show (true && fitE z (d - 1)) = true; rw [hd]; rfl⟩
             have HD := Aside0.mk hd
             clear hd
             go_wp2_with (go_at_call 117; refine (HQ.out A2 c2' _ HPL.out).mono ?_; rintro e w1 ⟨rfl, hb1⟩; rw [HD.out]; have HB1 := Aside0.mk (below_then HB.out HB.out.size hb1); clear hb1)
             go_roundw
             case rel => exact ⟨k + 1, by omega, by go_num, HE2, HB1⟩
             case measure => simp [intOf]; omega
            | false =>
             have HE2 : Aside0 (l.all (fun x => fitE x (d - 1)) = false) := ⟨HA.out hd⟩
             have HD := Aside0.mk hd
             clear hd
             go_wp2_with (go_at_call 117; refine (HQ.out A2 c2' _ HPL.out).mono ?_; rintro e w1 ⟨rfl, hb1⟩; rw [HD.out]; have HB1 := Aside0.mk (below_then HB.out HB.out.size hb1); clear hb1)
             go_ret
             exact ⟨ret_bool (HE2.out.symm.trans HF.out), below_then HB0.out HB0.out.size (below_then HB2.out HB2.out.size HB1.out)⟩
           ·have hke : k = l.length := by omega
            subst hke
            have g1 : decide (l.length < l.length) = false := decide_eq_false (by omega)
            have HE2 : Aside0 (l.all (fun x => fitE x (d - 1)) = true) := ⟨by have h := HN.out; rwa [List.take_length] at h⟩
            go_wp2
            go_ret
            exact ⟨ret_bool (HE2.out.symm.trans HF.out), below_then HB0.out HB0.out.size (below_then HB2.out HB2.out.size HB.out)⟩
       ·have z0 : (f1 != 0) = true := ne_t hz
        have HF : Aside0 (fb = false) := ⟨fit_no hfb (fun g => hz (g.no h1))⟩
        clear hz h1 h7 hs0 hs5 hko hm hkn hfb hd1
        go_enter Tryz.func117, Tryz.ntmps117
        go_upto_region 1 with fail
        rw [← HW.out]
        refine region_ext (W := W) (Below.refl _ _) (by kernel_rfl) (by kernel_rfl) ?_
        repeat (first | go_big_quiet_step ((go_at_call 97; exact calls_ext (hk _))) | quiet_step ((go_at_call 97; exact calls_ext (hk _))))
        refine wpQuiet_nil ?_
        rintro _ ⟨s, rfl⟩
        have c0 := e0 s
        have c1 := e1 s
        have c2 := e2 s
        have c3 := e3 s
        have HB2 := Aside0.mk s.2
        clear e0 e1 e2 e3 hk
        generalize s.1 = W2 at c0 c1 c2 c3 HB2 ⊢
        go_wp2
        go_ret
        exact ⟨ret_bool HF.out.symm, below_then HB0.out HB0.out.size HB2.out⟩
      ·skip
       have k1n : (f0 != 1) = true := ne_t h1
       have k7 : (f0 == 7) = false := eq_f h7
       have k7n : (f0 != 7) = true := ne_t h7
       by_cases hz : f1 = 0
       ·have z0 : (f1 != 0) = false := ne_f hz
        by_cases hp : f2 = 0
        ·have p0 : (f2 != 0) = false := ne_f hp
         have HF : Aside0 (l.all (fun x => fitE x (d - 1)) = fb) := ⟨fit_yes hfb hd1 ⟨hko.1, hko.2, by omega, fun _ => by omega, fun _ => by omega, fun _ => by omega⟩⟩
         clear hp h1 h7 hs0 hs5 hko hm hkn hfb hz
         go_enter Tryz.func117, Tryz.ntmps117
         go_upto_region 1 with fail
         rw [← HW.out]
         refine region_ext (W := W) (Below.refl _ _) (by kernel_rfl) (by kernel_rfl) ?_
         repeat (first | go_big_quiet_step ((go_at_call 97; exact calls_ext (hk _))) | quiet_step ((go_at_call 97; exact calls_ext (hk _))))
         refine wpQuiet_nil ?_
         rintro _ ⟨s, rfl⟩
         have c0 := e0 s
         have c1 := e1 s
         have c2 := e2 s
         have c3 := e3 s
         have HB2 := Aside0.mk s.2
         clear e0 e1 e2 e3 hk
         generalize s.1 = W2 at c0 c1 c2 c3 HB2 ⊢
         clear d1 n0 s0 s5 k1n
         go_wp2
         go_loopw [5] (fun vi wr => ∃ (k : Nat), k ≤ l.length ∧ vi = .int .i64 k ∧ Aside0 ((l.take k).all (fun x => fitE x (d - 1)) = true) ∧ Aside0 (Below W2.heap.size W2 wr)) (fun vi _ => l.length - (intOf vi).toNat)
         case atStart => exact ⟨0, Nat.zero_le _, rfl, ⟨by simp⟩, ⟨Below.refl _ _⟩⟩
         case round =>
          obtain ⟨k, hk, rfl, HN, HB⟩ := hrel
          have c3' := pw_cell_below HB.out c3
          by_cases hlt : k < l.length
          ·have g1 : decide (k < l.length) = true := decide_eq_true hlt
           have i1 : (k : Int) < l.length := by omega
           obtain ⟨ad, A2, c2', rfl, q0, q1, q2, q3, pL⟩ := atE ((HL.out.below HB2.out).below HB.out) k hlt
           have HS := Aside0.mk (all_snoc (fun x => fitE x (d - 1)) hlt)
           have HA := Aside0.mk (all_no (fun x => fitE x (d - 1)) hlt)
           have HQ := Aside0.mk (HE.out _ (getE_mem hlt) hd1)
           generalize l.getD k zE = z at q0 q1 q2 q3 pL HS HA HQ
           have HPL := Aside0.mk pL
           clear pL c0 c1 c2
           cases hd : fitE z (d - 1) with
           | true =>
            have HE2 : Aside0 ((l.take (k + 1)).all (fun x => fitE x (d - 1)) = true) := ⟨by rw [HS.out, HN.out]; show (true && fitE z (d - 1)) = true; rw [hd]; rfl⟩
            have HD := Aside0.mk hd
            clear hd
            go_wp2_with (go_at_call 117; refine (HQ.out A2 c2' _ HPL.out).mono ?_; rintro e w1 ⟨rfl, hb1⟩; rw [HD.out]; have HB1 := Aside0.mk (below_then HB.out HB.out.size hb1); clear hb1)
            go_roundw
            case rel => exact ⟨k + 1, by omega, by go_num, HE2, HB1⟩
            case measure => simp [intOf]; omega
           | false =>
            have HE2 : Aside0 (l.all (fun x => fitE x (d - 1)) = false) := ⟨HA.out hd⟩
            have HD := Aside0.mk hd
            clear hd
            go_wp2_with (go_at_call 117; refine (HQ.out A2 c2' _ HPL.out).mono ?_; rintro e w1 ⟨rfl, hb1⟩; rw [HD.out]; have HB1 := Aside0.mk (below_then HB.out HB.out.size hb1); clear hb1)
            go_ret
            exact ⟨ret_bool (HE2.out.symm.trans HF.out), below_then HB0.out HB0.out.size (below_then HB2.out HB2.out.size HB1.out)⟩
          ·have hke : k = l.length := by omega
           subst hke
           have g1 : decide (l.length < l.length) = false := decide_eq_false (by omega)
           have HE2 : Aside0 (l.all (fun x => fitE x (d - 1)) = true) := ⟨by have h := HN.out; rwa [List.take_length] at h⟩
           go_wp2
           go_ret
           exact ⟨ret_bool (HE2.out.symm.trans HF.out), below_then HB0.out HB0.out.size (below_then HB2.out HB2.out.size HB.out)⟩
        ·have p0 : (f2 != 0) = true := ne_t hp
         have HF : Aside0 (fb = false) := ⟨fit_no hfb (fun g => hp (g.noN h7))⟩
         clear hp h1 h7 hs0 hs5 hko hm hkn hfb hd1 hz
         go_enter Tryz.func117, Tryz.ntmps117
         go_upto_region 1 with fail
         rw [← HW.out]
         refine region_ext (W := W) (Below.refl _ _) (by kernel_rfl) (by kernel_rfl) ?_
         repeat (first | go_big_quiet_step ((go_at_call 97; exact calls_ext (hk _))) | quiet_step ((go_at_call 97; exact calls_ext (hk _))))
         refine wpQuiet_nil ?_
         rintro _ ⟨s, rfl⟩
         have c0 := e0 s
         have c1 := e1 s
         have c2 := e2 s
         have c3 := e3 s
         have HB2 := Aside0.mk s.2
         clear e0 e1 e2 e3 hk
         generalize s.1 = W2 at c0 c1 c2 c3 HB2 ⊢
         go_wp2
         go_ret
         exact ⟨ret_bool HF.out.symm, below_then HB0.out HB0.out.size HB2.out⟩
       ·have z0 : (f1 != 0) = true := ne_t hz
        have HF : Aside0 (fb = false) := ⟨fit_no hfb (fun g => hz (g.no h1))⟩
        clear hz h1 h7 hs0 hs5 hko hm hkn hfb hd1
        go_enter Tryz.func117, Tryz.ntmps117
        go_upto_region 1 with fail
        rw [← HW.out]
        refine region_ext (W := W) (Below.refl _ _) (by kernel_rfl) (by kernel_rfl) ?_
        repeat (first | go_big_quiet_step ((go_at_call 97; exact calls_ext (hk _))) | quiet_step ((go_at_call 97; exact calls_ext (hk _))))
        refine wpQuiet_nil ?_
        rintro _ ⟨s, rfl⟩
        have c0 := e0 s
        have c1 := e1 s
        have c2 := e2 s
        have c3 := e3 s
        have HB2 := Aside0.mk s.2
        clear e0 e1 e2 e3 hk
        generalize s.1 = W2 at c0 c1 c2 c3 HB2 ⊢
        go_wp2
        go_ret
        exact ⟨ret_bool HF.out.symm, below_then HB0.out HB0.out.size HB2.out⟩
  ·have n0 : (kn != (l.length : Int)) = true := ne_t (fun h => hm h.symm)
   have HF : Aside0 (fb = false) := ⟨fit_no hfb (fun g => hm (by rw [hkn]; exact kidsS_no g.kind g.kids))⟩
   clear hm hkn hfb hd1
   go_enter Tryz.func117, Tryz.ntmps117
   go_upto_region 1 with fail
   rw [← HW.out]
   refine region_ext (W := W) (Below.refl _ _) (by kernel_rfl) (by kernel_rfl) ?_
   repeat (first | go_big_quiet_step ((go_at_call 97; exact calls_ext (hk _))) | quiet_step ((go_at_call 97; exact calls_ext (hk _))))
   refine wpQuiet_nil ?_
   rintro _ ⟨s, rfl⟩
   have c0 := e0 s
   have c1 := e1 s
   have c2 := e2 s
   have c3 := e3 s
   have HB2 := Aside0.mk s.2
   clear e0 e1 e2 e3 hk
   generalize s.1 = W2 at c0 c1 c2 c3 HB2 ⊢
   go_wp2
   go_ret
   exact ⟨ret_bool HF.out.symm, below_then HB0.out HB0.out.size HB2.out⟩
 ·have d1 : decide (d < 1) = true := decide_eq_true (by omega)
  have HF : Aside0 (fb = false) := ⟨fit_low hfb (by omega)⟩
  clear hkn hfb hd1
  go_enter Tryz.func117, Tryz.ntmps117
  go_upto_region 1 with fail
  rw [← HW.out]
  refine region_ext (W := W) (Below.refl _ _) (by kernel_rfl) (by kernel_rfl) ?_
  repeat (first | go_big_quiet_step ((go_at_call 97; exact calls_ext (hk _))) | quiet_step ((go_at_call 97; exact calls_ext (hk _))))
  refine wpQuiet_nil ?_
  rintro _ ⟨s, rfl⟩
  have c0 := e0 s
  have c1 := e1 s
  have c2 := e2 s
  have c3 := e3 s
  have HB2 := Aside0.mk s.2
  clear e0 e1 e2 e3 hk
  generalize s.1 = W2 at c0 c1 c2 c3 HB2 ⊢
  go_wp2
  go_ret
  exact ⟨ret_bool HF.out.symm, below_then HB0.out HB0.out.size HB2.out⟩
theorem l2Form_any (x : Ex) (d : Int) (hd0 : 0 ≤ d) (hd5 : d ≤ 5) : FitCall x d := fun A c w hL => l2Form_of x.f0 x.f1 x.f2 d hd0 hd5 A c x.f3 _ (by cases x; rfl) w hL (fun y hy h1 =>
 have := cnt_mem hy
 l2Form_any y (d - 1) (by omega) (by omega))
termination_by cntL x.f3

/-! how many -/
abbrev ManyCall (x : Ex) (d : Int) : Prop := ∀ A c w, IsEL 50 w x.f3 A c → Calls Tryz.prog 118 #[X x.f0 x.f1 x.f2 A x.f3.length c, .int .i64 d] w fun e w' => e = .returned (.int .i64 (1 + (cntL x.f3 : Int))) ∧ Below w.heap.size w w'
set_option maxHeartbeats 2000000 in
set_option maxRecDepth 100000 in
theorem l2Many_of (f0 f1 f2 d : Int) (hd5 : d ≤ 5) (A : Option Addr) (c : Nat) (l : List Ex) (hd : 1 + (deepL l : Int) ≤ d) (hcn : cntL l ≤ 1048576) (w : World) (hL : IsEL 50 w l A c) (hE : ∀ x, x ∈ l → ManyCall x (d - 1)) :
  Calls Tryz.prog 118 #[X f0 f1 f2 A l.length c, .int .i64 d] w fun e w' => e = .returned (.int .i64 (1 + (cntL l : Int))) ∧ Below w.heap.size w w' := by
 have hbx := box4 w (.int .i64 f0) (.int .i64 f1) (.int .i64 f2) (.slice A l.length c) 50
 have hn := hL.len
 have hll := len_le_cnt l
 obtain ⟨W, hW⟩ : ∃ W, W = w.alloc (.cells #[.int .i64 f0, .int .i64 f1, .int .i64 f2, .slice A l.length c] 50) := ⟨_, rfl⟩
 rw [← hW] at hbx
 have HW := Aside0.mk hW
 have HB0 := Aside0.mk hbx.1
 have HL := Aside0.mk (hL.below hbx.1)
 have HE := Aside0.mk hE
 have c3 := hbx.2.2.2.2
 have d1 : decide (d > 0) = true := decide_eq_true (by omega)
 have hd1 : 1 ≤ d := by omega
 clear hbx hL hE hW hd
 go_enter Tryz.func118, Tryz.ntmps118
 go_upto_region 1 with fail
 rw [← HW.out]
 go_wp2
 go_loopw [5, 6] (fun vm vi wr => ∃ (k : Nat) (m : Int), k ≤ l.length ∧ vi = .int .i64 k ∧ vm = .int .i64 m ∧ Aside0 (m = 1 + (cntL (l.take k) : Int)) ∧ Aside0 (Below W.heap.size W wr)) (fun _ vi _ => l.length - (intOf vi).toNat)
 case atStart => exact ⟨0, 1, Nat.zero_le _, rfl, rfl, ⟨by simp [cntL_nil]⟩, ⟨Below.refl _ _⟩⟩
 case round =>
  obtain ⟨k, m, hk, rfl, rfl, HM, HB⟩ := hrel
  have c3' := pw_cell_below HB.out c3
  by_cases hlt : k < l.length
  ·have g1 : decide (k < l.length) = true := decide_eq_true hlt
   have i1 : (k : Int) < l.length := by omega
   obtain ⟨ad, A2, c2, rfl, q0, q1, q2, q3, pL⟩ := atE (HL.out.below HB.out) k hlt
   have HQ := Aside0.mk (HE.out _ (getE_mem hlt))
   have hc1 := cntL_snoc l k hlt
   have hc2 := cntL_take_le l (k + 1)
   generalize l.getD k zE = z at q0 q1 q2 q3 pL HQ hc1
   have HPL := Aside0.mk pL
   have hm := HM.out
   obtain ⟨r, hr⟩ : ∃ r : Int, r = 1 + (cntL z.f3 : Int) := ⟨_, rfl⟩
   have HR := Aside0.mk hr
   have b1 : 0 ≤ r := by omega
   have b2 : 0 ≤ m := by omega
   have b3 : m + r ≤ 1048577 := by omega
   have HM2 : Aside0 (m + r = 1 + (cntL (l.take (k + 1)) : Int)) := ⟨by omega⟩
   clear pL HM hm hr hc1 hc2
   go_wp2_with (go_at_call 118; refine (HQ.out A2 c2 _ HPL.out).mono ?_; rintro e w1 ⟨rfl, hb1⟩; rw [← HR.out]; have HB1 := Aside0.mk (below_then HB.out HB.out.size hb1); clear hb1)
   go_roundw
   case rel => exact ⟨k + 1, m + r, by omega, by go_num, by go_num, HM2, HB1⟩
   case measure => simp [intOf]; omega
  ·have hke : k = l.length := by omega
   subst hke
   have g1 : decide (l.length < l.length) = false := decide_eq_false (by omega)
   have hm := HM.out
   rw [List.take_length] at hm
   have HM2 := Aside0.mk hm
   clear hm HM
   go_wp2
   go_ret
   exact ⟨by (rw [HM2.out]; try rfl), below_then HB0.out HB0.out.size HB.out⟩
theorem l2Many_any (x : Ex) (d : Int) (hd5 : d ≤ 5) (hd : 1 + (deepL x.f3 : Int) ≤ d) (hc : cntL x.f3 ≤ 1048576) : ManyCall x d := fun A c w hL => l2Many_of x.f0 x.f1 x.f2 d hd5 A c x.f3 hd hc w hL (fun y hy =>
 have h1 := cnt_mem hy
 have h2 := deepL_mem hy
 l2Many_any y (d - 1) (by omega) (by omega) (by omega))
termination_by cntL x.f3
set_option maxHeartbeats 2000000 in
set_option maxRecDepth 100000 in
theorem sExOk_any (x : Ex) (A : Option Addr) (c : Nat) (w : World) (hc : cntL x.f3 ≤ 1048576) (hL : IsEL 50 w x.f3 A c) :
  Calls Tryz.prog 96 #[X x.f0 x.f1 x.f2 A x.f3.length c] w fun e w' => e = .returned (.bool (okE x)) ∧ Below w.heap.size w w' := by
 have hbx := box4 w (.int .i64 x.f0) (.int .i64 x.f1) (.int .i64 x.f2) (.slice A x.f3.length c) 50
 have HX := Aside0.mk hbx.1
 have HL := Aside0.mk (hL.below hbx.1)
 obtain ⟨W, hW⟩ : ∃ W, W = w.alloc (.cells #[.int .i64 x.f0, .int .i64 x.f1, .int .i64 x.f2, .slice A x.f3.length c] 50) := ⟨_, rfl⟩
 rw [← hW] at HX HL hbx
 have HW := Aside0.mk hW
 obtain ⟨_, p0, p1, p2, p3⟩ := hbx
 clear hL hW
 obtain ⟨k, hk⟩ : ∃ k, k = okE x := ⟨_, rfl⟩
 have HK := Aside0.mk hk
 cases hb : fitE x 5 with
 | true =>
  have hdeep : 1 + (deepL x.f3 : Int) ≤ 5 := by
   unfold fitE at hb
   rw [Bool.and_eq_true] at hb
   exact of_decide_eq_true hb.1
  have hform : formB x = true := by
   unfold fitE at hb
   rw [Bool.and_eq_true] at hb
   exact hb.2
  obtain ⟨m, hm⟩ : ∃ m : Int, m = 1 + (cntL x.f3 : Int) := ⟨_, rfl⟩
  have HM := Aside0.mk hm
  have HBB := Aside0.mk hb
  have hk2 : decide (m ≤ 12) = k := by
   rw [hk]
   unfold okE
   rw [hform, decide_eq_true (show 1 + deepL x.f3 ≤ 5 by omega), Bool.and_true, Bool.and_true]
   exact decide_eq_decide.2 (by omega)
  have HK2 := Aside0.mk hk2
  clear hb hm hform hk hk2
  go_enter Tryz.func96, Tryz.ntmps96
  go_upto_region 1 with fail
  rw [← HW.out]
  go_wp2_with (first | (go_at_call 117; refine (l2Form_any x 5 (by omega) (by omega) A c _ HL.out).mono ?_; rintro e w2 ⟨rfl, hb2⟩; rw [HBB.out]; have p0' := pw_cell_below hb2 p0; have p1' := pw_cell_below hb2 p1; have p2' := pw_cell_below hb2 p2; have p3' := pw_cell_below hb2 p3; have HB2 := Aside0.mk (below_then HX.out HX.out.size hb2); have HL2 := Aside0.mk (HL.out.below hb2); clear hb2) | (go_at_call 118; refine (l2Many_any x 5 (by omega) hdeep hc A c _ HL2.out).mono ?_; rintro e w3 ⟨rfl, hb3⟩; rw [← HM.out]; have HB3 := Aside0.mk (below_then HB2.out HB2.out.size hb3); clear hb3))
  go_ret
  exact ⟨ret_bool (HK2.out.trans HK.out), HB3.out⟩
 | false =>
  have HBB := Aside0.mk hb
  have HK2 : Aside0 (false = k) := ⟨by
   rw [hk]
   unfold okE
   unfold fitE at hb
   by_cases h1 : 1 + deepL x.f3 ≤ 5
   ·rw [decide_eq_true (show 1 + (deepL x.f3 : Int) ≤ 5 by omega), Bool.true_and] at hb
    rw [hb, Bool.and_false]
   ·rw [decide_eq_false h1, Bool.and_false, Bool.false_and]⟩
  clear hb hk
  go_enter Tryz.func96, Tryz.ntmps96
  go_upto_region 1 with fail
  rw [← HW.out]
  go_wp2_with (go_at_call 117; refine (l2Form_any x 5 (by omega) (by omega) A c _ HL.out).mono ?_; rintro e w2 ⟨rfl, hb2⟩; rw [HBB.out]; have HB2 := Aside0.mk (below_then HX.out HX.out.size hb2); clear hb2)
  go_ret
  exact ⟨ret_bool (HK2.out.trans HK.out), HB2.out⟩
end Go.Proofs.YtckblabkapeigaaGreat.Jj
