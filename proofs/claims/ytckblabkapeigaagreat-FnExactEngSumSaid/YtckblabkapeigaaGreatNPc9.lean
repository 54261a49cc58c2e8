
/- EngOk: the program's. Printed by genPc9.py. -/
import Derived.Test.YtckblabkapeigaaGreatNPb9
set_option linter.unusedVariables false
set_option linter.unusedSimpArgs false
namespace Go.Proofs.YtckblabkapeigaaGreat.Pc9
open Go.RowKit Go.Proofs.YtckblabkapeigaaGreatW.PrintWords Go.Proofs.YtckblabkapeigaaGreat.Ja Go.Proofs.YtckblabkapeigaaGreat.Jb Go.Proofs.YtckblabkapeigaaGreat.Jg Go.Proofs.YtckblabkapeigaaGreat.Jh Go.Proofs.YtckblabkapeigaaGreat.Ka Go.Proofs.YtckblabkapeigaaGreat.Kb Go.Proofs.YtckblabkapeigaaGreat.Ea8 Go.Proofs.YtckblabkapeigaaGreat.Ee8 Go.Proofs.YtckblabkapeigaaGreat.Ov9 Go.Proofs.YtckblabkapeigaaGreat.Ow9 Go.Proofs.YtckblabkapeigaaGreat.Ox9 Go.Proofs.YtckblabkapeigaaGreat.Oy9 Go.Proofs.YtckblabkapeigaaGreat.Oz9 Go.Proofs.YtckblabkapeigaaGreat.Pa9 Go.Proofs.YtckblabkapeigaaGreat.Pb9

def headE (x : TEng) : Bool := rulesB x.f0 && (decide (x.f1.length = x.f0.length) && (evsB x.f2 && decide (x.f3.length = 4)))
def restE (x : TEng) : Bool := x.f1.all (engGraphB x.f2.length (endB x.f2)) && (x.f3.all (fun n => inb n 0 1000) && x.f4.all (fireB x.f0.length x.f2.length))
def engB (x : TEng) : Bool := headE x && restE x
theorem not_t8 {b : Bool} (h : (!b) = true) : b = false := by simpa using h
theorem not_f8 {b : Bool} (h : (!b) = false) : b = true := by simpa using h
theorem any_all {α : Type} (p : α → Bool) (l : List α) : l.any (fun y => !p y) = !l.all p := by
 induction l with
 | nil => rfl
 | cons y ys ih => rw [List.any_cons, List.all_cons, ih, Bool.not_and]
set_option maxHeartbeats 8000000 in
set_option maxRecDepth 100000 in
theorem engOk_any (x : TEng) (E0 : Option Addr) (d0 : Nat) (E1 : Option Addr) (d1 : Nat) (E2 : Option Addr) (d2 : Nat) (E3 : Option Addr) (d3 : Nat) (E4 : Option Addr) (d4 : Nat) (hl : x.f0.length ≤ 1048576) (hn : ∀ r ∈ x.f0, r.f0.size ≤ 9223372036854775807) (hc : ∀ r ∈ x.f0, cntL r.f3.f3 ≤ 1048576) (w : World) (h0 : IsS kRule w x.f0 E0 d0) (h1 : IsS kGraph w x.f1 E1 d1) (h2 : IsS kEv w x.f2 E2 d2) (h3 : IsS (Kd.int .i64) w x.f3 E3 d3) (h4 : IsS kFire w x.f4 E4 d4) :
  Calls Tryz.prog 24 #[.agg #[.slice E0 x.f0.length d0, .slice E1 x.f1.length d1, .slice E2 x.f2.length d2, .slice E3 x.f3.length d3, .slice E4 x.f4.length d4]] w fun e w' => e = .returned (.bool (engB x)) ∧ Below w.heap.size w w' := by
 have hb0 := below_alloc (Below.refl w.heap.size w) (.cells #[.slice E0 x.f0.length d0, .slice E1 x.f1.length d1, .slice E2 x.f2.length d2, .slice E3 x.f3.length d3, .slice E4 x.f4.length d4] 36)
 have b0 := blk_new w (.cells #[.slice E0 x.f0.length d0, .slice E1 x.f1.length d1, .slice E2 x.f2.length d2, .slice E3 x.f3.length d3, .slice E4 x.f4.length d4] 36)
 have hl0 := h0.len
 have H0 := Aside0.mk (h0.below hb0)
 have hl1 := h1.len
 have H1 := Aside0.mk (h1.below hb0)
 have hl2 := h2.len
 have H2 := Aside0.mk (h2.below hb0)
 have hl3 := h3.len
 have H3 := Aside0.mk (h3.below hb0)
 have hl4 := h4.len
 have H4 := Aside0.mk (h4.below hb0)
 obtain ⟨W, hW⟩ : ∃ W, W = w.alloc (.cells #[.slice E0 x.f0.length d0, .slice E1 x.f1.length d1, .slice E2 x.f2.length d2, .slice E3 x.f3.length d3, .slice E4 x.f4.length d4] 36) := ⟨_, rfl⟩
 rw [← hW] at hb0 b0 H0 H1 H2 H3 H4
 have HW := Aside0.mk hW
 have HX := Aside0.mk hb0
 have B0 := Aside0.mk b0
 have HN := Aside0.mk hn
 have HC := Aside0.mk hc
 have p0 := (blk_cell b0 0).trans rfl
 clear hW hb0 b0 hn hc h0 h1 h2 h3 h4
 cases q0 : rulesB x.f0
 case' false =>
  have Q0 := Aside0.mk q0
  have HE : Aside0 (engB x = false) := ⟨by unfold engB headE; rw [q0]; rfl⟩
  clear q0
 case' true =>
  have Q0 := Aside0.mk q0
  clear q0
  by_cases n1 : x.f1.length = x.f0.length
  case' neg =>
   have e1 : ((x.f1.length : Int) != (x.f0.length : Int)) = true := ne_t (by omega)
   have HE : Aside0 (engB x = false) := ⟨by unfold engB headE; rw [decide_eq_false n1]; simp⟩
   clear n1
  case' pos =>
   have e1 : ((x.f1.length : Int) != (x.f0.length : Int)) = false := ne_f (by omega)
   have N1 := Aside0.mk n1
   clear n1
   cases q2 : evsB x.f2
   case' false =>
    have Q2 := Aside0.mk q2
    have HE : Aside0 (engB x = false) := ⟨by unfold engB headE; rw [q2]; simp⟩
    clear q2
   case' true =>
    have Q2 := Aside0.mk q2
    clear q2
    by_cases n3 : x.f3.length = 4
    case' neg =>
     have e3 : ((x.f3.length : Int) != 4) = true := ne_t (by omega)
     have HE : Aside0 (engB x = false) := ⟨by unfold engB headE; rw [decide_eq_false n3]; simp⟩
     clear n3
    case' pos =>
     have e3 : ((x.f3.length : Int) != 4) = false := ne_f (by omega)
     have HH : Aside0 (headE x = true) := ⟨by unfold headE; rw [Q0.out, decide_eq_true N1.out, Q2.out, decide_eq_true n3]; rfl⟩
     clear n3
     cases q4 : x.f1.any (fun y => !engGraphB x.f2.length (endB x.f2) y)
     case' true =>
      have Q4 := Aside0.mk q4
      have HE : Aside0 (engB x = false) := ⟨by unfold engB restE; rw [any_all] at q4; rw [not_t8 q4]; simp⟩
      clear q4
     case' false =>
      have Q4 := Aside0.mk q4
      clear q4
      cases q5 : x.f3.any (fun n => !inb n 0 1000)
      case' true =>
       have Q5 := Aside0.mk q5
       have HE : Aside0 (engB x = false) := ⟨by unfold engB restE; rw [any_all (fun n => inb n 0 1000)] at q5; rw [not_t8 q5]; simp⟩
       clear q5
      case' false =>
       have Q5 := Aside0.mk q5
       clear q5
       cases q6 : x.f4.any (fun y => !fireB x.f0.length x.f2.length y)
       case' true =>
        have Q6 := Aside0.mk q6
        have HE : Aside0 (engB x = false) := ⟨by unfold engB restE; rw [any_all] at q6; rw [not_t8 q6]; simp⟩
        clear q6
       case' false =>
        have Q6 := Aside0.mk q6
        clear q6
        have HE : Aside0 (engB x = true) := ⟨by unfold engB restE; have a4 := Q4.out; have a5 := Q5.out; have a6 := Q6.out; rw [any_all] at a4 a6; rw [any_all (fun n => inb n 0 1000)] at a5; rw [HH.out, not_f8 a4, not_f8 a5, not_f8 a6]; rfl⟩
 all_goals
  go_enter Tryz.func24, Tryz.ntmps24
  go_upto_region 1 with fail
  rw [← HW.out]
  go_wp2_with (first
   | (go_at_call 55; refine (feg_has w.heap.size E0 x.f0.length d0 E1 x.f1.length d1 E2 x.f2 d2 E3 x.f3.length d3 E4 x.f4.length d4 hl0 hl2 E4 d4 x.f4 _ (H4.out.below HB5.out) (blk_below B0.out HB5.out)).mono ?_; rintro e w6 ⟨rfl, hb⟩; rw [Q6.out]; have HB6 := Aside0.mk (below_then HB5.out HB5.out.size hb); clear hb)
   | (go_at_call 52; refine (keg_has E3 d3 x.f3 _ (H3.out.below HB4.out)).mono ?_; rintro e w5 ⟨rfl, hb⟩; rw [Q5.out]; have HB5 := Aside0.mk (below_then HB4.out HB4.out.size hb); clear hb; have k4_5 := (blk_cell (blk_below B0.out HB5.out) 4).trans rfl)
   | (go_at_call 49; refine (geg_has w.heap.size E0 x.f0.length d0 E1 x.f1.length d1 E2 x.f2 d2 E3 x.f3.length d3 E4 x.f4.length d4 E1 d1 x.f1 _ (H1.out.below HB3.out) (H2.out.below HB3.out) (blk_below B0.out HB3.out)).mono ?_; rintro e w4 ⟨rfl, hb⟩; rw [Q4.out]; have HB4 := Aside0.mk (below_then HB3.out HB3.out.size hb); clear hb; have k3_4 := (blk_cell (blk_below B0.out HB4.out) 3).trans rfl)
   | (go_at_call 48; refine (iEvsOk_any E2 d2 x.f2 _ (H2.out.below HB2.out)).mono ?_; rintro e w3 ⟨rfl, hb⟩; rw [Q2.out]; have HB3 := Aside0.mk (below_then HB2.out HB2.out.size hb); clear hb; have k1_3 := (blk_cell (blk_below B0.out HB3.out) 1).trans rfl; have k3_3 := (blk_cell (blk_below B0.out HB3.out) 3).trans rfl)
   | (go_at_call 47; refine (rulesOk_any E0 d0 x.f0 _ hl HN.out HC.out H0.out).mono ?_; rintro e w2 ⟨rfl, hb⟩; rw [Q0.out]; have HB2 := Aside0.mk hb; clear hb; have k0_2 := (blk_cell (blk_below B0.out HB2.out) 0).trans rfl; have k1_2 := (blk_cell (blk_below B0.out HB2.out) 1).trans rfl; have k2_2 := (blk_cell (blk_below B0.out HB2.out) 2).trans rfl; have k3_2 := (blk_cell (blk_below B0.out HB2.out) 3).trans rfl))
  go_ret
  first
   | exact ⟨by rw [HE.out]; rfl, below_then HX.out HX.out.size HB6.out⟩
   | exact ⟨by rw [HE.out]; rfl, below_then HX.out HX.out.size HB5.out⟩
   | exact ⟨by rw [HE.out]; rfl, below_then HX.out HX.out.size HB4.out⟩
   | exact ⟨by rw [HE.out]; rfl, below_then HX.out HX.out.size HB3.out⟩
   | exact ⟨by rw [HE.out]; rfl, below_then HX.out HX.out.size HB2.out⟩
end Go.Proofs.YtckblabkapeigaaGreat.Pc9
