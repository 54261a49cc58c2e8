
/- EngOk: the reference's. Printed by genPe9.py. -/
import Derived.Test.YtckblabkapeigaaGreatNPd9
set_option linter.unusedVariables false
set_option linter.unusedSimpArgs false
namespace Go.Proofs.YtckblabkapeigaaGreat.Pe9
open Go.RowKit Go.Proofs.YtckblabkapeigaaGreatW.PrintWords Go.Proofs.YtckblabkapeigaaGreat.Ja Go.Proofs.YtckblabkapeigaaGreat.Jb Go.Proofs.YtckblabkapeigaaGreat.Jg Go.Proofs.YtckblabkapeigaaGreat.Jh Go.Proofs.YtckblabkapeigaaGreat.Ka Go.Proofs.YtckblabkapeigaaGreat.Kb Go.Proofs.YtckblabkapeigaaGreat.Ea8 Go.Proofs.YtckblabkapeigaaGreat.Ee8 Go.Proofs.YtckblabkapeigaaGreat.Ef8 Go.Proofs.YtckblabkapeigaaGreat.Ov9 Go.Proofs.YtckblabkapeigaaGreat.Ow9 Go.Proofs.YtckblabkapeigaaGreat.Ox9 Go.Proofs.YtckblabkapeigaaGreat.Oy9 Go.Proofs.YtckblabkapeigaaGreat.Oz9 Go.Proofs.YtckblabkapeigaaGreat.Pa9 Go.Proofs.YtckblabkapeigaaGreat.Pb9 Go.Proofs.YtckblabkapeigaaGreat.Pc9 Go.Proofs.YtckblabkapeigaaGreat.Pd9

theorem all_no8 {α : Type} {p : α → Bool} {l : List α} {y : α} (h : y ∈ l) (hp : p y = false) : l.all p = false := List.all_eq_false.2 ⟨y, h, by rw [hp]; simp⟩
theorem rest_g {x : TEng} (h : x.f1.all (engGraphB x.f2.length (endB x.f2)) = false) : engB x = false := by unfold engB restE; rw [h]; simp
theorem rest_k {x : TEng} (h : x.f3.all (fun n => inb n 0 1000) = false) : engB x = false := by unfold engB restE; rw [h]; simp
theorem rest_f {x : TEng} (h : x.f4.all (fireB x.f0.length x.f2.length) = false) : engB x = false := by unfold engB restE; rw [h]; simp
set_option maxHeartbeats 8000000 in
set_option maxRecDepth 100000 in
theorem sEngOk_any (x : TEng) (E0 : Option Addr) (d0 : Nat) (E1 : Option Addr) (d1 : Nat) (E2 : Option Addr) (d2 : Nat) (E3 : Option Addr) (d3 : Nat) (E4 : Option Addr) (d4 : Nat) (hl : x.f0.length ≤ 1048576) (hn : ∀ r ∈ x.f0, r.f0.size ≤ 9223372036854775807) (hc : ∀ r ∈ x.f0, cntL r.f3.f3 ≤ 1048576) (w : World) (h0 : IsS kRule w x.f0 E0 d0) (h1 : IsS kGraph w x.f1 E1 d1) (h2 : IsS kEv w x.f2 E2 d2) (h3 : IsS (Kd.int .i64) w x.f3 E3 d3) (h4 : IsS kFire w x.f4 E4 d4) :
  Calls Tryz.prog 18 #[.agg #[.slice E0 x.f0.length d0, .slice E1 x.f1.length d1, .slice E2 x.f2.length d2, .slice E3 x.f3.length d3, .slice E4 x.f4.length d4]] w fun e w' => e = .returned (.bool (engB x)) ∧ Below w.heap.size w w' := by
 have hb0 := below_alloc (Below.refl w.heap.size w) (.cells #[.slice E0 x.f0.length d0, .slice E1 x.f1.length d1, .slice E2 x.f2.length d2, .slice E3 x.f3.length d3, .slice E4 x.f4.length d4] 36)
 have b0 := blk_new w (.cells #[.slice E0 x.f0.length d0, .slice E1 x.f1.length d1, .slice E2 x.f2.length d2, .slice E3 x.f3.length d3, .slice E4 x.f4.length d4] 36)
 have hl0 := h0.len
 have H0 := Aside0.mk (h0.below hb0)
 have hl1 := h1.len
 have H1 := Aside0.mk (h1.below hb0)
 have hl2 := h2.len
 have H2 := Aside0.mk (h2.below hb0)
 have hl3 := h3.len
 have H3 := Aside0.mk (h3.below hb0)
 have hl4 := h4.len
 have H4 := Aside0.mk (h4.below hb0)
 obtain ⟨W, hW⟩ : ∃ W, W = w.alloc (.cells #[.slice E0 x.f0.length d0, .slice E1 x.f1.length d1, .slice E2 x.f2.length d2, .slice E3 x.f3.length d3, .slice E4 x.f4.length d4] 36) := ⟨_, rfl⟩
 rw [← hW] at hb0 b0 H0 H1 H2 H3 H4
 have HW := Aside0.mk hW
 have HX := Aside0.mk hb0
 have B0 := Aside0.mk b0
 have HN := Aside0.mk hn
 have HC := Aside0.mk hc
 have p0 := (blk_cell b0 0).trans rfl
 clear hW hb0 b0 hn hc h0 h1 h2 h3 h4
 cases q0 : rulesB x.f0 with
 | false =>
  have Q0 := Aside0.mk q0
  have HE : Aside0 (engB x = false) := ⟨by unfold engB headE; rw [q0]; rfl⟩
  clear q0
  go_enter Tryz.func18, Tryz.ntmps18
  go_upto_region 1 with fail
  rw [← HW.out]
  go_wp2_with (first
   | (go_at_call 37; refine (sEvsOk_any E2 d2 x.f2 _ (H2.out.below HB2.out)).mono ?_; rintro e w3 ⟨rfl, hb⟩; rw [Q2.out]; have HB3 := Aside0.mk (below_then HB2.out HB2.out.size hb); clear hb; have k1_3 := (blk_cell (blk_below B0.out HB3.out) 1).trans rfl; have k3_3 := (blk_cell (blk_below B0.out HB3.out) 3).trans rfl)
   | (go_at_call 36; refine (sRulesOk_any E0 d0 x.f0 _ hl HN.out HC.out H0.out).mono ?_; rintro e w2 ⟨rfl, hb⟩; rw [Q0.out]; have HB2 := Aside0.mk hb; clear hb; have k0_2 := (blk_cell (blk_below B0.out HB2.out) 0).trans rfl; have k1_2 := (blk_cell (blk_below B0.out HB2.out) 1).trans rfl; have k2_2 := (blk_cell (blk_below B0.out HB2.out) 2).trans rfl; have k3_2 := (blk_cell (blk_below B0.out HB2.out) 3).trans rfl))
  go_ret
  exact ⟨by rw [HE.out]; rfl, below_then HX.out HX.out.size HB2.out⟩
 | true =>
 have Q0 := Aside0.mk q0
 clear q0
 by_cases n1 : x.f1.length = x.f0.length
 rotate_left
 ·have e1 : ((x.f1.length : Int) != (x.f0.length : Int)) = true := ne_t (by omega)
  have HE : Aside0 (engB x = false) := ⟨by unfold engB headE; rw [decide_eq_false n1]; simp⟩
  clear n1
  go_enter Tryz.func18, Tryz.ntmps18
  go_upto_region 1 with fail
  rw [← HW.out]
  go_wp2_with (first
   | (go_at_call 37; refine (sEvsOk_any E2 d2 x.f2 _ (H2.out.below HB2.out)).mono ?_; rintro e w3 ⟨rfl, hb⟩; rw [Q2.out]; have HB3 := Aside0.mk (below_then HB2.out HB2.out.size hb); clear hb; have k1_3 := (blk_cell (blk_below B0.out HB3.out) 1).trans rfl; have k3_3 := (blk_cell (blk_below B0.out HB3.out) 3).trans rfl)
   | (go_at_call 36; refine (sRulesOk_any E0 d0 x.f0 _ hl HN.out HC.out H0.out).mono ?_; rintro e w2 ⟨rfl, hb⟩; rw [Q0.out]; have HB2 := Aside0.mk hb; clear hb; have k0_2 := (blk_cell (blk_below B0.out HB2.out) 0).trans rfl; have k1_2 := (blk_cell (blk_below B0.out HB2.out) 1).trans rfl; have k2_2 := (blk_cell (blk_below B0.out HB2.out) 2).trans rfl; have k3_2 := (blk_cell (blk_below B0.out HB2.out) 3).trans rfl))
  go_ret
  exact ⟨by rw [HE.out]; rfl, below_then HX.out HX.out.size HB2.out⟩
 have e1 : ((x.f1.length : Int) != (x.f0.length : Int)) = false := ne_f (by omega)
 have N1 := Aside0.mk n1
 clear n1
 cases q2 : evsB x.f2 with
 | false =>
  have Q2 := Aside0.mk q2
  have HE : Aside0 (engB x = false) := ⟨by unfold engB headE; rw [q2]; simp⟩
  clear q2
  go_enter Tryz.func18, Tryz.ntmps18
  go_upto_region 1 with fail
  rw [← HW.out]
  go_wp2_with (first
   | (go_at_call 37; refine (sEvsOk_any E2 d2 x.f2 _ (H2.out.below HB2.out)).mono ?_; rintro e w3 ⟨rfl, hb⟩; rw [Q2.out]; have HB3 := Aside0.mk (below_then HB2.out HB2.out.size hb); clear hb; have k1_3 := (blk_cell (blk_below B0.out HB3.out) 1).trans rfl; have k3_3 := (blk_cell (blk_below B0.out HB3.out) 3).trans rfl)
   | (go_at_call 36; refine (sRulesOk_any E0 d0 x.f0 _ hl HN.out HC.out H0.out).mono ?_; rintro e w2 ⟨rfl, hb⟩; rw [Q0.out]; have HB2 := Aside0.mk hb; clear hb; have k0_2 := (blk_cell (blk_below B0.out HB2.out) 0).trans rfl; have k1_2 := (blk_cell (blk_below B0.out HB2.out) 1).trans rfl; have k2_2 := (blk_cell (blk_below B0.out HB2.out) 2).trans rfl; have k3_2 := (blk_cell (blk_below B0.out HB2.out) 3).trans rfl))
  go_ret
  exact ⟨by rw [HE.out]; rfl, below_then HX.out HX.out.size HB3.out⟩
 | true =>
 have Q2 := Aside0.mk q2
 clear q2
 by_cases n3 : x.f3.length = 4
 rotate_left
 ·have e3 : ((x.f3.length : Int) != 4) = true := ne_t (by omega)
  have HE : Aside0 (engB x = false) := ⟨by unfold engB headE; rw [decide_eq_false n3]; simp⟩
  clear n3
  go_enter Tryz.func18, Tryz.ntmps18
  go_upto_region 1 with fail
  rw [← HW.out]
  go_wp2_with (first
   | (go_at_call 37; refine (sEvsOk_any E2 d2 x.f2 _ (H2.out.below HB2.out)).mono ?_; rintro e w3 ⟨rfl, hb⟩; rw [Q2.out]; have HB3 := Aside0.mk (below_then HB2.out HB2.out.size hb); clear hb; have k1_3 := (blk_cell (blk_below B0.out HB3.out) 1).trans rfl; have k3_3 := (blk_cell (blk_below B0.out HB3.out) 3).trans rfl)
   | (go_at_call 36; refine (sRulesOk_any E0 d0 x.f0 _ hl HN.out HC.out H0.out).mono ?_; rintro e w2 ⟨rfl, hb⟩; rw [Q0.out]; have HB2 := Aside0.mk hb; clear hb; have k0_2 := (blk_cell (blk_below B0.out HB2.out) 0).trans rfl; have k1_2 := (blk_cell (blk_below B0.out HB2.out) 1).trans rfl; have k2_2 := (blk_cell (blk_below B0.out HB2.out) 2).trans rfl; have k3_2 := (blk_cell (blk_below B0.out HB2.out) 3).trans rfl))
  go_ret
  exact ⟨by rw [HE.out]; rfl, below_then HX.out HX.out.size HB3.out⟩
 have e3 : ((x.f3.length : Int) != 4) = false := ne_f (by omega)
 have HH : Aside0 (headE x = true) := ⟨by unfold headE; rw [Q0.out, decide_eq_true N1.out, Q2.out, decide_eq_true n3]; rfl⟩
 clear n3
 go_enter Tryz.func18, Tryz.ntmps18
 go_upto_region 1 with fail
 rw [← HW.out]
 go_upto_region 4 with (first
  | (go_at_call 37; refine (sEvsOk_any E2 d2 x.f2 _ (H2.out.below HB2.out)).mono ?_; rintro e w3 ⟨rfl, hb⟩; rw [Q2.out]; have HB3 := Aside0.mk (below_then HB2.out HB2.out.size hb); clear hb; have k1_3 := (blk_cell (blk_below B0.out HB3.out) 1).trans rfl; have k3_3 := (blk_cell (blk_below B0.out HB3.out) 3).trans rfl)
  | (go_at_call 36; refine (sRulesOk_any E0 d0 x.f0 _ hl HN.out HC.out H0.out).mono ?_; rintro e w2 ⟨rfl, hb⟩; rw [Q0.out]; have HB2 := Aside0.mk hb; clear hb; have k0_2 := (blk_cell (blk_below B0.out HB2.out) 0).trans rfl; have k1_2 := (blk_cell (blk_below B0.out HB2.out) 1).trans rfl; have k2_2 := (blk_cell (blk_below B0.out HB2.out) 2).trans rfl; have k3_2 := (blk_cell (blk_below B0.out HB2.out) 3).trans rfl))
 clear p0 e1 e3 k0_2 k1_2 k2_2 k3_2 k1_3 k3_3
 go_loopw [3] (fun vi wr => ∃ k : Nat, k ≤ x.f1.length ∧ vi = .int .i64 k ∧ Aside0 ((x.f1.take k).all (engGraphB x.f2.length (endB x.f2)) = true) ∧ Aside0 (Below W.heap.size W wr)) (fun vi _ => x.f1.length - (intOf vi).toNat)
 case atStart => exact ⟨0, Nat.zero_le _, rfl, ⟨rfl⟩, HB3⟩
 case round =>
  clear HB3 HB2
  obtain ⟨k, hk, rfl, HA, HB⟩ := hrel
  have k1 := (blk_cell (blk_below B0.out HB.out) 1).trans rfl
  by_cases hlt : k < x.f1.length
  ·have g1 : decide (k < x.f1.length) = true := decide_eq_true hlt
   have i1 : (k : Int) < x.f1.length := by omega
   obtain ⟨ad, A1, c1, rfl, y0, y1, y2, y3, y4, j1⟩ := atGraph (H1.out.below HB.out) k hlt
   have HS : Aside0 ((x.f1.take (k + 1)).all (engGraphB x.f2.length (endB x.f2)) = ((x.f1.take k).all (engGraphB x.f2.length (endB x.f2)) && engGraphB x.f2.length (endB x.f2) (x.f1.getD k zGraph))) := ⟨by rw [take_snoc x.f1 k zGraph hlt, List.all_append]; simp⟩
   have HF : Aside0 (engGraphB x.f2.length (endB x.f2) (x.f1.getD k zGraph) = false → engB x = false) := ⟨fun h => rest_g (all_no8 (by rw [List.getD_eq_getElem?_getD, List.getElem?_eq_getElem hlt]; exact List.getElem_mem hlt) h)⟩
   generalize x.f1.getD k zGraph = g at y0 y1 y2 y3 y4 j1 HS HF
   generalize hb4 : g.f4 = b4 at y4
   have HB4g := Aside0.mk hb4
   have HJ := Aside0.mk j1
   clear hb4 j1
   have k1e := cellE k1
   have k2e := cellE ((blk_cell (blk_below B0.out HB.out) 2).trans (rfl : _ = some (Value.slice E2 x.f2.length d2)))
   have y0e := cellE y0
   have y1e := cellE y1
   have y2e := cellE y2
   have y3e := cellE y3
   have y4e := cellE y4
   obtain ⟨vg, hvg⟩ : ∃ b, b = graphB g := ⟨_, rfl⟩
   obtain ⟨en, hen⟩ : ∃ b, b = endB x.f2 := ⟨_, rfl⟩
   obtain ⟨vw, hvw⟩ : ∃ b, b = waitsB x.f2.length g := ⟨_, rfl⟩
   have hg : ∀ s : Ext wr, Calls Tryz.prog 38 #[.agg #[.int .i64 g.f0, .slice A1 g.f1.length c1, .int .i64 g.f2, .int .i64 g.f3, .bool b4]] s.1 fun e w'' => e = .returned (.bool vg) ∧ Below s.1.heap.size s.1 w'' := fun s => by rw [hvg]; have hh := sGraphOk_any g A1 c1 s.1 (HJ.out.below s.2); rw [HB4g.out] at hh; exact hh
   have hnw : ∀ s : Ext wr, Calls Tryz.prog 39 #[.slice E2 x.f2.length d2] s.1 fun e w'' => e = .returned (.int .i64 en) ∧ Below s.1.heap.size s.1 w'' := fun s => (l6End_any E2 d2 x.f2 s.1 ((H2.out.below HB.out).below s.2)).mono (fun e w' ⟨h1, h2⟩ => ⟨by rw [h1, hen], by rw [h2]; exact Below.refl _ _⟩)
   have HVG := Aside0.mk hvg
   have HEN := Aside0.mk hen
   have HVW := Aside0.mk hvw
   rw [← hen] at HS HF HA
   have HEG : Aside0 (engGraphB x.f2.length en g = (vg && (!b4 && (decide (g.f2 = x.f2.length) && (decide (g.f3 = en) && vw))))) := ⟨by unfold engGraphB; rw [HVG.out, HB4g.out, HVW.out]; rfl⟩
   clear hvg hen hvw
   cases h0 : vg with
   | false =>
    have HE := Aside0.mk (HF.out (by rw [HEG.out, h0]; rfl))
    rw [h0] at hg
    have hwt : True := trivial
    clear h0
    go_upto_region 6 with fail
    refine region_ext (W := wr) (Below.refl _ _) (by kernel_rfl) (by kernel_rfl) ?_
    repeat (first | go_big_quiet_step ((first | (go_at_call 38; exact calls_ext (hg _)) | (go_at_call 39; exact calls_ext (hnw _)) | (go_at_call 40; exact calls_ext (hwt _)))) | quiet_step ((first | (go_at_call 38; exact calls_ext (hg _)) | (go_at_call 39; exact calls_ext (hnw _)) | (go_at_call 40; exact calls_ext (hwt _)))))
    refine wpQuiet_nil ?_
    rintro _ ⟨s, rfl⟩
    have HB4 := Aside0.mk (below_then HB.out HB.out.size s.2)
    clear hg hnw hwt k1 k1e k2e y0 y1 y2 y3 y4 y0e y1e y2e y3e y4e
    generalize s.1 = W4 at HB4 ⊢
    go_wp2
    go_ret
    exact ⟨by rw [HE.out]; rfl, below_then HX.out HX.out.size HB4.out⟩
   | true =>
   have E0_ := Aside0.mk h0
   rw [h0] at hg
   clear h0
   cases b4 with
   | true =>
    have HE := Aside0.mk (HF.out (by rw [HEG.out]; simp))
    have hwt : True := trivial
    go_upto_region 6 with fail
    refine region_ext (W := wr) (Below.refl _ _) (by kernel_rfl) (by kernel_rfl) ?_
    repeat (first | go_big_quiet_step ((first | (go_at_call 38; exact calls_ext (hg _)) | (go_at_call 39; exact calls_ext (hnw _)) | (go_at_call 40; exact calls_ext (hwt _)))) | quiet_step ((first | (go_at_call 38; exact calls_ext (hg _)) | (go_at_call 39; exact calls_ext (hnw _)) | (go_at_call 40; exact calls_ext (hwt _)))))
    refine wpQuiet_nil ?_
    rintro _ ⟨s, rfl⟩
    have HB4 := Aside0.mk (below_then HB.out HB.out.size s.2)
    clear hg hnw hwt k1 k1e k2e y0 y1 y2 y3 y4 y0e y1e y2e y3e y4e
    generalize s.1 = W4 at HB4 ⊢
    go_wp2
    go_ret
    exact ⟨by rw [HE.out]; rfl, below_then HX.out HX.out.size HB4.out⟩
   | false =>
   by_cases h2 : g.f2 = x.f2.length
   rotate_left
   ·have n2 : (g.f2 != (x.f2.length : Int)) = true := ne_t h2
    have HE := Aside0.mk (HF.out (by rw [HEG.out, decide_eq_false h2]; simp))
    have hwt : True := trivial
    clear h2
    go_upto_region 6 with fail
    refine region_ext (W := wr) (Below.refl _ _) (by kernel_rfl) (by kernel_rfl) ?_
    repeat (first | go_big_quiet_step ((first | (go_at_call 38; exact calls_ext (hg _)) | (go_at_call 39; exact calls_ext (hnw _)) | (go_at_call 40; exact calls_ext (hwt _)))) | quiet_step ((first | (go_at_call 38; exact calls_ext (hg _)) | (go_at_call 39; exact calls_ext (hnw _)) | (go_at_call 40; exact calls_ext (hwt _)))))
    refine wpQuiet_nil ?_
    rintro _ ⟨s, rfl⟩
    have HB4 := Aside0.mk (below_then HB.out HB.out.size s.2)
    clear hg hnw hwt k1 k1e k2e y0 y1 y2 y3 y4 y0e y1e y2e y3e y4e
    generalize s.1 = W4 at HB4 ⊢
    go_wp2
    go_ret
    exact ⟨by rw [HE.out]; rfl, below_then HX.out HX.out.size HB4.out⟩
   have n2 : (g.f2 != (x.f2.length : Int)) = false := ne_f h2
   by_cases h3 : g.f3 = en
   rotate_left
   ·have n3 : (g.f3 != en) = true := ne_t h3
    have HE := Aside0.mk (HF.out (by rw [HEG.out, decide_eq_false h3]; simp))
    have hwt : True := trivial
    clear h2 h3
    go_upto_region 6 with fail
    refine region_ext (W := wr) (Below.refl _ _) (by kernel_rfl) (by kernel_rfl) ?_
    repeat (first | go_big_quiet_step ((first | (go_at_call 38; exact calls_ext (hg _)) | (go_at_call 39; exact calls_ext (hnw _)) | (go_at_call 40; exact calls_ext (hwt _)))) | quiet_step ((first | (go_at_call 38; exact calls_ext (hg _)) | (go_at_call 39; exact calls_ext (hnw _)) | (go_at_call 40; exact calls_ext (hwt _)))))
    refine wpQuiet_nil ?_
    rintro _ ⟨s, rfl⟩
    have HB4 := Aside0.mk (below_then HB.out HB.out.size s.2)
    clear hg hnw hwt k1 k1e k2e y0 y1 y2 y3 y4 y0e y1e y2e y3e y4e
    generalize s.1 = W4 at HB4 ⊢
    go_wp2
    go_ret
    exact ⟨by rw [HE.out]; rfl, below_then HX.out HX.out.size HB4.out⟩
   have n3 : (g.f3 != en) = false := ne_f h3
   have hgp : graphB g = true := HVG.out.symm.trans E0_.out
   have hwt : ∀ s : Ext wr, Calls Tryz.prog 40 #[.agg #[.int .i64 g.f0, .slice A1 g.f1.length c1, .int .i64 g.f2, .int .i64 g.f3, .bool false], .int .i64 x.f2.length] s.1 fun e w'' => e = .returned (.bool vw) ∧ Below s.1.heap.size s.1 w'' := fun s => by rw [HVW.out]; have hh := l9Waits_any g A1 c1 x.f2.length s.1 (graph_pos hgp) (HJ.out.below s.2); rw [HB4g.out] at hh; exact hh
   clear hgp
   cases hw : vw with
   | false =>
    have HE := Aside0.mk (HF.out (by rw [HEG.out, hw]; simp))
    rw [hw] at hwt
    clear hw h2 h3
    go_upto_region 6 with fail
    refine region_ext (W := wr) (Below.refl _ _) (by kernel_rfl) (by kernel_rfl) ?_
    repeat (first | go_big_quiet_step ((first | (go_at_call 38; exact calls_ext (hg _)) | (go_at_call 39; exact calls_ext (hnw _)) | (go_at_call 40; exact calls_ext (hwt _)))) | quiet_step ((first | (go_at_call 38; exact calls_ext (hg _)) | (go_at_call 39; exact calls_ext (hnw _)) | (go_at_call 40; exact calls_ext (hwt _)))))
    refine wpQuiet_nil ?_
    rintro _ ⟨s, rfl⟩
    have HB4 := Aside0.mk (below_then HB.out HB.out.size s.2)
    clear hg hnw hwt k1 k1e k2e y0 y1 y2 y3 y4 y0e y1e y2e y3e y4e
    generalize s.1 = W4 at HB4 ⊢
    go_wp2
    go_ret
    exact ⟨by rw [HE.out]; rfl, below_then HX.out HX.out.size HB4.out⟩
   | true =>
   have HE2 : Aside0 ((x.f1.take (k + 1)).all (engGraphB x.f2.length (endB x.f2)) = true) := ⟨by rw [← HEN.out, HS.out, HA.out, HEG.out, E0_.out, decide_eq_true h2, decide_eq_true h3, hw]; rfl⟩
   rw [hw] at hwt
   clear hw h2 h3
   go_upto_region 6 with fail
   refine region_ext (W := wr) (Below.refl _ _) (by kernel_rfl) (by kernel_rfl) ?_
   repeat (first | go_big_quiet_step ((first | (go_at_call 38; exact calls_ext (hg _)) | (go_at_call 39; exact calls_ext (hnw _)) | (go_at_call 40; exact calls_ext (hwt _)))) | quiet_step ((first | (go_at_call 38; exact calls_ext (hg _)) | (go_at_call 39; exact calls_ext (hnw _)) | (go_at_call 40; exact calls_ext (hwt _)))))
   refine wpQuiet_nil ?_
   rintro _ ⟨s, rfl⟩
   have HB4 := Aside0.mk (below_then HB.out HB.out.size s.2)
   clear hg hnw hwt k1 k1e k2e y0 y1 y2 y3 y4 y0e y1e y2e y3e y4e
   generalize s.1 = W4 at HB4 ⊢
   go_wp2
   go_roundw
   case rel => exact ⟨k + 1, by omega, by go_num, HE2, HB4⟩
   case measure => simp [intOf]; omega
  ·have hke : k = x.f1.length := by omega
   subst hke
   have g1 : decide (x.f1.length < x.f1.length) = false := decide_eq_false (by omega)
   have HGA : Aside0 (x.f1.all (engGraphB x.f2.length (endB x.f2)) = true) := ⟨by have h := HA.out; rwa [List.take_length] at h⟩
   go_upto_region 9 with fail
   clear k1 g1 HA
   go_loopw [4] (fun vi wr => ∃ k : Nat, k ≤ x.f3.length ∧ vi = .int .i64 k ∧ Aside0 ((x.f3.take k).all (fun n => inb n 0 1000) = true) ∧ Aside0 (Below W.heap.size W wr)) (fun vi _ => x.f3.length - (intOf vi).toNat)
   case atStart => exact ⟨0, Nat.zero_le _, rfl, ⟨rfl⟩, HB⟩
   case round =>
    clear HB
    obtain ⟨k, hk, rfl, HA, HB⟩ := hrel
    have k3 := (blk_cell (blk_below B0.out HB.out) 3).trans rfl
    by_cases hlt : k < x.f3.length
    ·have g1 : decide (k < x.f3.length) = true := decide_eq_true hlt
     have i1 : (k : Int) < x.f3.length := by omega
     obtain ⟨ad, rfl, y0⟩ := atI (H3.out.below HB.out) k hlt
     have HS : Aside0 ((x.f3.take (k + 1)).all (fun n => inb n 0 1000) = ((x.f3.take k).all (fun n => inb n 0 1000) && inb (x.f3.getD k 0) 0 1000)) := ⟨by rw [take_snoc x.f3 k 0 hlt, List.all_append]; simp⟩
     have HF : Aside0 (inb (x.f3.getD k 0) 0 1000 = false → engB x = false) := ⟨fun h => rest_k (all_no8 (y := x.f3.getD k 0) (by rw [List.getD_eq_getElem?_getD, List.getElem?_eq_getElem hlt]; exact List.getElem_mem hlt) h)⟩
     generalize x.f3.getD k 0 = q at y0 HS HF
     cases hq : inb q 0 1000 with
     | true =>
      have HE2 : Aside0 ((x.f3.take (k + 1)).all (fun n => inb n 0 1000) = true) := ⟨by rw [HS.out, HA.out, hq]; rfl⟩
      have HQ := Aside0.mk hq
      clear hq
      go_wp2_with (go_at_call 41; refine (l9Key_any q _).mono ?_; rintro e w9 ⟨rfl, he⟩; have he2 := he.symm; subst he2; rw [HQ.out])
      go_roundw
      case rel => exact ⟨k + 1, by omega, by go_num, HE2, HB⟩
      case measure => simp [intOf]; omega
     | false =>
      have HE := Aside0.mk (HF.out hq)
      have HQ := Aside0.mk hq
      clear hq
      go_wp2_with (go_at_call 41; refine (l9Key_any q _).mono ?_; rintro e w9 ⟨rfl, he⟩; have he2 := he.symm; subst he2; rw [HQ.out])
      go_ret
      exact ⟨by rw [HE.out]; rfl, below_then HX.out HX.out.size HB.out⟩
    ·have hke : k = x.f3.length := by omega
     subst hke
     have g1 : decide (x.f3.length < x.f3.length) = false := decide_eq_false (by omega)
     have HKA : Aside0 (x.f3.all (fun n => inb n 0 1000) = true) := ⟨by have h := HA.out; rwa [List.take_length] at h⟩
     go_upto_region 14 with fail
     clear k3 g1 HA
     go_loopw [5] (fun vi wr => ∃ k : Nat, k ≤ x.f4.length ∧ vi = .int .i64 k ∧ Aside0 ((x.f4.take k).all (fireB x.f0.length x.f2.length) = true) ∧ Aside0 (Below W.heap.size W wr)) (fun vi _ => x.f4.length - (intOf vi).toNat)
     case atStart => exact ⟨0, Nat.zero_le _, rfl, ⟨rfl⟩, HB⟩
     case round =>
      clear HB
      obtain ⟨k, hk, rfl, HA, HB⟩ := hrel
      have k4 := (blk_cell (blk_below B0.out HB.out) 4).trans rfl
      by_cases hlt : k < x.f4.length
      ·have g1 : decide (k < x.f4.length) = true := decide_eq_true hlt
       have i1 : (k : Int) < x.f4.length := by omega
       obtain ⟨ad, A3, c3, rfl, y0, y1, y2, y3, j3⟩ := atFire (H4.out.below HB.out) k hlt
       have HS : Aside0 ((x.f4.take (k + 1)).all (fireB x.f0.length x.f2.length) = ((x.f4.take k).all (fireB x.f0.length x.f2.length) && fireB x.f0.length x.f2.length (x.f4.getD k zFire))) := ⟨by rw [take_snoc x.f4 k zFire hlt, List.all_append]; simp⟩
       have HF : Aside0 (fireB x.f0.length x.f2.length (x.f4.getD k zFire) = false → engB x = false) := ⟨fun h => rest_f (all_no8 (by rw [List.getD_eq_getElem?_getD, List.getElem?_eq_getElem hlt]; exact List.getElem_mem hlt) h)⟩
       generalize x.f4.getD k zFire = o at y0 y1 y2 y3 j3 HS HF
       go_upto_region 17 with fail
       have hba := below_alloc (Below.refl wr.heap.size wr) (.cells #[.int .i64 o.f0, .int .i64 o.f1.f0, .int .i64 o.f1.f1, .slice A3 o.f1.f2.length c3] 56)
       have bX := blk_new wr (.cells #[.int .i64 o.f0, .int .i64 o.f1.f0, .int .i64 o.f1.f1, .slice A3 o.f1.f2.length c3] 56)
       have hj := j3.below hba
       have HBX := Aside0.mk (below_then HB.out HB.out.size hba)
       generalize wr.alloc (.cells #[.int .i64 o.f0, .int .i64 o.f1.f0, .int .i64 o.f1.f1, .slice A3 o.f1.f2.length c3] 56) = Wb at hba bX hj HBX ⊢
       have HJ := Aside0.mk hj
       have p0e := cellE ((blk_cell bX 0).trans rfl)
       have p1e := cellE ((blk_cell bX 1).trans rfl)
       have p2e := cellE ((blk_cell bX 2).trans rfl)
       have p3e := cellE ((blk_cell bX 3).trans rfl)
       have k0e := cellE ((blk_cell (blk_below B0.out HBX.out) 0).trans (rfl : _ = some (Value.slice E0 x.f0.length d0)))
       have k2e := cellE ((blk_cell (blk_below B0.out HBX.out) 2).trans (rfl : _ = some (Value.slice E2 x.f2.length d2)))
       obtain ⟨vo, hvo⟩ : ∃ b, b = Go.Proofs.YtckblabkapeigaaGreat.Pu.okO o.f1 := ⟨_, rfl⟩
       have hoc : ∀ s : Ext Wb, Calls Tryz.prog 42 #[.agg #[.int .i64 o.f1.f0, .int .i64 o.f1.f1, .slice A3 o.f1.f2.length c3]] s.1 fun e w'' => e = .returned (.bool vo) ∧ Below s.1.heap.size s.1 w'' := fun s => by rw [hvo]; exact Go.Proofs.YtckblabkapeigaaGreat.Oc.sOccOk_any o.f1 A3 c3 s.1 ⟨(HJ.out.below s.2).1, (HJ.out.below s.2).2⟩
       have HVO := Aside0.mk hvo
       clear hba bX hj j3 y0 y1 y2 y3 k4 hvo
       by_cases a0 : 0 ≤ o.f0
       rotate_left
       ·have d0_ : decide (o.f0 < 0) = true := decide_eq_true (by omega)
        have HE := Aside0.mk (HF.out (by unfold fireB; rw [inb_f (by omega)]; rfl))
        clear a0
        refine region_ext (W := Wb) (Below.refl _ _) (by kernel_rfl) (by kernel_rfl) ?_
        repeat (first | go_big_quiet_step ((go_at_call 42; exact calls_ext (hoc _))) | quiet_step ((go_at_call 42; exact calls_ext (hoc _))))
        refine wpQuiet_nil ?_
        rintro _ ⟨s, rfl⟩
        have HB5 := Aside0.mk (below_then HBX.out HBX.out.size s.2)
        generalize s.1 = W5 at HB5 ⊢
        go_wp2
        go_ret
        exact ⟨by rw [HE.out]; rfl, below_then HX.out HX.out.size HB5.out⟩
       have d0_ : decide (o.f0 < 0) = false := decide_eq_false (by omega)
       by_cases a1 : o.f0 < x.f0.length
       rotate_left
       ·have d1_ : decide (o.f0 ≥ (x.f0.length : Int)) = true := decide_eq_true (by omega)
        have d1_' : decide ((x.f0.length : Int) ≤ o.f0) = true := decide_eq_true (by omega)
        have HE := Aside0.mk (HF.out (by unfold fireB; rw [inb_f (by omega)]; rfl))
        clear a0 a1
        refine region_ext (W := Wb) (Below.refl _ _) (by kernel_rfl) (by kernel_rfl) ?_
        repeat (first | go_big_quiet_step ((go_at_call 42; exact calls_ext (hoc _))) | quiet_step ((go_at_call 42; exact calls_ext (hoc _))))
        refine wpQuiet_nil ?_
        rintro _ ⟨s, rfl⟩
        have HB5 := Aside0.mk (below_then HBX.out HBX.out.size s.2)
        generalize s.1 = W5 at HB5 ⊢
        go_wp2
        go_ret
        exact ⟨by rw [HE.out]; rfl, below_then HX.out HX.out.size HB5.out⟩
       have d1_ : decide (o.f0 ≥ (x.f0.length : Int)) = false := decide_eq_false (by omega)
       have d1_' : decide ((x.f0.length : Int) ≤ o.f0) = false := decide_eq_false (by omega)
       have HIN : Aside0 (inb o.f0 0 ((x.f0.length : Int) - 1) = true) := ⟨inb_t (by omega)⟩
       clear a0 a1
       cases h1 : vo with
       | false =>
        have HE := Aside0.mk (HF.out (by unfold fireB; rw [← HVO.out, h1]; simp))
        rw [h1] at hoc
        clear h1
        refine region_ext (W := Wb) (Below.refl _ _) (by kernel_rfl) (by kernel_rfl) ?_
        repeat (first | go_big_quiet_step ((go_at_call 42; exact calls_ext (hoc _))) | quiet_step ((go_at_call 42; exact calls_ext (hoc _))))
        refine wpQuiet_nil ?_
        rintro _ ⟨s, rfl⟩
        have HB5 := Aside0.mk (below_then HBX.out HBX.out.size s.2)
        generalize s.1 = W5 at HB5 ⊢
        go_wp2
        go_ret
        exact ⟨by rw [HE.out]; rfl, below_then HX.out HX.out.size HB5.out⟩
       | true =>
       have hpos : 0 < o.f1.f2.length := by
        have h2 := (Go.Proofs.YtckblabkapeigaaGreat.Pu.okO_iff.1 (HVO.out.symm.trans h1)).ne
        omega
       have HO1 := Aside0.mk (HVO.out.symm.trans h1)
       rw [h1] at hoc
       clear h1
       have hol := HJ.out.len
       obtain ⟨ad2, hA3, z0⟩ := atI HJ.out (o.f1.f2.length - 1) (by omega)
       obtain ⟨v, hv⟩ : ∃ v, v = lastB o.f1 := ⟨_, rfl⟩
       have z1 : Wb.cell? (ad2.add (o.f1.f2.length - 1)) = some (.int .i64 v) := by rw [hv]; exact z0
       have HFB : Aside0 (fireB x.f0.length x.f2.length o = decide (v < x.f2.length)) := ⟨by unfold fireB; rw [HIN.out, HO1.out, ← hv]; rfl⟩
       clear hv z0
       subst hA3
       have z1e := cellE z1
       clear z1
       obtain ⟨n, hn2⟩ : ∃ n, n = o.f1.f2.length := ⟨_, rfl⟩
       rw [← hn2] at p3e z1e hpos hol hoc
       have i0 : 0 ≤ (n : Int) - 1 := by omega
       have i2 : ((n : Int) - 1).toNat = n - 1 := by omega
       have i3 : (n : Int) - 1 < n := by omega
       clear hn2 HJ
       by_cases h2 : v < x.f2.length
       rotate_left
       ·have d2_ : decide (v ≥ (x.f2.length : Int)) = true := decide_eq_true (by omega)
        have d2_' : decide ((x.f2.length : Int) ≤ v) = true := decide_eq_true (by omega)
        have HE := Aside0.mk (HF.out (by rw [HFB.out, decide_eq_false h2]))
        clear h2
        refine region_ext (W := Wb) (Below.refl _ _) (by kernel_rfl) (by kernel_rfl) ?_
        repeat (first | go_big_quiet_step ((go_at_call 42; exact calls_ext (hoc _))) | quiet_step ((go_at_call 42; exact calls_ext (hoc _))))
        refine wpQuiet_nil ?_
        rintro _ ⟨s, rfl⟩
        have HB5 := Aside0.mk (below_then HBX.out HBX.out.size s.2)
        generalize s.1 = W5 at HB5 ⊢
        go_wp2
        go_ret
        exact ⟨by rw [HE.out]; rfl, below_then HX.out HX.out.size HB5.out⟩
       have d2_ : decide (v ≥ (x.f2.length : Int)) = false := decide_eq_false (by omega)
       have d2_' : decide ((x.f2.length : Int) ≤ v) = false := decide_eq_false (by omega)
       have HE2 : Aside0 ((x.f4.take (k + 1)).all (fireB x.f0.length x.f2.length) = true) := ⟨by rw [HS.out, HA.out, HFB.out, decide_eq_true h2]; rfl⟩
       clear h2
       refine region_ext (W := Wb) (Below.refl _ _) (by kernel_rfl) (by kernel_rfl) ?_
       repeat (first | go_big_quiet_step ((go_at_call 42; exact calls_ext (hoc _))) | quiet_step ((go_at_call 42; exact calls_ext (hoc _))))
       refine wpQuiet_nil ?_
       rintro _ ⟨s, rfl⟩
       have HB5 := Aside0.mk (below_then HBX.out HBX.out.size s.2)
       generalize s.1 = W5 at HB5 ⊢
       go_wp2
       go_roundw
       case rel => exact ⟨k + 1, by omega, by go_num, HE2, HB5⟩
       case measure => simp [intOf]; omega
      ·have hke : k = x.f4.length := by omega
       subst hke
       have g1 : decide (x.f4.length < x.f4.length) = false := decide_eq_false (by omega)
       have HE : Aside0 (engB x = true) := ⟨by
        have h := HA.out
        rw [List.take_length] at h
        unfold engB restE
        rw [HH.out, HGA.out, HKA.out, h]; rfl⟩
       go_wp2
       go_ret
       exact ⟨by rw [HE.out]; rfl, below_then HX.out HX.out.size HB.out⟩
end Go.Proofs.YtckblabkapeigaaGreat.Pe9
