
/- FnExactEngSum: the law's walk. Printed by genLq9.py. -/
import Derived.Test.YtckblabkapeigaaGreatNPf9
import Derived.Test.YtckblabkapeigaaGreatNMe8
import Derived.Test.YtckblabkapeigaaGreatNKc
import Derived.Test.YtckblabkapeigaaGreatNZa
set_option linter.unusedVariables false
set_option linter.unusedSimpArgs false
namespace Go.Proofs.YtckblabkapeigaaGreat.Lq9
open Go.RowKit Go.Proofs.YtckblabkapeigaaGreatW.PrintWords Go.Proofs.YtckblabkapeigaaGreat.Ja Go.Proofs.YtckblabkapeigaaGreat.Jb Go.Proofs.YtckblabkapeigaaGreat.Jc Go.Proofs.YtckblabkapeigaaGreat.Jd Go.Proofs.YtckblabkapeigaaGreat.Jf Go.Proofs.YtckblabkapeigaaGreat.Jg Go.Proofs.YtckblabkapeigaaGreat.Jh Go.Proofs.YtckblabkapeigaaGreat.Ka Go.Proofs.YtckblabkapeigaaGreat.Kb Go.Proofs.YtckblabkapeigaaGreat.Kc Go.Proofs.YtckblabkapeigaaGreat.Kd2 Go.Proofs.YtckblabkapeigaaGreat.Ee8 Go.Proofs.YtckblabkapeigaaGreat.Ov9 Go.Proofs.YtckblabkapeigaaGreat.Oz9 Go.Proofs.YtckblabkapeigaaGreat.Pa9 Go.Proofs.YtckblabkapeigaaGreat.Pb9 Go.Proofs.YtckblabkapeigaaGreat.Pc9 Go.Proofs.YtckblabkapeigaaGreat.Pe9 Go.Proofs.YtckblabkapeigaaGreat.Pf9 Go.Proofs.YtckblabkapeigaaGreat.Ej8 Go.Proofs.YtckblabkapeigaaGreat.Mk8 Go.Proofs.YtckblabkapeigaaGreat.Mh8 Go.Proofs.YtckblabkapeigaaGreat.Me8

theorem cm_le {α : Type} (cm c : α → Nat) (q : Nat) (h : ∀ y, cm y ≤ q * (1 + c y)) : ∀ l : List α, cmS cm l ≤ q * (l.length + (l.map c).sum)
 | [] => by simp [cmS]
 | y :: ys => by
  have h1 := h y
  have h2 := cm_le cm c q h ys
  rw [cmS_cons, List.length_cons, List.map_cons, List.sum_cons]
  have e : q * (ys.length + 1 + (c y + (ys.map c).sum)) = q * (1 + c y) + q * (ys.length + (ys.map c).sum) := by rw [← Nat.mul_add]; congr 1; omega
  omega
theorem cm_occ (l : List TOcc) : cmS cmOcc l ≤ 3 * cS cOcc l := cm_le cmOcc cOcc 3 (fun y => by unfold cmOcc cOcc; omega) l
theorem cm_node (l : List TNode) : cmS cmNode l ≤ 6 * cS cNode l := cm_le cmNode cNode 6 (fun y => by
 have h4 := cm_occ y.f4.f0
 have h5 := cm_occ y.f4.f1
 have h6 := cm_occ y.f5.f0
 have h7 := cm_occ y.f5.f1
 have h8 := cm_occ y.f6
 unfold cmNode cNode cPair cSpan
 omega) l
theorem cm_graph (l : List TGraph) : cmS cmGraph l ≤ 10 * cS cGraph l := cm_le cmGraph cGraph 10 (fun y => by
 have h := cm_node y.f1
 unfold cmGraph cGraph
 omega) l
theorem cm_rule (l : List TRule) : cmS cmRule l ≤ 12 * cS cRule l := cm_le cmRule cRule 12 (fun y => by unfold cmRule cRule; omega) l
theorem cm_fire (l : List TFire) : cmS cmFire l ≤ 6 * cS cFire l := cm_le cmFire cFire 6 (fun y => by unfold cmFire cFire cOcc; omega) l
theorem cm_ev (l : List TEv) : cmS cmEv l = 3 * l.length := by
 induction l with
 | nil => rfl
 | cons y ys ih => rw [cmS_cons, ih, List.length_cons]; show 3 + _ = _; omega
theorem cm_eng (x : TEng) (h : cEng x ≤ 1048576) : mcEng x ≤ 100000000 := by
 have h0 := cm_rule x.f0
 have h1 := cm_graph x.f1
 have h2 := cm_ev x.f2
 have h4 := cm_fire x.f4
 unfold mcEng
 unfold cEng at h
 omega
theorem sum_mem9 {α : Type} (c : α → Nat) : ∀ {l : List α} {y : α}, y ∈ l → c y ≤ (l.map c).sum
 | z :: zs, y, h => by
  rw [List.map_cons, List.sum_cons]
  rcases List.mem_cons.1 h with e | h
  ·subst e; omega
  ·have := sum_mem9 c h; omega
theorem sum_small (x : TEng) : (sumB x).length ≤ 4 := by
 unfold sumB
 split
 ·rw [sumTo_len x _ (Nat.le_refl _)]; omega
 ·simp
theorem below_trans9 {w w1 w2 : World} (h : Below w.heap.size w w1) (g : Below w1.heap.size w1 w2) : Below w.heap.size w w2 := below_then h h.size g
theorem isR {α : Type} {d : Kd α} {e : Nat} {w : World} {base : Nat} {ok : Nat → Prop} {A : Option Addr} {n c : Nat} {l : List α} (h : Kd.S d e w base ok (.slice A n c) l) : IsS d w l A c := (S_isS h).2
/-- behind the first copies: what the program gave (a row of numbers from bg on) -/
structure LawMem (W5 W : World) (bg : Nat) (v7 : Value) (g : List Int) : Prop where
 h5 : Below W5.heap.size W5 W
 g0 : Kd.S (Kd.int .i64) 3 W bg (fun _ => True) v7 g
 i1 : W5.heap.size ≤ bg
section
variable {W5 W W' : World} {bg : Nat} {v7 : Value} {g g' : List Int}
theorem LawMem.below (h : LawMem W5 W bg v7 g) (hb : Below W.heap.size W W') : LawMem W5 W' bg v7 g := ⟨below_then h.h5 h.h5.size hb, Kd.S_below h.g0 hb, h.i1⟩
theorem LawMem.markX {bx N6 : Nat} (h : LawMem W5 W bg v7 g) (hf : Fr (fun j => (bx ≤ j ∧ j < N6) ∧ bx ≤ j) W W') (hx : W5.heap.size ≤ bx) (hN : N6 ≤ bg) : LawMem W5 W' bg v7 g :=
 ⟨below_trans9_ h.h5 (hf.below h.h5.size (fun j hj => Nat.le_trans hx hj.2)), Kd.S_mono (Kd.S_step (Kd.S_mono (Kd.S_bound h.g0) (ok' := fun j => bg ≤ j) (fun j hj => hj.2.1)) (fun j hj hlt => hf.block j hlt (fun h2 => by have := h2.1.2; omega))) (fun _ _ => trivial), h.i1⟩
theorem LawMem.markG (h : LawMem W5 W bg v7 g) (hf : Fr (fun b => some b = v7.ownBlock) W W') (hs : Kd.S (Kd.int .i64) 3 W' bg (fun _ => True) v7 g') : LawMem W5 W' bg v7 g' :=
 ⟨below_trans9_ h.h5 (hf.below h.h5.size (fun j hj => Nat.le_trans h.i1 (Kd.R_base (Kd.S_R h.g0) j hj.symm))), hs, h.i1⟩
end
set_option maxHeartbeats 16000000 in
set_option maxRecDepth 100000 in
theorem walk (x : TEng) (A0 : Option Addr) (c0 : Nat) (A1 : Option Addr) (c1 : Nat) (A2 : Option Addr) (c2 : Nat) (A3 : Option Addr) (c3 : Nat) (A4 : Option Addr) (c4 : Nat) (wf : ∀ r ∈ x.f0, r.f0.size ≤ 9223372036854775807) (w : World) (hA0 : IsS kRule w x.f0 A0 c0) (hA1 : IsS kGraph w x.f1 A1 c1) (hA2 : IsS kEv w x.f2 A2 c2) (hA3 : IsS (Kd.int .i64) w x.f3 A3 c3) (hA4 : IsS kFire w x.f4 A4 c4) :
  Calls Tryz.prog 3 #[.agg #[.slice A0 x.f0.length c0, .slice A1 x.f1.length c1, .slice A2 x.f2.length c2, .slice A3 x.f3.length c3, .slice A4 x.f4.length c4]] w fun e w' => e = .returned (.bool true) ∧ Below w.heap.size w w' := by
 have hb0 := below_alloc (Below.refl w.heap.size w) (.cells #[.slice A0 x.f0.length c0, .slice A1 x.f1.length c1, .slice A2 x.f2.length c2, .slice A3 x.f3.length c3, .slice A4 x.f4.length c4] 28)
 have b0 := blk_new w (.cells #[.slice A0 x.f0.length c0, .slice A1 x.f1.length c1, .slice A2 x.f2.length c2, .slice A3 x.f3.length c3, .slice A4 x.f4.length c4] 28)
 have HA0 := Aside0.mk (hA0.below hb0)
 have HA1 := Aside0.mk (hA1.below hb0)
 have HA2 := Aside0.mk (hA2.below hb0)
 have HA3 := Aside0.mk (hA3.below hb0)
 have HA4 := Aside0.mk (hA4.below hb0)
 obtain ⟨W0, hW⟩ : ∃ W, W = w.alloc (.cells #[.slice A0 x.f0.length c0, .slice A1 x.f1.length c1, .slice A2 x.f2.length c2, .slice A3 x.f3.length c3, .slice A4 x.f4.length c4] 28) := ⟨_, rfl⟩
 rw [← hW] at hb0 b0 HA0 HA1 HA2 HA3 HA4
 have HW := Aside0.mk hW
 have HX := Aside0.mk hb0
 have BA := Aside0.mk b0
 have WF := Aside0.mk wf
 have p0 := (blk_cell b0 0).trans rfl
 have p1 := (blk_cell b0 1).trans rfl
 have p2 := (blk_cell b0 2).trans rfl
 have p3 := (blk_cell b0 3).trans rfl
 have p4 := (blk_cell b0 4).trans rfl
 clear hW hb0 b0 wf hA0 hA1 hA2 hA3 hA4
 obtain ⟨n, hn⟩ : ∃ n : Nat, n = cEng x := ⟨_, rfl⟩
 have HN := Aside0.mk hn
 by_cases h : (1048576 : Int) - n < 0
 ·have HI : Aside0 (szI 1048576 (cEng x) = -1) := ⟨by rw [HN.out.symm]; exact if_pos h⟩
  clear h hn
  go_enter Tryz.func3, Tryz.ntmps3
  go_upto_region 1 with fail
  rw [← HW.out]
  go_wp2_with (go_at_call 4; refine (szEng_any x A0 c0 A1 c1 A2 c2 A3 c3 A4 c4 1048576 (by omega) (by omega) WF.out _ HA0.out HA1.out HA2.out HA3.out HA4.out).mono ?_; rintro e w2 ⟨rfl, hb2⟩; rw [HI.out]; have HB2 := Aside0.mk (below_trans9 HX.out hb2); clear hb2)
  go_ret
  exact ⟨rfl, HB2.out⟩
 obtain ⟨r1, hr⟩ : ∃ r : Int, r = 1048576 - n := ⟨_, rfl⟩
 have HI : Aside0 (szI 1048576 (cEng x) = r1) := ⟨by rw [HN.out.symm]; exact (if_neg h).trans hr.symm⟩
 have d : decide (r1 < 0) = false := decide_eq_false (by omega)
 have hcs : cEng x ≤ 1048576 := by omega
 have HCS := Aside0.mk hcs
 have hl0 : x.f0.length ≤ 1048576 := by have h2 : x.f0.length + (x.f0.map cRule).sum + cS cGraph x.f1 + x.f2.length + x.f3.length + cS cFire x.f4 ≤ 1048576 := hcs; omega
 have hl4 : x.f4.length ≤ 1048576 := by have h2 : cS cRule x.f0 + cS cGraph x.f1 + x.f2.length + x.f3.length + (x.f4.length + (x.f4.map cFire).sum) ≤ 1048576 := hcs; omega
 have HL0 := Aside0.mk hl0
 have HL4 := Aside0.mk hl4
 have HCC : Aside0 (∀ y ∈ x.f0, cntL y.f3.f3 ≤ 1048576) := ⟨fun y hy => by
  have h2 : x.f0.length + (x.f0.map cRule).sum + cS cGraph x.f1 + x.f2.length + x.f3.length + cS cFire x.f4 ≤ 1048576 := hcs
  have h3 := sum_mem9 cRule hy
  have h4 : cRule y = y.f0.size + cntL y.f3.f3 := rfl
  omega⟩
 have HME := Aside0.mk (cm_eng x hcs)
 have hmn : 0 ≤ mcEng x := by unfold mcEng; omega
 obtain ⟨L, hLL⟩ : ∃ L, L = sumB x := ⟨_, rfl⟩
 have hls := sum_small x
 rw [← hLL] at hls
 have HO := Aside0.mk hLL
 obtain ⟨kx, hkx⟩ : ∃ q : Int, q = 1 + mcEng x := ⟨_, rfl⟩
 obtain ⟨mg, hmg⟩ : ∃ q : Int, q = 1 + (L.length : Int) := ⟨_, rfl⟩
 have HKX := Aside0.mk hkx
 have HMG := Aside0.mk hmg
 have dx : decide (kx < 0) = false := decide_eq_false (by omega)
 have dm : decide (mg < 0) = false := decide_eq_false (by omega)
 have xm : (mg != mg) = false := by simp
 have hls2 := hls
 clear h hr hn hcs hl0 hl4 hLL hkx hmg hmn
 go_enter Tryz.func3, Tryz.ntmps3
 go_upto_region 1 with fail
 rw [← HW.out]
 go_upto_region 5 with (go_at_call 4; refine (szEng_any x A0 c0 A1 c1 A2 c2 A3 c3 A4 c4 1048576 (by omega) (by omega) WF.out _ HA0.out HA1.out HA2.out HA3.out HA4.out).mono ?_; rintro e w2 ⟨rfl, hb2⟩; rw [HI.out]; have HB2 := Aside0.mk hb2; clear hb2)
 clear d p0 p1 p2 p3 p4
 have p0 := (blk_cell (blk_below BA.out HB2.out) 0).trans rfl
 have p1 := (blk_cell (blk_below BA.out HB2.out) 1).trans rfl
 have p2 := (blk_cell (blk_below BA.out HB2.out) 2).trans rfl
 have p3 := (blk_cell (blk_below BA.out HB2.out) 3).trans rfl
 have p4 := (blk_cell (blk_below BA.out HB2.out) 4).trans rfl
 go_upto_region 6 with (first
  | (go_at_call 5; refine (sSum_any x P0 pp0 P1 pp1 P2 pp2 P3 pp3 P4 pp4 HL0.out WF.out HCC.out HL4.out _ HP0.out HP1.out HP2.out HP3.out HP4.out).mono ?_; rintro e w4 ⟨v, rfl, hs, hb⟩; rw [← HO.out] at hs; obtain ⟨A4_, c4_, rfl⟩ := Kd.S_slice hs; have HV := Aside0.mk (isR hs); have HB4 := Aside0.mk (below_trans9 HB3.out hb); clear hs hb)
  | (go_at_call 6; refine (toEng_any x A0 c0 A1 c1 A2 c2 A3 c3 A4 c4 _ HCS.out (HA0.out.below HB2.out) (HA1.out.below HB2.out) (HA2.out.below HB2.out) (HA3.out.below HB2.out) (HA4.out.below HB2.out)).mono ?_; rintro e w3 ⟨v0, v1, v2, v3, v4, o0, o1, o2, o3, o4, rfl, s0, s1, s2, s3, s4, hap, hb⟩; obtain ⟨P0, pp0, rfl⟩ := Kd.S_slice s0; obtain ⟨P1, pp1, rfl⟩ := Kd.S_slice s1; obtain ⟨P2, pp2, rfl⟩ := Kd.S_slice s2; obtain ⟨P3, pp3, rfl⟩ := Kd.S_slice s3; obtain ⟨P4, pp4, rfl⟩ := Kd.S_slice s4; have HP0 := Aside0.mk (isR s0); have HP1 := Aside0.mk (isR s1); have HP2 := Aside0.mk (isR s2); have HP3 := Aside0.mk (isR s3); have HP4 := Aside0.mk (isR s4); have HB3 := Aside0.mk (below_trans9 HB2.out hb); clear s0 s1 s2 s3 s4 hap hb))
 clear p0 p1 p2 p3 p4
 clear HP0 HP1 HP2 HP3 HP4 HB3
 have p0 := (blk_cell (blk_below BA.out HB4.out) 0).trans rfl
 have p1 := (blk_cell (blk_below BA.out HB4.out) 1).trans rfl
 have p2 := (blk_cell (blk_below BA.out HB4.out) 2).trans rfl
 have p3 := (blk_cell (blk_below BA.out HB4.out) 3).trans rfl
 have p4 := (blk_cell (blk_below BA.out HB4.out) 4).trans rfl
 go_upto_region 7 with (go_at_call 6; refine (toEng_any x A0 c0 A1 c1 A2 c2 A3 c3 A4 c4 _ HCS.out (HA0.out.below HB4.out) (HA1.out.below HB4.out) (HA2.out.below HB4.out) (HA3.out.below HB4.out) (HA4.out.below HB4.out)).mono ?_; rintro e w6 ⟨v0, v1, v2, v3, v4, o0, o1, o2, o3, o4, rfl, s0, s1, s2, s3, s4, hap, hb⟩; obtain ⟨G0, g0, rfl⟩ := Kd.S_slice s0; obtain ⟨G1, g1, rfl⟩ := Kd.S_slice s1; obtain ⟨G2, g2, rfl⟩ := Kd.S_slice s2; obtain ⟨G3, g3, rfl⟩ := Kd.S_slice s3; obtain ⟨G4, g4, rfl⟩ := Kd.S_slice s4; have HG0 := Aside0.mk (isR s0); have HG1 := Aside0.mk (isR s1); have HG2 := Aside0.mk (isR s2); have HG3 := Aside0.mk (isR s3); have HG4 := Aside0.mk (isR s4); have HB6 := Aside0.mk hb; have HS0 := Aside0.mk s0; have HS1 := Aside0.mk s1; have HS2 := Aside0.mk s2; have HS3 := Aside0.mk s3; have HS4 := Aside0.mk s4; have HAP := Aside0.mk hap; clear s0 s1 s2 s3 s4 hap hb)
 clear p0 p1 p2 p3 p4
 have hba := below_alloc (Below.refl w6.heap.size w6) (.cells #[.slice G0 x.f0.length g0, .slice G1 x.f1.length g1, .slice G2 x.f2.length g2, .slice G3 x.f3.length g3, .slice G4 x.f4.length g4] 36)
 have b6 := blk_new w6 (.cells #[.slice G0 x.f0.length g0, .slice G1 x.f1.length g1, .slice G2 x.f2.length g2, .slice G3 x.f3.length g3, .slice G4 x.f4.length g4] 36)
 have hs6 : (w6.alloc (.cells #[.slice G0 x.f0.length g0, .slice G1 x.f1.length g1, .slice G2 x.f2.length g2, .slice G3 x.f3.length g3, .slice G4 x.f4.length g4] 36)).heap.size = w6.heap.size + 1 := by simp
 replace HG0 := Aside0.mk (HG0.out.below hba)
 replace HS0 := Aside0.mk (Kd.S_below HS0.out hba)
 replace HG1 := Aside0.mk (HG1.out.below hba)
 replace HS1 := Aside0.mk (Kd.S_below HS1.out hba)
 replace HG2 := Aside0.mk (HG2.out.below hba)
 replace HS2 := Aside0.mk (Kd.S_below HS2.out hba)
 replace HG3 := Aside0.mk (HG3.out.below hba)
 replace HS3 := Aside0.mk (Kd.S_below HS3.out hba)
 replace HG4 := Aside0.mk (HG4.out.below hba)
 replace HS4 := Aside0.mk (Kd.S_below HS4.out hba)
 have HB7 := Aside0.mk (below_trans9 HB6.out hba)
 have HI6 := Aside0.mk HB6.out.size
 obtain ⟨N6, hN6⟩ : ∃ N, N = w6.heap.size := ⟨_, rfl⟩
 rw [← hN6] at b6 hs6 HAP HI6 ⊢
 generalize w6.alloc (.cells #[.slice G0 x.f0.length g0, .slice G1 x.f1.length g1, .slice G2 x.f2.length g2, .slice G3 x.f3.length g3, .slice G4 x.f4.length g4] 36) = W7 at hba b6 hs6 HB7 HG0 HS0 HG1 HS1 HG2 HS2 HG3 HS3 HG4 HS4 ⊢
 have B6 := Aside0.mk b6
 have HS6 := Aside0.mk hs6
 clear hba b6 hs6 hN6 HB6
 have p0 := (blk_cell B6.out 0).trans rfl
 have p1 := (blk_cell B6.out 1).trans rfl
 have p2 := (blk_cell B6.out 2).trans rfl
 have p3 := (blk_cell B6.out 3).trans rfl
 have p4 := (blk_cell B6.out 4).trans rfl
 go_upto_region 8 with (go_at_call 7; refine (iSum_any x G0 g0 G1 g1 G2 g2 G3 g3 G4 g4 HL0.out WF.out HCC.out HL4.out _ HG0.out HG1.out HG2.out HG3.out HG4.out).mono ?_; rintro e W8 ⟨v7, rfl, hs, hb⟩; rw [← HO.out] at hs; obtain ⟨A7, c7, rfl⟩ := Kd.S_slice hs; have HM := Aside0.mk (show LawMem w4 W8 W7.heap.size (.slice A7 L.length c7) L from ⟨below_trans9 HB7.out hb, hs, HB7.out.size⟩); have HB8 := Aside0.mk hb; clear hs hb)
 clear p0 p1 p2 p3 p4
 clear HG0 HG1 HG2 HG3 HG4
 go_upto_region 10 with (go_at_call 8; refine (eqIntS_any A7 A4_ c7 c4_ L _ (isR HM.out.g0) (HV.out.below HM.out.h5)).mono ?_; rintro e w9 ⟨rfl, hb⟩; have HM9 := Aside0.mk (HM.out.below hb); have HB9 := Aside0.mk (below_trans9 HB8.out hb); clear hb)
 clear HM HB8
 have F10 : Aside0 (∀ w', Below w9.heap.size w9 w' → (fun w' => (w'.cell? ⟨N6, 0, none⟩ = some (.slice G0 x.f0.length g0) ∧ w'.cell? ⟨N6, 1, none⟩ = some (.slice G1 x.f1.length g1) ∧ w'.cell? ⟨N6, 2, none⟩ = some (.slice G2 x.f2.length g2) ∧ w'.cell? ⟨N6, 3, none⟩ = some (.slice G3 x.f3.length g3) ∧ w'.cell? ⟨N6, 4, none⟩ = some (.slice G4 x.f4.length g4)) ∧ (w'.cell? ⟨w.heap.size, 0, none⟩ = some (.slice A0 x.f0.length c0) ∧ w'.cell? ⟨w.heap.size, 1, none⟩ = some (.slice A1 x.f1.length c1) ∧ w'.cell? ⟨w.heap.size, 2, none⟩ = some (.slice A2 x.f2.length c2) ∧ w'.cell? ⟨w.heap.size, 3, none⟩ = some (.slice A3 x.f3.length c3) ∧ w'.cell? ⟨w.heap.size, 4, none⟩ = some (.slice A4 x.f4.length c4))) w') := ⟨fun w' h =>
  have h6 := blk_below (blk_below B6.out HB9.out) h
  have hA := blk_below (blk_below (blk_below BA.out HB4.out) HM9.out.h5) h
  ⟨⟨(blk_cell h6 0).trans rfl, (blk_cell h6 1).trans rfl, (blk_cell h6 2).trans rfl, (blk_cell h6 3).trans rfl, (blk_cell h6 4).trans rfl⟩, ⟨(blk_cell hA 0).trans rfl, (blk_cell hA 1).trans rfl, (blk_cell hA 2).trans rfl, (blk_cell hA 3).trans rfl, (blk_cell hA 4).trans rfl⟩⟩⟩
 have HD9 : Below w9.heap.size w9 w9.drew := below_drew (Below.refl _ _)
 refine Za.regionL (fun w' => (w'.cell? ⟨N6, 0, none⟩ = some (.slice G0 x.f0.length g0) ∧ w'.cell? ⟨N6, 1, none⟩ = some (.slice G1 x.f1.length g1) ∧ w'.cell? ⟨N6, 2, none⟩ = some (.slice G2 x.f2.length g2) ∧ w'.cell? ⟨N6, 3, none⟩ = some (.slice G3 x.f3.length g3) ∧ w'.cell? ⟨N6, 4, none⟩ = some (.slice G4 x.f4.length g4)) ∧ (w'.cell? ⟨w.heap.size, 0, none⟩ = some (.slice A0 x.f0.length c0) ∧ w'.cell? ⟨w.heap.size, 1, none⟩ = some (.slice A1 x.f1.length c1) ∧ w'.cell? ⟨w.heap.size, 2, none⟩ = some (.slice A2 x.f2.length c2) ∧ w'.cell? ⟨w.heap.size, 3, none⟩ = some (.slice A3 x.f3.length c3) ∧ w'.cell? ⟨w.heap.size, 4, none⟩ = some (.slice A4 x.f4.length c4))) [] (by kernel_rfl) ?_
 have HS : (fun w' => (w'.cell? ⟨N6, 0, none⟩ = some (.slice G0 x.f0.length g0) ∧ w'.cell? ⟨N6, 1, none⟩ = some (.slice G1 x.f1.length g1) ∧ w'.cell? ⟨N6, 2, none⟩ = some (.slice G2 x.f2.length g2) ∧ w'.cell? ⟨N6, 3, none⟩ = some (.slice G3 x.f3.length g3) ∧ w'.cell? ⟨N6, 4, none⟩ = some (.slice G4 x.f4.length g4)) ∧ (w'.cell? ⟨w.heap.size, 0, none⟩ = some (.slice A0 x.f0.length c0) ∧ w'.cell? ⟨w.heap.size, 1, none⟩ = some (.slice A1 x.f1.length c1) ∧ w'.cell? ⟨w.heap.size, 2, none⟩ = some (.slice A2 x.f2.length c2) ∧ w'.cell? ⟨w.heap.size, 3, none⟩ = some (.slice A3 x.f3.length c3) ∧ w'.cell? ⟨w.heap.size, 4, none⟩ = some (.slice A4 x.f4.length c4))) w9.drew := F10.out _ HD9
 refine Za.takeL 0 (v := ?va0) rfl (by kernel_rfl) (by kernel_rfl) (by kernel_rfl) (by kernel_rfl) (fun _ _ _ h => h) (Or.inl ⟨by rfl, ?hya0⟩) HS ?resta0
 case hya0 => (intro w hSw; (try dsimp only at hSw); go_simp; try with_reducible rfl)
 (try simp only [Act.put, List.setIfInBounds_toArray, List.set_cons_zero, List.set_cons_succ])
 refine Za.takeL 1 (v := ?va1) rfl (by kernel_rfl) (by kernel_rfl) (by kernel_rfl) (by kernel_rfl) (fun _ _ _ h => h) (Or.inl ⟨by rfl, ?hya1⟩) HS ?resta1
 case hya1 => (intro w hSw; (try dsimp only at hSw); go_simp; try with_reducible rfl)
 (try simp only [Act.put, List.setIfInBounds_toArray, List.set_cons_zero, List.set_cons_succ])
 clear HS
 refine Za.nextL 2 (by kernel_rfl) rfl (fun K' hK => ?_)
 go_simp
 (go_at_call 6; refine (toEng_any x A0 c0 A1 c1 A2 c2 A3 c3 A4 c4 _ HCS.out (HA0.out.below (below_trans9 (below_trans9 HB4.out HM9.out.h5) HD9)) (HA1.out.below (below_trans9 (below_trans9 HB4.out HM9.out.h5) HD9)) (HA2.out.below (below_trans9 (below_trans9 HB4.out HM9.out.h5) HD9)) (HA3.out.below (below_trans9 (below_trans9 HB4.out HM9.out.h5) HD9)) (HA4.out.below (below_trans9 (below_trans9 HB4.out HM9.out.h5) HD9))).mono ?_; rintro e w10 ⟨v0, v1, v2, v3, v4, o0, o1, o2, o3, o4, rfl, s0, s1, s2, s3, s4, hap, hb⟩; obtain ⟨J0, j0, rfl⟩ := Kd.S_slice s0; obtain ⟨J1, j1, rfl⟩ := Kd.S_slice s1; obtain ⟨J2, j2, rfl⟩ := Kd.S_slice s2; obtain ⟨J3, j3, rfl⟩ := Kd.S_slice s3; obtain ⟨J4, j4, rfl⟩ := Kd.S_slice s4; have HJ0 := Aside0.mk (isR s0); have HJ1 := Aside0.mk (isR s1); have HJ2 := Aside0.mk (isR s2); have HJ3 := Aside0.mk (isR s3); have HJ4 := Aside0.mk (isR s4); have HB10 : Below w9.heap.size w9 w10 := keepD hb; clear s0 s1 s2 s3 s4 hap hb)
 go_wp2_with fail
 refine hK.out _ _ ⟨fun _ => F10.out _ HB10, ?_⟩
 clear hK K'
 (try simp only [Act.put, List.setIfInBounds_toArray, List.set_cons_zero, List.set_cons_succ])
 refine Za.nextL 3 (by kernel_rfl) rfl (fun K' hK => ?_)
 go_simp
 (go_at_call 9; refine (eqEng_any x G0 g0 G1 g1 G2 g2 G3 g3 G4 g4 J0 j0 J1 j1 J2 j2 J3 j3 J4 j4 _ ((isR (Kd.S_below HS0.out HB9.out)).below HB10) ((isR (Kd.S_below HS1.out HB9.out)).below HB10) ((isR (Kd.S_below HS2.out HB9.out)).below HB10) ((isR (Kd.S_below HS3.out HB9.out)).below HB10) ((isR (Kd.S_below HS4.out HB9.out)).below HB10) HJ0.out HJ1.out HJ2.out HJ3.out HJ4.out).mono ?_; rintro e w11 ⟨rfl, hb11⟩; have HB11 : Below w9.heap.size w9 w11 := below_then HB10 HB10.size hb11; clear hb11)
 go_wp2_with fail
 refine hK.out _ _ ⟨fun _ => F10.out _ HB11, ?_⟩
 clear hK K'
 (try simp only [Act.put, List.setIfInBounds_toArray, List.set_cons_zero, List.set_cons_succ])
 have HS : (fun w' => (w'.cell? ⟨N6, 0, none⟩ = some (.slice G0 x.f0.length g0) ∧ w'.cell? ⟨N6, 1, none⟩ = some (.slice G1 x.f1.length g1) ∧ w'.cell? ⟨N6, 2, none⟩ = some (.slice G2 x.f2.length g2) ∧ w'.cell? ⟨N6, 3, none⟩ = some (.slice G3 x.f3.length g3) ∧ w'.cell? ⟨N6, 4, none⟩ = some (.slice G4 x.f4.length g4)) ∧ (w'.cell? ⟨w.heap.size, 0, none⟩ = some (.slice A0 x.f0.length c0) ∧ w'.cell? ⟨w.heap.size, 1, none⟩ = some (.slice A1 x.f1.length c1) ∧ w'.cell? ⟨w.heap.size, 2, none⟩ = some (.slice A2 x.f2.length c2) ∧ w'.cell? ⟨w.heap.size, 3, none⟩ = some (.slice A3 x.f3.length c3) ∧ w'.cell? ⟨w.heap.size, 4, none⟩ = some (.slice A4 x.f4.length c4))) w11 := F10.out _ HB11
 refine Za.takeL 4 (v := ?va4) rfl (by kernel_rfl) (by kernel_rfl) (by kernel_rfl) (by kernel_rfl) (fun _ _ _ h => h) (Or.inl ⟨by rfl, ?hya4⟩) HS ?resta4
 case hya4 => (intro w hSw; (try dsimp only at hSw); go_simp; try with_reducible rfl)
 (try simp only [Act.put, List.setIfInBounds_toArray, List.set_cons_zero, List.set_cons_succ])
 refine Za.Walk.done (by kernel_rfl) ?_
 clear HS
 have HM11 := Aside0.mk (HM9.out.below HB11)
 have HB11' := Aside0.mk (below_trans9 HB9.out HB11)
 replace HS0 := Aside0.mk (Kd.S_below HS0.out HB11'.out)
 replace HS1 := Aside0.mk (Kd.S_below HS1.out HB11'.out)
 replace HS2 := Aside0.mk (Kd.S_below HS2.out HB11'.out)
 replace HS3 := Aside0.mk (Kd.S_below HS3.out HB11'.out)
 replace HS4 := Aside0.mk (Kd.S_below HS4.out HB11'.out)
 have B11 := Aside0.mk (blk_below B6.out HB11'.out)
 clear HM9 HB9 HB11 HB10 HD9 F10 HJ0 HJ1 HJ2 HJ3 HJ4
 have p0 := (blk_cell B11.out 0).trans rfl
 have p1 := (blk_cell B11.out 1).trans rfl
 have p2 := (blk_cell B11.out 2).trans rfl
 have p3 := (blk_cell B11.out 3).trans rfl
 have p4 := (blk_cell B11.out 4).trans rfl
 go_upto_region 14 with (go_at_call 10; refine (markEng_any x w4.heap.size (fun j => w4.heap.size ≤ j ∧ j < N6) (.slice G0 x.f0.length g0) (.slice G1 x.f1.length g1) (.slice G2 x.f2.length g2) (.slice G3 x.f3.length g3) (.slice G4 x.f4.length g4) _ _ _ _ _ 1 _ (by omega) (by have := HME.out; omega) HM11.out.h5.size HS0.out HS1.out HS2.out HS3.out HS4.out HAP.out).mono ?_; rintro e w12 ⟨rfl, -, -, -, -, -, hf⟩; rw [← HKX.out]; have HM12 := Aside0.mk (HM11.out.markX hf (Nat.le_refl _) (by have := HS6.out; omega)); clear hf)
 clear p0 p1 p2 p3 p4
 clear HM11
 go_upto_region 16 with (go_at_call 8; refine (eqIntS_any A7 A4_ c7 c4_ L _ (isR HM12.out.g0) (HV.out.below HM12.out.h5)).mono ?_; rintro e w13 ⟨rfl, hb⟩; have HM13 := Aside0.mk (HM12.out.below hb); clear hb)
 clear HM12
 go_upto_region 18 with (go_at_call 11; refine (markIntS_any W7.heap.size (fun _ => True) (.slice A7 L.length c7) L 1 _ (by omega) (by omega) (Kd.S_R HM13.out.g0)).mono ?_; rintro e w14 ⟨rfl, hs, hf⟩; rw [← HMG.out]; have HM14 := Aside0.mk (HM13.out.markG hf (S_ints hs)); clear hs hf)
 clear HM13
 go_upto_region 24 with (go_at_call 12; refine (heldIntS_any A7 c7 L.length 1 _ (by omega) (by omega) (isR HM14.out.g0)).mono ?_; rintro e w15 ⟨rfl, hw⟩; have hw' := hw.symm; subst hw'; rw [← HMG.out])
 have p0 := (blk_cell (blk_below (blk_below BA.out HB4.out) HM14.out.h5) 0).trans rfl
 have p1 := (blk_cell (blk_below (blk_below BA.out HB4.out) HM14.out.h5) 1).trans rfl
 have p2 := (blk_cell (blk_below (blk_below BA.out HB4.out) HM14.out.h5) 2).trans rfl
 have p3 := (blk_cell (blk_below (blk_below BA.out HB4.out) HM14.out.h5) 3).trans rfl
 have p4 := (blk_cell (blk_below (blk_below BA.out HB4.out) HM14.out.h5) 4).trans rfl
 go_upto_region 25 with (first
  | (go_at_call 7; refine (iSum_any x Q0 q0 Q1 q1 Q2 q2 Q3 q3 Q4 q4 HL0.out WF.out HCC.out HL4.out _ HQ0.out HQ1.out HQ2.out HQ3.out HQ4.out).mono ?_; rintro e w17 ⟨v, rfl, hs, hb⟩; rw [← HO.out] at hs; obtain ⟨A17, c17, rfl⟩ := Kd.S_slice hs; have HE17 := Aside0.mk (isR hs); have HM17 := Aside0.mk (HM16.out.below hb); clear hs hb)
  | (go_at_call 6; refine (toEng_any x A0 c0 A1 c1 A2 c2 A3 c3 A4 c4 _ HCS.out (HA0.out.below (below_trans9 HB4.out HM14.out.h5)) (HA1.out.below (below_trans9 HB4.out HM14.out.h5)) (HA2.out.below (below_trans9 HB4.out HM14.out.h5)) (HA3.out.below (below_trans9 HB4.out HM14.out.h5)) (HA4.out.below (below_trans9 HB4.out HM14.out.h5))).mono ?_; rintro e w16 ⟨v0, v1, v2, v3, v4, o0, o1, o2, o3, o4, rfl, s0, s1, s2, s3, s4, hap, hb⟩; obtain ⟨Q0, q0, rfl⟩ := Kd.S_slice s0; obtain ⟨Q1, q1, rfl⟩ := Kd.S_slice s1; obtain ⟨Q2, q2, rfl⟩ := Kd.S_slice s2; obtain ⟨Q3, q3, rfl⟩ := Kd.S_slice s3; obtain ⟨Q4, q4, rfl⟩ := Kd.S_slice s4; have HQ0 := Aside0.mk (isR s0); have HQ1 := Aside0.mk (isR s1); have HQ2 := Aside0.mk (isR s2); have HQ3 := Aside0.mk (isR s3); have HQ4 := Aside0.mk (isR s4); have HM16 := Aside0.mk (HM14.out.below hb); clear s0 s1 s2 s3 s4 hap hb))
 clear p0 p1 p2 p3 p4
 clear HM14 HM16 HQ0 HQ1 HQ2 HQ3 HQ4
 go_upto_region 27 with (go_at_call 8; refine (eqIntS_any A17 A4_ c17 c4_ L _ HE17.out (HV.out.below HM17.out.h5)).mono ?_; rintro e w18 ⟨rfl, hb⟩; have HM18 := Aside0.mk (HM17.out.below hb); clear hb)
 clear HM17
 go_wp2_with (go_at_call 12; refine (heldIntS_any A7 c7 L.length 1 _ (by omega) (by omega) (isR HM18.out.g0)).mono ?_; rintro e w19 ⟨rfl, hw⟩; have hw' := hw.symm; subst hw'; rw [← HMG.out])
 go_ret
 exact ⟨rfl, below_trans9 (below_trans9 HX.out HB4.out) HM18.out.h5⟩
end Go.Proofs.YtckblabkapeigaaGreat.Lq9
