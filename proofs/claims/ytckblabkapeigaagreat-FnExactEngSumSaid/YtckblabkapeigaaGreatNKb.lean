
/- Sizes of the program's struct types: the laws' own functions. Printed by genTy.py. -/
import Derived.Test.YtckblabkapeigaaGreatNKa
import Derived.Test.YtckblabkapeigaaGreatNJc
set_option linter.unusedVariables false
set_option linter.unusedSimpArgs false
namespace Go.Proofs.YtckblabkapeigaaGreat.Kb
open Go.RowKit Go.Proofs.YtckblabkapeigaaGreatW.PrintWords Go.Proofs.YtckblabkapeigaaGreat.Ja Go.Proofs.YtckblabkapeigaaGreat.Jb Go.Proofs.YtckblabkapeigaaGreat.Jc Go.Proofs.YtckblabkapeigaaGreat.Ka
def cS {α : Type} (c : α → Nat) (l : List α) : Nat := l.length + (l.map c).sum
theorem sum_snoc {α : Type} (c : α → Nat) (z : α) (l : List α) (k : Nat) (h : k < l.length) : ((l.take (k + 1)).map c).sum = ((l.take k).map c).sum + c (l.getD k z) := by
 rw [take_snoc l k z h, List.map_append, List.sum_append]; simp
theorem sum_le {α : Type} (c : α → Nat) (l : List α) (k : Nat) : ((l.take k).map c).sum ≤ (l.map c).sum := by
 have h : (l.map c).sum = ((l.take k).map c).sum + ((l.drop k).map c).sum := by rw [← List.sum_append, ← List.map_append, List.take_append_drop]
 omega
theorem get_mem {α : Type} {l : List α} {i : Nat} {z : α} (h : i < l.length) : l.getD i z ∈ l := by
 rw [List.getD_eq_getElem?_getD, List.getElem?_eq_getElem h]
 exact List.getElem_mem h
set_option maxRecDepth 100000 in
theorem szIntS_any (A : Option Addr) (c : Nat) (l : List Int) (left : Int) (h0 : 0 ≤ left) (h1 : left ≤ 1048576) (w : World) (hL : IsS (Kd.int .i64) w l A c) :
  Calls Tryz.prog 16 #[.slice A l.length c, .int .i64 left] w fun e w' => e = .returned (.int .i64 (szI left l.length)) ∧ Below w.heap.size w w' := by
 have hn := hL.len
 by_cases h : left - l.length < 0
 ·have d : decide (left - l.length < 0) = true := decide_eq_true h
  have HI := Aside0.mk (show szI left l.length = -1 from if_pos h)
  clear h
  go_enter Tryz.func16, Tryz.ntmps16
  go_wp2
  go_ret
  exact ⟨by (rw [HI.out]; try rfl), Below.refl _ _⟩
 ·have d : decide (left - l.length < 0) = false := decide_eq_false h
  have HI := Aside0.mk (show szI left l.length = left - l.length from if_neg h)
  have h2 : left - l.length ≥ 0 := by omega
  clear h
  go_enter Tryz.func16, Tryz.ntmps16
  go_wp2
  go_ret
  exact ⟨by (rw [HI.out]; try rfl), Below.refl _ _⟩
set_option maxRecDepth 100000 in
theorem szEvS_any (A : Option Addr) (c : Nat) (l : List TEv) (left : Int) (h0 : 0 ≤ left) (h1 : left ≤ 1048576) (w : World) (hL : IsS kEv w l A c) :
  Calls Tryz.prog 15 #[.slice A l.length c, .int .i64 left] w fun e w' => e = .returned (.int .i64 (szI left l.length)) ∧ Below w.heap.size w w' := by
 have hn := hL.len
 by_cases h : left - l.length < 0
 ·have d : decide (left - l.length < 0) = true := decide_eq_true h
  have HI := Aside0.mk (show szI left l.length = -1 from if_pos h)
  clear h
  go_enter Tryz.func15, Tryz.ntmps15
  go_wp2
  go_ret
  exact ⟨by (rw [HI.out]; try rfl), Below.refl _ _⟩
 ·have d : decide (left - l.length < 0) = false := decide_eq_false h
  have HI := Aside0.mk (show szI left l.length = left - l.length from if_neg h)
  have h2 : left - l.length ≥ 0 := by omega
  clear h
  go_enter Tryz.func15, Tryz.ntmps15
  go_wp2
  go_ret
  exact ⟨by (rw [HI.out]; try rfl), Below.refl _ _⟩
def cOcc (x : TOcc) : Nat := x.f2.length
set_option maxHeartbeats 2000000 in
set_option maxRecDepth 100000 in
theorem szOcc_any (x : TOcc) (A2 : Option Addr) (c2 : Nat) (left : Int) (h0 : 0 ≤ left) (h1 : left ≤ 1048576) (w : World) (hL2 : IsS (Kd.int .i64) w x.f2 A2 c2) :
  Calls Tryz.prog 68 #[.agg #[.int .i64 x.f0, .int .i64 x.f1, .slice A2 x.f2.length c2], .int .i64 left] w fun e w' => e = .returned (.int .i64 (szI left (cOcc x))) ∧ Below w.heap.size w w' := by
 have hb0 := below_alloc (Below.refl w.heap.size w) (.cells #[.int .i64 x.f0, .int .i64 x.f1, .slice A2 x.f2.length c2] 81)
 have bX := blk_new w (.cells #[.int .i64 x.f0, .int .i64 x.f1, .slice A2 x.f2.length c2] 81)
 generalize hW : w.alloc (.cells #[.int .i64 x.f0, .int .i64 x.f1, .slice A2 x.f2.length c2] 81) = W at hb0 bX
 have HW := Aside0.mk hW
 have HL2 := Aside0.mk (hL2.below hb0)
 have hn2 := hL2.len
 have HB0 := Aside0.mk hb0
 have p0 := (blk_cell bX 0).trans rfl
 have p1 := (blk_cell bX 1).trans rfl
 have p2 := (blk_cell bX 2).trans rfl
 clear hW hb0 hL2
 obtain ⟨n1, hn_1⟩ : ∃ n : Nat, n = x.f2.length := ⟨_, rfl⟩
 have HN1 := Aside0.mk hn_1
 have hc : cOcc x = n1 := by unfold cOcc; rw [hn_1]
 have HC0 : Aside0 (Below W.heap.size W W) := ⟨Below.refl _ _⟩
 by_cases h1 : left - (n1 : Int) < 0
 ·have HS1 := Aside0.mk (show szI left n1 = -1 from if_pos h1)
  have HI := Aside0.mk (show szI left (cOcc x) = -1 from if_pos (by rw [hc]; omega))
  have b1 : 0 ≤ left := by omega
  have b1' : left ≤ 1048576 := by omega
  clear h1 hc hn_1
  go_enter Tryz.func68, Tryz.ntmps68
  go_upto_region 1 with fail
  rw [HW.out]
  go_wp2_with (go_at_call 16; refine (szIntS_any A2 c2 x.f2 left (by omega) (by omega) _ (HL2.out.below HC0.out)).mono ?_; rintro e w1 ⟨rfl, hb1⟩; rw [← HN1.out, HS1.out]; have p1_0 := pw_cell_below hb1 p0; have p1_1 := pw_cell_below hb1 p1; have p1_2 := pw_cell_below hb1 p2; have HC1 := Aside0.mk (below_then HC0.out HC0.out.size hb1); clear hb1)
  go_ret
  exact ⟨by (rw [HI.out]; try rfl), below_then HB0.out HB0.out.size HC1.out⟩
 obtain ⟨r1, hr1⟩ : ∃ r : Int, r = left - (n1 : Int) := ⟨_, rfl⟩
 have HS1 := Aside0.mk (show szI left n1 = r1 from (if_neg h1).trans hr1.symm)
 have d1 : decide (r1 < 0) = false := decide_eq_false (by omega)
 have b1 : 0 ≤ r1 := by omega
 have b1' : r1 ≤ 1048576 := by omega
 clear h1
 have HI := Aside0.mk (show szI left (cOcc x) = r1 from (if_neg (by rw [hc]; omega)).trans (by rw [hc]; omega))
 clear hc hn_1 hr1
 go_enter Tryz.func68, Tryz.ntmps68
 go_upto_region 1 with fail
 rw [HW.out]
 go_wp2_with (go_at_call 16; refine (szIntS_any A2 c2 x.f2 left (by omega) (by omega) _ (HL2.out.below HC0.out)).mono ?_; rintro e w1 ⟨rfl, hb1⟩; rw [← HN1.out, HS1.out]; have p1_0 := pw_cell_below hb1 p0; have p1_1 := pw_cell_below hb1 p1; have p1_2 := pw_cell_below hb1 p2; have HC1 := Aside0.mk (below_then HC0.out HC0.out.size hb1); clear hb1)
 go_ret
 exact ⟨by (rw [HI.out]; try rfl), below_then HB0.out HB0.out.size HC1.out⟩
set_option maxHeartbeats 2000000 in
set_option maxRecDepth 100000 in
theorem szOccS_any (A : Option Addr) (c : Nat) (l : List TOcc) (left : Int) (h0 : 0 ≤ left) (h1 : left ≤ 1048576) (w : World) (hL : IsS kOcc w l A c) :
  Calls Tryz.prog 116 #[.slice A l.length c, .int .i64 left] w fun e w' => e = .returned (.int .i64 (szI left (cS cOcc l))) ∧ Below w.heap.size w w' := by
 have hn := hL.len
 have HL := Aside0.mk hL
 have hct : cS cOcc l = l.length + (l.map cOcc).sum := rfl
 clear hL
 by_cases h : left - l.length < 0
 ·have d : decide (left - l.length < 0) = true := decide_eq_true h
  have HI := Aside0.mk (show szI left (cS cOcc l) = -1 from if_pos (by omega))
  clear h hct
  go_enter Tryz.func116, Tryz.ntmps116
  go_wp2
  go_ret
  exact ⟨by (rw [HI.out]; try rfl), Below.refl _ _⟩
 ·have d : decide (left - l.length < 0) = false := decide_eq_false h
  have h2 : left - l.length ≥ 0 := by omega
  have hll : (l.length : Int) ≤ left := by omega
  have HCT := Aside0.mk hct
  clear h hct
  go_enter Tryz.func116, Tryz.ntmps116
  go_wp2
  go_loopw [1, 5] (fun v1 vi wr => ∃ (k : Nat) (cur : Int), k ≤ l.length ∧ vi = .int .i64 k ∧ v1 = .int .i64 cur ∧ 0 ≤ cur ∧ cur ≤ left ∧ Aside0 (cur + l.length + ((l.take k).map cOcc).sum = left) ∧ Aside0 (Below w.heap.size w wr)) (fun _ vi _ => l.length - (intOf vi).toNat)
  case atStart => exact ⟨0, _, Nat.zero_le _, rfl, rfl, h2, by omega, ⟨by simp⟩, ⟨Below.refl _ _⟩⟩
  case round =>
   clear d h2
   obtain ⟨k, cur, hk, rfl, rfl, hc0, hc1, HC, HB⟩ := hrel
   by_cases hlt : k < l.length
   ·have g1 : decide (k < l.length) = true := decide_eq_true hlt
    have i1 : (k : Int) < l.length := by omega
    obtain ⟨ad, B2, e2, rfl, q0, q1, q2, j2⟩ := atOcc (HL.out.below HB.out) k hlt
    have hcs := sum_snoc cOcc zOcc l k hlt
    have hcr := sum_le cOcc l (k + 1)
    have hcall := szOcc_any (l.getD k zOcc) B2 e2 cur hc0 (by omega) wr j2
    have hct := HCT.out
    have hc := HC.out
    clear j2
    generalize l.getD k zOcc = o at q0 q1 q2 hcs hcall
    by_cases hs : cur - cOcc o < 0
    ·have HI : Aside0 (szI left (cS cOcc l) = -1) := ⟨if_pos (by omega)⟩
     rw [show szI cur (cOcc o) = -1 from if_pos hs] at hcall
     have HK := Aside0.mk hcall
     clear hs hcs hcr hcall hc HC hct
     go_wp2_with (go_at_call 68; refine HK.out.mono ?_; rintro e w2 ⟨rfl, hb2⟩; have HB2 := Aside0.mk (below_then HB.out HB.out.size hb2); clear hb2)
     go_ret
     exact ⟨by (rw [HI.out]; try rfl), HB2.out⟩
    ·obtain ⟨r, hr⟩ : ∃ r : Int, r = cur - cOcc o := ⟨_, rfl⟩
     rw [show szI cur (cOcc o) = r from (if_neg hs).trans hr.symm] at hcall
     have HK := Aside0.mk hcall
     have d : decide (r < 0) = false := decide_eq_false (by omega)
     have hr0 : 0 ≤ r := by omega
     have hr1 : r ≤ left := by omega
     have HC2 : Aside0 (r + l.length + ((l.take (k + 1)).map cOcc).sum = left) := ⟨by omega⟩
     clear hs hr hcs hcr hcall hc HC hct
     go_wp2_with (go_at_call 68; refine HK.out.mono ?_; rintro e w2 ⟨rfl, hb2⟩; have HB2 := Aside0.mk (below_then HB.out HB.out.size hb2); clear hb2)
     go_roundw
     case rel => exact ⟨k + 1, r, by omega, by go_num, rfl, hr0, hr1, HC2, HB2⟩
     case measure => simp [intOf]; omega
   ·have hke : k = l.length := by omega
    subst hke
    have g1 : decide (l.length < l.length) = false := decide_eq_false (by omega)
    have hx := HC.out
    have hct := HCT.out
    rw [List.take_length] at hx
    have HI : Aside0 (szI left (cS cOcc l) = cur) := ⟨by unfold szI; rw [if_neg (by omega)]; omega⟩
    clear hx HC hct
    go_wp2
    go_ret
    exact ⟨by (rw [HI.out]; try rfl), HB.out⟩
def cPair (x : TPair) : Nat := cS cOcc x.f0 + cS cOcc x.f1
set_option maxHeartbeats 2000000 in
set_option maxRecDepth 100000 in
theorem szPair_any (x : TPair) (A0 : Option Addr) (c0 : Nat) (A1 : Option Addr) (c1 : Nat) (left : Int) (h0 : 0 ≤ left) (h1 : left ≤ 1048576) (w : World) (hL0 : IsS kOcc w x.f0 A0 c0) (hL1 : IsS kOcc w x.f1 A1 c1) :
  Calls Tryz.prog 114 #[.agg #[.slice A0 x.f0.length c0, .slice A1 x.f1.length c1], .int .i64 left] w fun e w' => e = .returned (.int .i64 (szI left (cPair x))) ∧ Below w.heap.size w w' := by
 have hb0 := below_alloc (Below.refl w.heap.size w) (.cells #[.slice A0 x.f0.length c0, .slice A1 x.f1.length c1] 147)
 have bX := blk_new w (.cells #[.slice A0 x.f0.length c0, .slice A1 x.f1.length c1] 147)
 generalize hW : w.alloc (.cells #[.slice A0 x.f0.length c0, .slice A1 x.f1.length c1] 147) = W at hb0 bX
 have HW := Aside0.mk hW
 have HL0 := Aside0.mk (hL0.below hb0)
 have HL1 := Aside0.mk (hL1.below hb0)
 have hn0 := hL0.len
 have hn1 := hL1.len
 have HB0 := Aside0.mk hb0
 have p0 := (blk_cell bX 0).trans rfl
 have p1 := (blk_cell bX 1).trans rfl
 clear hW hb0 hL0 hL1
 obtain ⟨n1, hn_1⟩ : ∃ n : Nat, n = cS cOcc x.f0 := ⟨_, rfl⟩
 have HN1 := Aside0.mk hn_1
 obtain ⟨n2, hn_2⟩ : ∃ n : Nat, n = cS cOcc x.f1 := ⟨_, rfl⟩
 have HN2 := Aside0.mk hn_2
 have hc : cPair x = n1 + n2 := by unfold cPair; rw [hn_1, hn_2]
 have HC0 : Aside0 (Below W.heap.size W W) := ⟨Below.refl _ _⟩
 by_cases h1 : left - (n1 : Int) < 0
 ·have HS1 := Aside0.mk (show szI left n1 = -1 from if_pos h1)
  have HI := Aside0.mk (show szI left (cPair x) = -1 from if_pos (by rw [hc]; omega))
  have b1 : 0 ≤ left := by omega
  have b1' : left ≤ 1048576 := by omega
  clear h1 hc hn_1 hn_2
  go_enter Tryz.func114, Tryz.ntmps114
  go_upto_region 1 with fail
  rw [HW.out]
  go_wp2_with (go_at_call 116; refine (szOccS_any A0 c0 x.f0 left (by omega) (by omega) _ (HL0.out.below HC0.out)).mono ?_; rintro e w1 ⟨rfl, hb1⟩; rw [← HN1.out, HS1.out]; have p1_0 := pw_cell_below hb1 p0; have p1_1 := pw_cell_below hb1 p1; have HC1 := Aside0.mk (below_then HC0.out HC0.out.size hb1); clear hb1)
  go_ret
  exact ⟨by (rw [HI.out]; try rfl), below_then HB0.out HB0.out.size HC1.out⟩
 obtain ⟨r1, hr1⟩ : ∃ r : Int, r = left - (n1 : Int) := ⟨_, rfl⟩
 have HS1 := Aside0.mk (show szI left n1 = r1 from (if_neg h1).trans hr1.symm)
 have d1 : decide (r1 < 0) = false := decide_eq_false (by omega)
 have b1 : 0 ≤ r1 := by omega
 have b1' : r1 ≤ 1048576 := by omega
 clear h1
 by_cases h2 : r1 - (n2 : Int) < 0
 ·have HS2 := Aside0.mk (show szI r1 n2 = -1 from if_pos h2)
  have HI := Aside0.mk (show szI left (cPair x) = -1 from if_pos (by rw [hc]; omega))
  have b2 : 0 ≤ r1 := by omega
  have b2' : r1 ≤ 1048576 := by omega
  clear h2 hc hn_1 hn_2 hr1
  go_enter Tryz.func114, Tryz.ntmps114
  go_upto_region 1 with fail
  rw [HW.out]
  go_wp2_with (first | (go_at_call 116; refine (szOccS_any A1 c1 x.f1 r1 (by omega) (by omega) _ (HL1.out.below HC1.out)).mono ?_; rintro e w2 ⟨rfl, hb2⟩; rw [← HN2.out, HS2.out]; have p2_0 := pw_cell_below hb2 p1_0; have p2_1 := pw_cell_below hb2 p1_1; have HC2 := Aside0.mk (below_then HC1.out HC1.out.size hb2); clear hb2) | (go_at_call 116; refine (szOccS_any A0 c0 x.f0 left (by omega) (by omega) _ (HL0.out.below HC0.out)).mono ?_; rintro e w1 ⟨rfl, hb1⟩; rw [← HN1.out, HS1.out]; have p1_0 := pw_cell_below hb1 p0; have p1_1 := pw_cell_below hb1 p1; have HC1 := Aside0.mk (below_then HC0.out HC0.out.size hb1); clear hb1))
  go_ret
  exact ⟨by (rw [HI.out]; try rfl), below_then HB0.out HB0.out.size HC2.out⟩
 obtain ⟨r2, hr2⟩ : ∃ r : Int, r = r1 - (n2 : Int) := ⟨_, rfl⟩
 have HS2 := Aside0.mk (show szI r1 n2 = r2 from (if_neg h2).trans hr2.symm)
 have d2 : decide (r2 < 0) = false := decide_eq_false (by omega)
 have b2 : 0 ≤ r2 := by omega
 have b2' : r2 ≤ 1048576 := by omega
 clear h2
 have HI := Aside0.mk (show szI left (cPair x) = r2 from (if_neg (by rw [hc]; omega)).trans (by rw [hc]; omega))
 clear hc hn_1 hn_2 hr1 hr2
 go_enter Tryz.func114, Tryz.ntmps114
 go_upto_region 1 with fail
 rw [HW.out]
 go_wp2_with (first | (go_at_call 116; refine (szOccS_any A1 c1 x.f1 r1 (by omega) (by omega) _ (HL1.out.below HC1.out)).mono ?_; rintro e w2 ⟨rfl, hb2⟩; rw [← HN2.out, HS2.out]; have p2_0 := pw_cell_below hb2 p1_0; have p2_1 := pw_cell_below hb2 p1_1; have HC2 := Aside0.mk (below_then HC1.out HC1.out.size hb2); clear hb2) | (go_at_call 116; refine (szOccS_any A0 c0 x.f0 left (by omega) (by omega) _ (HL0.out.below HC0.out)).mono ?_; rintro e w1 ⟨rfl, hb1⟩; rw [← HN1.out, HS1.out]; have p1_0 := pw_cell_below hb1 p0; have p1_1 := pw_cell_below hb1 p1; have HC1 := Aside0.mk (below_then HC0.out HC0.out.size hb1); clear hb1))
 go_ret
 exact ⟨by (rw [HI.out]; try rfl), below_then HB0.out HB0.out.size HC2.out⟩
def cSpan (x : TSpan) : Nat := cS cOcc x.f0 + cS cOcc x.f1
set_option maxHeartbeats 2000000 in
set_option maxRecDepth 100000 in
theorem szSpan_any (x : TSpan) (A0 : Option Addr) (c0 : Nat) (A1 : Option Addr) (c1 : Nat) (left : Int) (h0 : 0 ≤ left) (h1 : left ≤ 1048576) (w : World) (hL0 : IsS kOcc w x.f0 A0 c0) (hL1 : IsS kOcc w x.f1 A1 c1) :
  Calls Tryz.prog 115 #[.agg #[.slice A0 x.f0.length c0, .slice A1 x.f1.length c1], .int .i64 left] w fun e w' => e = .returned (.int .i64 (szI left (cSpan x))) ∧ Below w.heap.size w w' := by
 have hb0 := below_alloc (Below.refl w.heap.size w) (.cells #[.slice A0 x.f0.length c0, .slice A1 x.f1.length c1] 149)
 have bX := blk_new w (.cells #[.slice A0 x.f0.length c0, .slice A1 x.f1.length c1] 149)
 generalize hW : w.alloc (.cells #[.slice A0 x.f0.length c0, .slice A1 x.f1.length c1] 149) = W at hb0 bX
 have HW := Aside0.mk hW
 have HL0 := Aside0.mk (hL0.below hb0)
 have HL1 := Aside0.mk (hL1.below hb0)
 have hn0 := hL0.len
 have hn1 := hL1.len
 have HB0 := Aside0.mk hb0
 have p0 := (blk_cell bX 0).trans rfl
 have p1 := (blk_cell bX 1).trans rfl
 clear hW hb0 hL0 hL1
 obtain ⟨n1, hn_1⟩ : ∃ n : Nat, n = cS cOcc x.f0 := ⟨_, rfl⟩
 have HN1 := Aside0.mk hn_1
 obtain ⟨n2, hn_2⟩ : ∃ n : Nat, n = cS cOcc x.f1 := ⟨_, rfl⟩
 have HN2 := Aside0.mk hn_2
 have hc : cSpan x = n1 + n2 := by unfold cSpan; rw [hn_1, hn_2]
 have HC0 : Aside0 (Below W.heap.size W W) := ⟨Below.refl _ _⟩
 by_cases h1 : left - (n1 : Int) < 0
 ·have HS1 := Aside0.mk (show szI left n1 = -1 from if_pos h1)
  have HI := Aside0.mk (show szI left (cSpan x) = -1 from if_pos (by rw [hc]; omega))
  have b1 : 0 ≤ left := by omega
  have b1' : left ≤ 1048576 := by omega
  clear h1 hc hn_1 hn_2
  go_enter Tryz.func115, Tryz.ntmps115
  go_upto_region 1 with fail
  rw [HW.out]
  go_wp2_with (go_at_call 116; refine (szOccS_any A0 c0 x.f0 left (by omega) (by omega) _ (HL0.out.below HC0.out)).mono ?_; rintro e w1 ⟨rfl, hb1⟩; rw [← HN1.out, HS1.out]; have p1_0 := pw_cell_below hb1 p0; have p1_1 := pw_cell_below hb1 p1; have HC1 := Aside0.mk (below_then HC0.out HC0.out.size hb1); clear hb1)
  go_ret
  exact ⟨by (rw [HI.out]; try rfl), below_then HB0.out HB0.out.size HC1.out⟩
 obtain ⟨r1, hr1⟩ : ∃ r : Int, r = left - (n1 : Int) := ⟨_, rfl⟩
 have HS1 := Aside0.mk (show szI left n1 = r1 from (if_neg h1).trans hr1.symm)
 have d1 : decide (r1 < 0) = false := decide_eq_false (by omega)
 have b1 : 0 ≤ r1 := by omega
 have b1' : r1 ≤ 1048576 := by omega
 clear h1
 by_cases h2 : r1 - (n2 : Int) < 0
 ·have HS2 := Aside0.mk (show szI r1 n2 = -1 from if_pos h2)
  have HI := Aside0.mk (show szI left (cSpan x) = -1 from if_pos (by rw [hc]; omega))
  have b2 : 0 ≤ r1 := by omega
  have b2' : r1 ≤ 1048576 := by omega
  clear h2 hc hn_1 hn_2 hr1
  go_enter Tryz.func115, Tryz.ntmps115
  go_upto_region 1 with fail
  rw [HW.out]
  go_wp2_with (first | (go_at_call 116; refine (szOccS_any A1 c1 x.f1 r1 (by omega) (by omega) _ (HL1.out.below HC1.out)).mono ?_; rintro e w2 ⟨rfl, hb2⟩; rw [← HN2.out, HS2.out]; have p2_0 := pw_cell_below hb2 p1_0; have p2_1 := pw_cell_below hb2 p1_1; have HC2 := Aside0.mk (below_then HC1.out HC1.out.size hb2); clear hb2) | (go_at_call 116; refine (szOccS_any A0 c0 x.f0 left (by omega) (by omega) _ (HL0.out.below HC0.out)).mono ?_; rintro e w1 ⟨rfl, hb1⟩; rw [← HN1.out, HS1.out]; have p1_0 := pw_cell_below hb1 p0; have p1_1 := pw_cell_below hb1 p1; have HC1 := Aside0.mk (below_then HC0.out HC0.out.size hb1); clear hb1))
  go_ret
  exact ⟨by (rw [HI.out]; try rfl), below_then HB0.out HB0.out.size HC2.out⟩
 obtain ⟨r2, hr2⟩ : ∃ r : Int, r = r1 - (n2 : Int) := ⟨_, rfl⟩
 have HS2 := Aside0.mk (show szI r1 n2 = r2 from (if_neg h2).trans hr2.symm)
 have d2 : decide (r2 < 0) = false := decide_eq_false (by omega)
 have b2 : 0 ≤ r2 := by omega
 have b2' : r2 ≤ 1048576 := by omega
 clear h2
 have HI := Aside0.mk (show szI left (cSpan x) = r2 from (if_neg (by rw [hc]; omega)).trans (by rw [hc]; omega))
 clear hc hn_1 hn_2 hr1 hr2
 go_enter Tryz.func115, Tryz.ntmps115
 go_upto_region 1 with fail
 rw [HW.out]
 go_wp2_with (first | (go_at_call 116; refine (szOccS_any A1 c1 x.f1 r1 (by omega) (by omega) _ (HL1.out.below HC1.out)).mono ?_; rintro e w2 ⟨rfl, hb2⟩; rw [← HN2.out, HS2.out]; have p2_0 := pw_cell_below hb2 p1_0; have p2_1 := pw_cell_below hb2 p1_1; have HC2 := Aside0.mk (below_then HC1.out HC1.out.size hb2); clear hb2) | (go_at_call 116; refine (szOccS_any A0 c0 x.f0 left (by omega) (by omega) _ (HL0.out.below HC0.out)).mono ?_; rintro e w1 ⟨rfl, hb1⟩; rw [← HN1.out, HS1.out]; have p1_0 := pw_cell_below hb1 p0; have p1_1 := pw_cell_below hb1 p1; have HC1 := Aside0.mk (below_then HC0.out HC0.out.size hb1); clear hb1))
 go_ret
 exact ⟨by (rw [HI.out]; try rfl), below_then HB0.out HB0.out.size HC2.out⟩
def cNode (x : TNode) : Nat := x.f3.length + cPair x.f4 + cSpan x.f5 + cS cOcc x.f6
set_option maxHeartbeats 2000000 in
set_option maxRecDepth 100000 in
theorem szNode_any (x : TNode) (A3 : Option Addr) (c3 : Nat) (A4 : Option Addr) (c4 : Nat) (A5 : Option Addr) (c5 : Nat) (A6 : Option Addr) (c6 : Nat) (A7 : Option Addr) (c7 : Nat) (A8 : Option Addr) (c8 : Nat) (left : Int) (h0 : 0 ≤ left) (h1 : left ≤ 1048576) (w : World) (hL3 : IsS (Kd.int .i64) w x.f3 A3 c3) (hL4 : IsS kOcc w x.f4.f0 A4 c4) (hL5 : IsS kOcc w x.f4.f1 A5 c5) (hL6 : IsS kOcc w x.f5.f0 A6 c6) (hL7 : IsS kOcc w x.f5.f1 A7 c7) (hL8 : IsS kOcc w x.f6 A8 c8) :
  Calls Tryz.prog 94 #[.agg #[.int .i64 x.f0, .int .i64 x.f1, .int .i64 x.f2, .slice A3 x.f3.length c3, .slice A4 x.f4.f0.length c4, .slice A5 x.f4.f1.length c5, .slice A6 x.f5.f0.length c6, .slice A7 x.f5.f1.length c7, .slice A8 x.f6.length c8, .int .i64 x.f7], .int .i64 left] w fun e w' => e = .returned (.int .i64 (szI left (cNode x))) ∧ Below w.heap.size w w' := by
 have hb0 := below_alloc (Below.refl w.heap.size w) (.cells #[.int .i64 x.f0, .int .i64 x.f1, .int .i64 x.f2, .slice A3 x.f3.length c3, .slice A4 x.f4.f0.length c4, .slice A5 x.f4.f1.length c5, .slice A6 x.f5.f0.length c6, .slice A7 x.f5.f1.length c7, .slice A8 x.f6.length c8, .int .i64 x.f7] 151)
 have bX := blk_new w (.cells #[.int .i64 x.f0, .int .i64 x.f1, .int .i64 x.f2, .slice A3 x.f3.length c3, .slice A4 x.f4.f0.length c4, .slice A5 x.f4.f1.length c5, .slice A6 x.f5.f0.length c6, .slice A7 x.f5.f1.length c7, .slice A8 x.f6.length c8, .int .i64 x.f7] 151)
 generalize hW : w.alloc (.cells #[.int .i64 x.f0, .int .i64 x.f1, .int .i64 x.f2, .slice A3 x.f3.length c3, .slice A4 x.f4.f0.length c4, .slice A5 x.f4.f1.length c5, .slice A6 x.f5.f0.length c6, .slice A7 x.f5.f1.length c7, .slice A8 x.f6.length c8, .int .i64 x.f7] 151) = W at hb0 bX
 have HW := Aside0.mk hW
 have HL3 := Aside0.mk (hL3.below hb0)
 have HL4 := Aside0.mk (hL4.below hb0)
 have HL5 := Aside0.mk (hL5.below hb0)
 have HL6 := Aside0.mk (hL6.below hb0)
 have HL7 := Aside0.mk (hL7.below hb0)
 have HL8 := Aside0.mk (hL8.below hb0)
 have hn3 := hL3.len
 have hn4 := hL4.len
 have hn5 := hL5.len
 have hn6 := hL6.len
 have hn7 := hL7.len
 have hn8 := hL8.len
 have HB0 := Aside0.mk hb0
 have p0 := (blk_cell bX 0).trans rfl
 have p1 := (blk_cell bX 1).trans rfl
 have p2 := (blk_cell bX 2).trans rfl
 have p3 := (blk_cell bX 3).trans rfl
 have p4 := (blk_cell bX 4).trans rfl
 have p5 := (blk_cell bX 5).trans rfl
 have p6 := (blk_cell bX 6).trans rfl
 have p7 := (blk_cell bX 7).trans rfl
 have p8 := (blk_cell bX 8).trans rfl
 have p9 := (blk_cell bX 9).trans rfl
 clear hW hb0 hL3 hL4 hL5 hL6 hL7 hL8
 obtain ⟨n1, hn_1⟩ : ∃ n : Nat, n = x.f3.length := ⟨_, rfl⟩
 have HN1 := Aside0.mk hn_1
 obtain ⟨n2, hn_2⟩ : ∃ n : Nat, n = cPair x.f4 := ⟨_, rfl⟩
 have HN2 := Aside0.mk hn_2
 obtain ⟨n3, hn_3⟩ : ∃ n : Nat, n = cSpan x.f5 := ⟨_, rfl⟩
 have HN3 := Aside0.mk hn_3
 obtain ⟨n4, hn_4⟩ : ∃ n : Nat, n = cS cOcc x.f6 := ⟨_, rfl⟩
 have HN4 := Aside0.mk hn_4
 have hc : cNode x = n1 + n2 + n3 + n4 := by unfold cNode; rw [hn_1, hn_2, hn_3, hn_4]
 have HC0 : Aside0 (Below W.heap.size W W) := ⟨Below.refl _ _⟩
 by_cases h1 : left - (n1 : Int) < 0
 ·have HS1 := Aside0.mk (show szI left n1 = -1 from if_pos h1)
  have HI := Aside0.mk (show szI left (cNode x) = -1 from if_pos (by rw [hc]; omega))
  have b1 : 0 ≤ left := by omega
  have b1' : left ≤ 1048576 := by omega
  clear h1 hc hn_1 hn_2 hn_3 hn_4
  go_enter Tryz.func94, Tryz.ntmps94
  go_upto_region 1 with fail
  rw [HW.out]
  go_wp2_with (go_at_call 16; refine (szIntS_any A3 c3 x.f3 left (by omega) (by omega) _ (HL3.out.below HC0.out)).mono ?_; rintro e w1 ⟨rfl, hb1⟩; rw [← HN1.out, HS1.out]; have p1_0 := pw_cell_below hb1 p0; have p1_1 := pw_cell_below hb1 p1; have p1_2 := pw_cell_below hb1 p2; have p1_3 := pw_cell_below hb1 p3; have p1_4 := pw_cell_below hb1 p4; have p1_5 := pw_cell_below hb1 p5; have p1_6 := pw_cell_below hb1 p6; have p1_7 := pw_cell_below hb1 p7; have p1_8 := pw_cell_below hb1 p8; have p1_9 := pw_cell_below hb1 p9; have HC1 := Aside0.mk (below_then HC0.out HC0.out.size hb1); clear hb1)
  go_ret
  exact ⟨by (rw [HI.out]; try rfl), below_then HB0.out HB0.out.size HC1.out⟩
 obtain ⟨r1, hr1⟩ : ∃ r : Int, r = left - (n1 : Int) := ⟨_, rfl⟩
 have HS1 := Aside0.mk (show szI left n1 = r1 from (if_neg h1).trans hr1.symm)
 have d1 : decide (r1 < 0) = false := decide_eq_false (by omega)
 have b1 : 0 ≤ r1 := by omega
 have b1' : r1 ≤ 1048576 := by omega
 clear h1
 by_cases h2 : r1 - (n2 : Int) < 0
 ·have HS2 := Aside0.mk (show szI r1 n2 = -1 from if_pos h2)
  have HI := Aside0.mk (show szI left (cNode x) = -1 from if_pos (by rw [hc]; omega))
  have b2 : 0 ≤ r1 := by omega
  have b2' : r1 ≤ 1048576 := by omega
  clear h2 hc hn_1 hn_2 hn_3 hn_4 hr1
  go_enter Tryz.func94, Tryz.ntmps94
  go_upto_region 1 with fail
  rw [HW.out]
  go_wp2_with (first | (go_at_call 114; refine (szPair_any x.f4 A4 c4 A5 c5 r1 (by omega) (by omega) _ (HL4.out.below HC1.out) (HL5.out.below HC1.out)).mono ?_; rintro e w2 ⟨rfl, hb2⟩; rw [← HN2.out, HS2.out]; have p2_0 := pw_cell_below hb2 p1_0; have p2_1 := pw_cell_below hb2 p1_1; have p2_2 := pw_cell_below hb2 p1_2; have p2_3 := pw_cell_below hb2 p1_3; have p2_4 := pw_cell_below hb2 p1_4; have p2_5 := pw_cell_below hb2 p1_5; have p2_6 := pw_cell_below hb2 p1_6; have p2_7 := pw_cell_below hb2 p1_7; have p2_8 := pw_cell_below hb2 p1_8; have p2_9 := pw_cell_below hb2 p1_9; have HC2 := Aside0.mk (below_then HC1.out HC1.out.size hb2); clear hb2) | (go_at_call 16; refine (szIntS_any A3 c3 x.f3 left (by omega) (by omega) _ (HL3.out.below HC0.out)).mono ?_; rintro e w1 ⟨rfl, hb1⟩; rw [← HN1.out, HS1.out]; have p1_0 := pw_cell_below hb1 p0; have p1_1 := pw_cell_below hb1 p1; have p1_2 := pw_cell_below hb1 p2; have p1_3 := pw_cell_below hb1 p3; have p1_4 := pw_cell_below hb1 p4; have p1_5 := pw_cell_below hb1 p5; have p1_6 := pw_cell_below hb1 p6; have p1_7 := pw_cell_below hb1 p7; have p1_8 := pw_cell_below hb1 p8; have p1_9 := pw_cell_below hb1 p9; have HC1 := Aside0.mk (below_then HC0.out HC0.out.size hb1); clear hb1))
  go_ret
  exact ⟨by (rw [HI.out]; try rfl), below_then HB0.out HB0.out.size HC2.out⟩
 obtain ⟨r2, hr2⟩ : ∃ r : Int, r = r1 - (n2 : Int) := ⟨_, rfl⟩
 have HS2 := Aside0.mk (show szI r1 n2 = r2 from (if_neg h2).trans hr2.symm)
 have d2 : decide (r2 < 0) = false := decide_eq_false (by omega)
 have b2 : 0 ≤ r2 := by omega
 have b2' : r2 ≤ 1048576 := by omega
 clear h2
 by_cases h3 : r2 - (n3 : Int) < 0
 ·have HS3 := Aside0.mk (show szI r2 n3 = -1 from if_pos h3)
  have HI := Aside0.mk (show szI left (cNode x) = -1 from if_pos (by rw [hc]; omega))
  have b3 : 0 ≤ r2 := by omega
  have b3' : r2 ≤ 1048576 := by omega
  clear h3 hc hn_1 hn_2 hn_3 hn_4 hr1 hr2
  go_enter Tryz.func94, Tryz.ntmps94
  go_upto_region 1 with fail
  rw [HW.out]
  go_wp2_with (first | (go_at_call 115; refine (szSpan_any x.f5 A6 c6 A7 c7 r2 (by omega) (by omega) _ (HL6.out.below HC2.out) (HL7.out.below HC2.out)).mono ?_; rintro e w3 ⟨rfl, hb3⟩; rw [← HN3.out, HS3.out]; have p3_0 := pw_cell_below hb3 p2_0; have p3_1 := pw_cell_below hb3 p2_1; have p3_2 := pw_cell_below hb3 p2_2; have p3_3 := pw_cell_below hb3 p2_3; have p3_4 := pw_cell_below hb3 p2_4; have p3_5 := pw_cell_below hb3 p2_5; have p3_6 := pw_cell_below hb3 p2_6; have p3_7 := pw_cell_below hb3 p2_7; have p3_8 := pw_cell_below hb3 p2_8; have p3_9 := pw_cell_below hb3 p2_9; have HC3 := Aside0.mk (below_then HC2.out HC2.out.size hb3); clear hb3) | (go_at_call 114; refine (szPair_any x.f4 A4 c4 A5 c5 r1 (by omega) (by omega) _ (HL4.out.below HC1.out) (HL5.out.below HC1.out)).mono ?_; rintro e w2 ⟨rfl, hb2⟩; rw [← HN2.out, HS2.out]; have p2_0 := pw_cell_below hb2 p1_0; have p2_1 := pw_cell_below hb2 p1_1; have p2_2 := pw_cell_below hb2 p1_2; have p2_3 := pw_cell_below hb2 p1_3; have p2_4 := pw_cell_below hb2 p1_4; have p2_5 := pw_cell_below hb2 p1_5; have p2_6 := pw_cell_below hb2 p1_6; have p2_7 := pw_cell_below hb2 p1_7; have p2_8 := pw_cell_below hb2 p1_8; have p2_9 := pw_cell_below hb2 p1_9; have HC2 := Aside0.mk (below_then HC1.out HC1.out.size hb2); clear hb2) | (go_at_call 16; refine (szIntS_any A3 c3 x.f3 left (by omega) (by omega) _ (HL3.out.below HC0.out)).mono ?_; rintro e w1 ⟨rfl, hb1⟩; rw [← HN1.out, HS1.out]; have p1_0 := pw_cell_below hb1 p0; have p1_1 := pw_cell_below hb1 p1; have p1_2 := pw_cell_below hb1 p2; have p1_3 := pw_cell_below hb1 p3; have p1_4 := pw_cell_below hb1 p4; have p1_5 := pw_cell_below hb1 p5; have p1_6 := pw_cell_below hb1 p6; have p1_7 := pw_cell_below hb1 p7; have p1_8 := pw_cell_below hb1 p8; have p1_9 := pw_cell_below hb1 p9; have HC1 := Aside0.mk (below_then HC0.out HC0.out.size hb1); clear hb1))
  go_ret
  exact ⟨by (rw [HI.out]; try rfl), below_then HB0.out HB0.out.size HC3.out⟩
 obtain ⟨r3, hr3⟩ : ∃ r : Int, r = r2 - (n3 : Int) := ⟨_, rfl⟩
 have HS3 := Aside0.mk (show szI r2 n3 = r3 from (if_neg h3).trans hr3.symm)
 have d3 : decide (r3 < 0) = false := decide_eq_false (by omega)
 have b3 : 0 ≤ r3 := by omega
 have b3' : r3 ≤ 1048576 := by omega
 clear h3
 by_cases h4 : r3 - (n4 : Int) < 0
 ·have HS4 := Aside0.mk (show szI r3 n4 = -1 from if_pos h4)
  have HI := Aside0.mk (show szI left (cNode x) = -1 from if_pos (by rw [hc]; omega))
  have b4 : 0 ≤ r3 := by omega
  have b4' : r3 ≤ 1048576 := by omega
  clear h4 hc hn_1 hn_2 hn_3 hn_4 hr1 hr2 hr3
  go_enter Tryz.func94, Tryz.ntmps94
  go_upto_region 1 with fail
  rw [HW.out]
  go_wp2_with (first | (go_at_call 116; refine (szOccS_any A8 c8 x.f6 r3 (by omega) (by omega) _ (HL8.out.below HC3.out)).mono ?_; rintro e w4 ⟨rfl, hb4⟩; rw [← HN4.out, HS4.out]; have p4_0 := pw_cell_below hb4 p3_0; have p4_1 := pw_cell_below hb4 p3_1; have p4_2 := pw_cell_below hb4 p3_2; have p4_3 := pw_cell_below hb4 p3_3; have p4_4 := pw_cell_below hb4 p3_4; have p4_5 := pw_cell_below hb4 p3_5; have p4_6 := pw_cell_below hb4 p3_6; have p4_7 := pw_cell_below hb4 p3_7; have p4_8 := pw_cell_below hb4 p3_8; have p4_9 := pw_cell_below hb4 p3_9; have HC4 := Aside0.mk (below_then HC3.out HC3.out.size hb4); clear hb4) | (go_at_call 115; refine (szSpan_any x.f5 A6 c6 A7 c7 r2 (by omega) (by omega) _ (HL6.out.below HC2.out) (HL7.out.below HC2.out)).mono ?_; rintro e w3 ⟨rfl, hb3⟩; rw [← HN3.out, HS3.out]; have p3_0 := pw_cell_below hb3 p2_0; have p3_1 := pw_cell_below hb3 p2_1; have p3_2 := pw_cell_below hb3 p2_2; have p3_3 := pw_cell_below hb3 p2_3; have p3_4 := pw_cell_below hb3 p2_4; have p3_5 := pw_cell_below hb3 p2_5; have p3_6 := pw_cell_below hb3 p2_6; have p3_7 := pw_cell_below hb3 p2_7; have p3_8 := pw_cell_below hb3 p2_8; have p3_9 := pw_cell_below hb3 p2_9; have HC3 := Aside0.mk (below_then HC2.out HC2.out.size hb3); clear hb3) | (go_at_call 114; refine (szPair_any x.f4 A4 c4 A5 c5 r1 (by omega) (by omega) _ (HL4.out.below HC1.out) (HL5.out.below HC1.out)).mono ?_; rintro e w2 ⟨rfl, hb2⟩; rw [← HN2.out, HS2.out]; have p2_0 := pw_cell_below hb2 p1_0; have p2_1 := pw_cell_below hb2 p1_1; have p2_2 := pw_cell_below hb2 p1_2; have p2_3 := pw_cell_below hb2 p1_3; have p2_4 := pw_cell_below hb2 p1_4; have p2_5 := pw_cell_below hb2 p1_5; have p2_6 := pw_cell_below hb2 p1_6; have p2_7 := pw_cell_below hb2 p1_7; have p2_8 := pw_cell_below hb2 p1_8; have p2_9 := pw_cell_below hb2 p1_9; have HC2 := Aside0.mk (below_then HC1.out HC1.out.size hb2); clear hb2) | (go_at_call 16; refine (szIntS_any A3 c3 x.f3 left (by omega) (by omega) _ (HL3.out.below HC0.out)).mono ?_; rintro e w1 ⟨rfl, hb1⟩; rw [← HN1.out, HS1.out]; have p1_0 := pw_cell_below hb1 p0; have p1_1 := pw_cell_below hb1 p1; have p1_2 := pw_cell_below hb1 p2; have p1_3 := pw_cell_below hb1 p3; have p1_4 := pw_cell_below hb1 p4; have p1_5 := pw_cell_below hb1 p5; have p1_6 := pw_cell_below hb1 p6; have p1_7 := pw_cell_below hb1 p7; have p1_8 := pw_cell_below hb1 p8; have p1_9 := pw_cell_below hb1 p9; have HC1 := Aside0.mk (below_then HC0.out HC0.out.size hb1); clear hb1))
  go_ret
  exact ⟨by (rw [HI.out]; try rfl), below_then HB0.out HB0.out.size HC4.out⟩
 obtain ⟨r4, hr4⟩ : ∃ r : Int, r = r3 - (n4 : Int) := ⟨_, rfl⟩
 have HS4 := Aside0.mk (show szI r3 n4 = r4 from (if_neg h4).trans hr4.symm)
 have d4 : decide (r4 < 0) = false := decide_eq_false (by omega)
 have b4 : 0 ≤ r4 := by omega
 have b4' : r4 ≤ 1048576 := by omega
 clear h4
 have HI := Aside0.mk (show szI left (cNode x) = r4 from (if_neg (by rw [hc]; omega)).trans (by rw [hc]; omega))
 clear hc hn_1 hn_2 hn_3 hn_4 hr1 hr2 hr3 hr4
 go_enter Tryz.func94, Tryz.ntmps94
 go_upto_region 1 with fail
 rw [HW.out]
 go_wp2_with (first | (go_at_call 116; refine (szOccS_any A8 c8 x.f6 r3 (by omega) (by omega) _ (HL8.out.below HC3.out)).mono ?_; rintro e w4 ⟨rfl, hb4⟩; rw [← HN4.out, HS4.out]; have p4_0 := pw_cell_below hb4 p3_0; have p4_1 := pw_cell_below hb4 p3_1; have p4_2 := pw_cell_below hb4 p3_2; have p4_3 := pw_cell_below hb4 p3_3; have p4_4 := pw_cell_below hb4 p3_4; have p4_5 := pw_cell_below hb4 p3_5; have p4_6 := pw_cell_below hb4 p3_6; have p4_7 := pw_cell_below hb4 p3_7; have p4_8 := pw_cell_below hb4 p3_8; have p4_9 := pw_cell_below hb4 p3_9; have HC4 := Aside0.mk (below_then HC3.out HC3.out.size hb4); clear hb4) | (go_at_call 115; refine (szSpan_any x.f5 A6 c6 A7 c7 r2 (by omega) (by omega) _ (HL6.out.below HC2.out) (HL7.out.below HC2.out)).mono ?_; rintro e w3 ⟨rfl, hb3⟩; rw [← HN3.out, HS3.out]; have p3_0 := pw_cell_below hb3 p2_0; have p3_1 := pw_cell_below hb3 p2_1; have p3_2 := pw_cell_below hb3 p2_2; have p3_3 := pw_cell_below hb3 p2_3; have p3_4 := pw_cell_below hb3 p2_4; have p3_5 := pw_cell_below hb3 p2_5; have p3_6 := pw_cell_below hb3 p2_6; have p3_7 := pw_cell_below hb3 p2_7; have p3_8 := pw_cell_below hb3 p2_8; have p3_9 := pw_cell_below hb3 p2_9; have HC3 := Aside0.mk (below_then HC2.out HC2.out.size hb3); clear hb3) | (go_at_call 114; refine (szPair_any x.f4 A4 c4 A5 c5 r1 (by omega) (by omega) _ (HL4.out.below HC1.out) (HL5.out.below HC1.out)).mono ?_; rintro e w2 ⟨rfl, hb2⟩; rw [← HN2.out, HS2.out]; have p2_0 := pw_cell_below hb2 p1_0; have p2_1 := pw_cell_below hb2 p1_1; have p2_2 := pw_cell_below hb2 p1_2; have p2_3 := pw_cell_below hb2 p1_3; have p2_4 := pw_cell_below hb2 p1_4; have p2_5 := pw_cell_below hb2 p1_5; have p2_6 := pw_cell_below hb2 p1_6; have p2_7 := pw_cell_below hb2 p1_7; have p2_8 := pw_cell_below hb2 p1_8; have p2_9 := pw_cell_below hb2 p1_9; have HC2 := Aside0.mk (below_then HC1.out HC1.out.size hb2); clear hb2) | (go_at_call 16; refine (szIntS_any A3 c3 x.f3 left (by omega) (by omega) _ (HL3.out.below HC0.out)).mono ?_; rintro e w1 ⟨rfl, hb1⟩; rw [← HN1.out, HS1.out]; have p1_0 := pw_cell_below hb1 p0; have p1_1 := pw_cell_below hb1 p1; have p1_2 := pw_cell_below hb1 p2; have p1_3 := pw_cell_below hb1 p3; have p1_4 := pw_cell_below hb1 p4; have p1_5 := pw_cell_below hb1 p5; have p1_6 := pw_cell_below hb1 p6; have p1_7 := pw_cell_below hb1 p7; have p1_8 := pw_cell_below hb1 p8; have p1_9 := pw_cell_below hb1 p9; have HC1 := Aside0.mk (below_then HC0.out HC0.out.size hb1); clear hb1))
 go_ret
 exact ⟨by (rw [HI.out]; try rfl), below_then HB0.out HB0.out.size HC4.out⟩
set_option maxHeartbeats 2000000 in
set_option maxRecDepth 100000 in
theorem szNodeS_any (A : Option Addr) (c : Nat) (l : List TNode) (left : Int) (h0 : 0 ≤ left) (h1 : left ≤ 1048576) (w : World) (hL : IsS kNode w l A c) :
  Calls Tryz.prog 67 #[.slice A l.length c, .int .i64 left] w fun e w' => e = .returned (.int .i64 (szI left (cS cNode l))) ∧ Below w.heap.size w w' := by
 have hn := hL.len
 have HL := Aside0.mk hL
 have hct : cS cNode l = l.length + (l.map cNode).sum := rfl
 clear hL
 by_cases h : left - l.length < 0
 ·have d : decide (left - l.length < 0) = true := decide_eq_true h
  have HI := Aside0.mk (show szI left (cS cNode l) = -1 from if_pos (by omega))
  clear h hct
  go_enter Tryz.func67, Tryz.ntmps67
  go_wp2
  go_ret
  exact ⟨by (rw [HI.out]; try rfl), Below.refl _ _⟩
 ·have d : decide (left - l.length < 0) = false := decide_eq_false h
  have h2 : left - l.length ≥ 0 := by omega
  have hll : (l.length : Int) ≤ left := by omega
  have HCT := Aside0.mk hct
  clear h hct
  go_enter Tryz.func67, Tryz.ntmps67
  go_wp2
  go_loopw [1, 5] (fun v1 vi wr => ∃ (k : Nat) (cur : Int), k ≤ l.length ∧ vi = .int .i64 k ∧ v1 = .int .i64 cur ∧ 0 ≤ cur ∧ cur ≤ left ∧ Aside0 (cur + l.length + ((l.take k).map cNode).sum = left) ∧ Aside0 (Below w.heap.size w wr)) (fun _ vi _ => l.length - (intOf vi).toNat)
  case atStart => exact ⟨0, _, Nat.zero_le _, rfl, rfl, h2, by omega, ⟨by simp⟩, ⟨Below.refl _ _⟩⟩
  case round =>
   clear d h2
   obtain ⟨k, cur, hk, rfl, rfl, hc0, hc1, HC, HB⟩ := hrel
   by_cases hlt : k < l.length
   ·have g1 : decide (k < l.length) = true := decide_eq_true hlt
    have i1 : (k : Int) < l.length := by omega
    obtain ⟨ad, B3, e3, B4, e4, B5, e5, B6, e6, B7, e7, B8, e8, rfl, q0, q1, q2, q3, q4, q5, q6, q7, q8, q9, j3, j4, j5, j6, j7, j8⟩ := atNode (HL.out.below HB.out) k hlt
    have hcs := sum_snoc cNode zNode l k hlt
    have hcr := sum_le cNode l (k + 1)
    have hcall := szNode_any (l.getD k zNode) B3 e3 B4 e4 B5 e5 B6 e6 B7 e7 B8 e8 cur hc0 (by omega) wr j3 j4 j5 j6 j7 j8
    have hct := HCT.out
    have hc := HC.out
    clear j3 j4 j5 j6 j7 j8
    generalize l.getD k zNode = o at q0 q1 q2 q3 q4 q5 q6 q7 q8 q9 hcs hcall
    by_cases hs : cur - cNode o < 0
    ·have HI : Aside0 (szI left (cS cNode l) = -1) := ⟨if_pos (by omega)⟩
     rw [show szI cur (cNode o) = -1 from if_pos hs] at hcall
     have HK := Aside0.mk hcall
     clear hs hcs hcr hcall hc HC hct
     go_wp2_with (go_at_call 94; refine HK.out.mono ?_; rintro e w2 ⟨rfl, hb2⟩; have HB2 := Aside0.mk (below_then HB.out HB.out.size hb2); clear hb2)
     go_ret
     exact ⟨by (rw [HI.out]; try rfl), HB2.out⟩
    ·obtain ⟨r, hr⟩ : ∃ r : Int, r = cur - cNode o := ⟨_, rfl⟩
     rw [show szI cur (cNode o) = r from (if_neg hs).trans hr.symm] at hcall
     have HK := Aside0.mk hcall
     have d : decide (r < 0) = false := decide_eq_false (by omega)
     have hr0 : 0 ≤ r := by omega
     have hr1 : r ≤ left := by omega
     have HC2 : Aside0 (r + l.length + ((l.take (k + 1)).map cNode).sum = left) := ⟨by omega⟩
     clear hs hr hcs hcr hcall hc HC hct
     go_wp2_with (go_at_call 94; refine HK.out.mono ?_; rintro e w2 ⟨rfl, hb2⟩; have HB2 := Aside0.mk (below_then HB.out HB.out.size hb2); clear hb2)
     go_roundw
     case rel => exact ⟨k + 1, r, by omega, by go_num, rfl, hr0, hr1, HC2, HB2⟩
     case measure => simp [intOf]; omega
   ·have hke : k = l.length := by omega
    subst hke
    have g1 : decide (l.length < l.length) = false := decide_eq_false (by omega)
    have hx := HC.out
    have hct := HCT.out
    rw [List.take_length] at hx
    have HI : Aside0 (szI left (cS cNode l) = cur) := ⟨by unfold szI; rw [if_neg (by omega)]; omega⟩
    clear hx HC hct
    go_wp2
    go_ret
    exact ⟨by (rw [HI.out]; try rfl), HB.out⟩
def cGraph (x : TGraph) : Nat := cS cNode x.f1
set_option maxHeartbeats 2000000 in
set_option maxRecDepth 100000 in
theorem szGraph_any (x : TGraph) (A1 : Option Addr) (c1 : Nat) (left : Int) (h0 : 0 ≤ left) (h1 : left ≤ 1048576) (w : World) (hL1 : IsS kNode w x.f1 A1 c1) :
  Calls Tryz.prog 34 #[.agg #[.int .i64 x.f0, .slice A1 x.f1.length c1, .int .i64 x.f2, .int .i64 x.f3, .bool x.f4], .int .i64 left] w fun e w' => e = .returned (.int .i64 (szI left (cGraph x))) ∧ Below w.heap.size w w' := by
 have hb0 := below_alloc (Below.refl w.heap.size w) (.cells #[.int .i64 x.f0, .slice A1 x.f1.length c1, .int .i64 x.f2, .int .i64 x.f3, .bool x.f4] 79)
 have bX := blk_new w (.cells #[.int .i64 x.f0, .slice A1 x.f1.length c1, .int .i64 x.f2, .int .i64 x.f3, .bool x.f4] 79)
 generalize hW : w.alloc (.cells #[.int .i64 x.f0, .slice A1 x.f1.length c1, .int .i64 x.f2, .int .i64 x.f3, .bool x.f4] 79) = W at hb0 bX
 have HW := Aside0.mk hW
 have HL1 := Aside0.mk (hL1.below hb0)
 have hn1 := hL1.len
 have HB0 := Aside0.mk hb0
 have p0 := (blk_cell bX 0).trans rfl
 have p1 := (blk_cell bX 1).trans rfl
 have p2 := (blk_cell bX 2).trans rfl
 have p3 := (blk_cell bX 3).trans rfl
 have p4 := (blk_cell bX 4).trans rfl
 clear hW hb0 hL1
 obtain ⟨n1, hn_1⟩ : ∃ n : Nat, n = cS cNode x.f1 := ⟨_, rfl⟩
 have HN1 := Aside0.mk hn_1
 have hc : cGraph x = n1 := by unfold cGraph; rw [hn_1]
 have HC0 : Aside0 (Below W.heap.size W W) := ⟨Below.refl _ _⟩
 by_cases h1 : left - (n1 : Int) < 0
 ·have HS1 := Aside0.mk (show szI left n1 = -1 from if_pos h1)
  have HI := Aside0.mk (show szI left (cGraph x) = -1 from if_pos (by rw [hc]; omega))
  have b1 : 0 ≤ left := by omega
  have b1' : left ≤ 1048576 := by omega
  clear h1 hc hn_1
  go_enter Tryz.func34, Tryz.ntmps34
  go_upto_region 1 with fail
  rw [HW.out]
  go_wp2_with (go_at_call 67; refine (szNodeS_any A1 c1 x.f1 left (by omega) (by omega) _ (HL1.out.below HC0.out)).mono ?_; rintro e w1 ⟨rfl, hb1⟩; rw [← HN1.out, HS1.out]; have p1_0 := pw_cell_below hb1 p0; have p1_1 := pw_cell_below hb1 p1; have p1_2 := pw_cell_below hb1 p2; have p1_3 := pw_cell_below hb1 p3; have p1_4 := pw_cell_below hb1 p4; have HC1 := Aside0.mk (below_then HC0.out HC0.out.size hb1); clear hb1)
  go_ret
  exact ⟨by (rw [HI.out]; try rfl), below_then HB0.out HB0.out.size HC1.out⟩
 obtain ⟨r1, hr1⟩ : ∃ r : Int, r = left - (n1 : Int) := ⟨_, rfl⟩
 have HS1 := Aside0.mk (show szI left n1 = r1 from (if_neg h1).trans hr1.symm)
 have d1 : decide (r1 < 0) = false := decide_eq_false (by omega)
 have b1 : 0 ≤ r1 := by omega
 have b1' : r1 ≤ 1048576 := by omega
 clear h1
 have HI := Aside0.mk (show szI left (cGraph x) = r1 from (if_neg (by rw [hc]; omega)).trans (by rw [hc]; omega))
 clear hc hn_1 hr1
 go_enter Tryz.func34, Tryz.ntmps34
 go_upto_region 1 with fail
 rw [HW.out]
 go_wp2_with (go_at_call 67; refine (szNodeS_any A1 c1 x.f1 left (by omega) (by omega) _ (HL1.out.below HC0.out)).mono ?_; rintro e w1 ⟨rfl, hb1⟩; rw [← HN1.out, HS1.out]; have p1_0 := pw_cell_below hb1 p0; have p1_1 := pw_cell_below hb1 p1; have p1_2 := pw_cell_below hb1 p2; have p1_3 := pw_cell_below hb1 p3; have p1_4 := pw_cell_below hb1 p4; have HC1 := Aside0.mk (below_then HC0.out HC0.out.size hb1); clear hb1)
 go_ret
 exact ⟨by (rw [HI.out]; try rfl), below_then HB0.out HB0.out.size HC1.out⟩
set_option maxHeartbeats 2000000 in
set_option maxRecDepth 100000 in
theorem szGraphS_any (A : Option Addr) (c : Nat) (l : List TGraph) (left : Int) (h0 : 0 ≤ left) (h1 : left ≤ 1048576) (w : World) (hL : IsS kGraph w l A c) :
  Calls Tryz.prog 14 #[.slice A l.length c, .int .i64 left] w fun e w' => e = .returned (.int .i64 (szI left (cS cGraph l))) ∧ Below w.heap.size w w' := by
 have hn := hL.len
 have HL := Aside0.mk hL
 have hct : cS cGraph l = l.length + (l.map cGraph).sum := rfl
 clear hL
 by_cases h : left - l.length < 0
 ·have d : decide (left - l.length < 0) = true := decide_eq_true h
  have HI := Aside0.mk (show szI left (cS cGraph l) = -1 from if_pos (by omega))
  clear h hct
  go_enter Tryz.func14, Tryz.ntmps14
  go_wp2
  go_ret
  exact ⟨by (rw [HI.out]; try rfl), Below.refl _ _⟩
 ·have d : decide (left - l.length < 0) = false := decide_eq_false h
  have h2 : left - l.length ≥ 0 := by omega
  have hll : (l.length : Int) ≤ left := by omega
  have HCT := Aside0.mk hct
  clear h hct
  go_enter Tryz.func14, Tryz.ntmps14
  go_wp2
  go_loopw [1, 5] (fun v1 vi wr => ∃ (k : Nat) (cur : Int), k ≤ l.length ∧ vi = .int .i64 k ∧ v1 = .int .i64 cur ∧ 0 ≤ cur ∧ cur ≤ left ∧ Aside0 (cur + l.length + ((l.take k).map cGraph).sum = left) ∧ Aside0 (Below w.heap.size w wr)) (fun _ vi _ => l.length - (intOf vi).toNat)
  case atStart => exact ⟨0, _, Nat.zero_le _, rfl, rfl, h2, by omega, ⟨by simp⟩, ⟨Below.refl _ _⟩⟩
  case round =>
   clear d h2
   obtain ⟨k, cur, hk, rfl, rfl, hc0, hc1, HC, HB⟩ := hrel
   by_cases hlt : k < l.length
   ·have g1 : decide (k < l.length) = true := decide_eq_true hlt
    have i1 : (k : Int) < l.length := by omega
    obtain ⟨ad, B1, e1, rfl, q0, q1, q2, q3, q4, j1⟩ := atGraph (HL.out.below HB.out) k hlt
    have hcs := sum_snoc cGraph zGraph l k hlt
    have hcr := sum_le cGraph l (k + 1)
    have hcall := szGraph_any (l.getD k zGraph) B1 e1 cur hc0 (by omega) wr j1
    have hct := HCT.out
    have hc := HC.out
    clear j1
    generalize l.getD k zGraph = o at q0 q1 q2 q3 q4 hcs hcall
    by_cases hs : cur - cGraph o < 0
    ·have HI : Aside0 (szI left (cS cGraph l) = -1) := ⟨if_pos (by omega)⟩
     rw [show szI cur (cGraph o) = -1 from if_pos hs] at hcall
     have HK := Aside0.mk hcall
     clear hs hcs hcr hcall hc HC hct
     go_wp2_with (go_at_call 34; refine HK.out.mono ?_; rintro e w2 ⟨rfl, hb2⟩; have HB2 := Aside0.mk (below_then HB.out HB.out.size hb2); clear hb2)
     go_ret
     exact ⟨by (rw [HI.out]; try rfl), HB2.out⟩
    ·obtain ⟨r, hr⟩ : ∃ r : Int, r = cur - cGraph o := ⟨_, rfl⟩
     rw [show szI cur (cGraph o) = r from (if_neg hs).trans hr.symm] at hcall
     have HK := Aside0.mk hcall
     have d : decide (r < 0) = false := decide_eq_false (by omega)
     have hr0 : 0 ≤ r := by omega
     have hr1 : r ≤ left := by omega
     have HC2 : Aside0 (r + l.length + ((l.take (k + 1)).map cGraph).sum = left) := ⟨by omega⟩
     clear hs hr hcs hcr hcall hc HC hct
     go_wp2_with (go_at_call 34; refine HK.out.mono ?_; rintro e w2 ⟨rfl, hb2⟩; have HB2 := Aside0.mk (below_then HB.out HB.out.size hb2); clear hb2)
     go_roundw
     case rel => exact ⟨k + 1, r, by omega, by go_num, rfl, hr0, hr1, HC2, HB2⟩
     case measure => simp [intOf]; omega
   ·have hke : k = l.length := by omega
    subst hke
    have g1 : decide (l.length < l.length) = false := decide_eq_false (by omega)
    have hx := HC.out
    have hct := HCT.out
    rw [List.take_length] at hx
    have HI : Aside0 (szI left (cS cGraph l) = cur) := ⟨by unfold szI; rw [if_neg (by omega)]; omega⟩
    clear hx HC hct
    go_wp2
    go_ret
    exact ⟨by (rw [HI.out]; try rfl), HB.out⟩
def cFire (x : TFire) : Nat := cOcc x.f1
set_option maxHeartbeats 2000000 in
set_option maxRecDepth 100000 in
theorem szFire_any (x : TFire) (A3 : Option Addr) (c3 : Nat) (left : Int) (h0 : 0 ≤ left) (h1 : left ≤ 1048576) (w : World) (hL3 : IsS (Kd.int .i64) w x.f1.f2 A3 c3) :
  Calls Tryz.prog 35 #[.agg #[.int .i64 x.f0, .int .i64 x.f1.f0, .int .i64 x.f1.f1, .slice A3 x.f1.f2.length c3], .int .i64 left] w fun e w' => e = .returned (.int .i64 (szI left (cFire x))) ∧ Below w.heap.size w w' := by
 have hb0 := below_alloc (Below.refl w.heap.size w) (.cells #[.int .i64 x.f0, .int .i64 x.f1.f0, .int .i64 x.f1.f1, .slice A3 x.f1.f2.length c3] 83)
 have bX := blk_new w (.cells #[.int .i64 x.f0, .int .i64 x.f1.f0, .int .i64 x.f1.f1, .slice A3 x.f1.f2.length c3] 83)
 generalize hW : w.alloc (.cells #[.int .i64 x.f0, .int .i64 x.f1.f0, .int .i64 x.f1.f1, .slice A3 x.f1.f2.length c3] 83) = W at hb0 bX
 have HW := Aside0.mk hW
 have HL3 := Aside0.mk (hL3.below hb0)
 have hn3 := hL3.len
 have HB0 := Aside0.mk hb0
 have p0 := (blk_cell bX 0).trans rfl
 have p1 := (blk_cell bX 1).trans rfl
 have p2 := (blk_cell bX 2).trans rfl
 have p3 := (blk_cell bX 3).trans rfl
 clear hW hb0 hL3
 obtain ⟨n1, hn_1⟩ : ∃ n : Nat, n = cOcc x.f1 := ⟨_, rfl⟩
 have HN1 := Aside0.mk hn_1
 have hc : cFire x = n1 := by unfold cFire; rw [hn_1]
 have HC0 : Aside0 (Below W.heap.size W W) := ⟨Below.refl _ _⟩
 by_cases h1 : left - (n1 : Int) < 0
 ·have HS1 := Aside0.mk (show szI left n1 = -1 from if_pos h1)
  have HI := Aside0.mk (show szI left (cFire x) = -1 from if_pos (by rw [hc]; omega))
  have b1 : 0 ≤ left := by omega
  have b1' : left ≤ 1048576 := by omega
  clear h1 hc hn_1
  go_enter Tryz.func35, Tryz.ntmps35
  go_upto_region 1 with fail
  rw [HW.out]
  go_wp2_with (go_at_call 68; refine (szOcc_any x.f1 A3 c3 left (by omega) (by omega) _ (HL3.out.below HC0.out)).mono ?_; rintro e w1 ⟨rfl, hb1⟩; rw [← HN1.out, HS1.out]; have p1_0 := pw_cell_below hb1 p0; have p1_1 := pw_cell_below hb1 p1; have p1_2 := pw_cell_below hb1 p2; have p1_3 := pw_cell_below hb1 p3; have HC1 := Aside0.mk (below_then HC0.out HC0.out.size hb1); clear hb1)
  go_ret
  exact ⟨by (rw [HI.out]; try rfl), below_then HB0.out HB0.out.size HC1.out⟩
 obtain ⟨r1, hr1⟩ : ∃ r : Int, r = left - (n1 : Int) := ⟨_, rfl⟩
 have HS1 := Aside0.mk (show szI left n1 = r1 from (if_neg h1).trans hr1.symm)
 have d1 : decide (r1 < 0) = false := decide_eq_false (by omega)
 have b1 : 0 ≤ r1 := by omega
 have b1' : r1 ≤ 1048576 := by omega
 clear h1
 have HI := Aside0.mk (show szI left (cFire x) = r1 from (if_neg (by rw [hc]; omega)).trans (by rw [hc]; omega))
 clear hc hn_1 hr1
 go_enter Tryz.func35, Tryz.ntmps35
 go_upto_region 1 with fail
 rw [HW.out]
 go_wp2_with (go_at_call 68; refine (szOcc_any x.f1 A3 c3 left (by omega) (by omega) _ (HL3.out.below HC0.out)).mono ?_; rintro e w1 ⟨rfl, hb1⟩; rw [← HN1.out, HS1.out]; have p1_0 := pw_cell_below hb1 p0; have p1_1 := pw_cell_below hb1 p1; have p1_2 := pw_cell_below hb1 p2; have p1_3 := pw_cell_below hb1 p3; have HC1 := Aside0.mk (below_then HC0.out HC0.out.size hb1); clear hb1)
 go_ret
 exact ⟨by (rw [HI.out]; try rfl), below_then HB0.out HB0.out.size HC1.out⟩
set_option maxHeartbeats 2000000 in
set_option maxRecDepth 100000 in
theorem szFireS_any (A : Option Addr) (c : Nat) (l : List TFire) (left : Int) (h0 : 0 ≤ left) (h1 : left ≤ 1048576) (w : World) (hL : IsS kFire w l A c) :
  Calls Tryz.prog 17 #[.slice A l.length c, .int .i64 left] w fun e w' => e = .returned (.int .i64 (szI left (cS cFire l))) ∧ Below w.heap.size w w' := by
 have hn := hL.len
 have HL := Aside0.mk hL
 have hct : cS cFire l = l.length + (l.map cFire).sum := rfl
 clear hL
 by_cases h : left - l.length < 0
 ·have d : decide (left - l.length < 0) = true := decide_eq_true h
  have HI := Aside0.mk (show szI left (cS cFire l) = -1 from if_pos (by omega))
  clear h hct
  go_enter Tryz.func17, Tryz.ntmps17
  go_wp2
  go_ret
  exact ⟨by (rw [HI.out]; try rfl), Below.refl _ _⟩
 ·have d : decide (left - l.length < 0) = false := decide_eq_false h
  have h2 : left - l.length ≥ 0 := by omega
  have hll : (l.length : Int) ≤ left := by omega
  have HCT := Aside0.mk hct
  clear h hct
  go_enter Tryz.func17, Tryz.ntmps17
  go_wp2
  go_loopw [1, 5] (fun v1 vi wr => ∃ (k : Nat) (cur : Int), k ≤ l.length ∧ vi = .int .i64 k ∧ v1 = .int .i64 cur ∧ 0 ≤ cur ∧ cur ≤ left ∧ Aside0 (cur + l.length + ((l.take k).map cFire).sum = left) ∧ Aside0 (Below w.heap.size w wr)) (fun _ vi _ => l.length - (intOf vi).toNat)
  case atStart => exact ⟨0, _, Nat.zero_le _, rfl, rfl, h2, by omega, ⟨by simp⟩, ⟨Below.refl _ _⟩⟩
  case round =>
   clear d h2
   obtain ⟨k, cur, hk, rfl, rfl, hc0, hc1, HC, HB⟩ := hrel
   by_cases hlt : k < l.length
   ·have g1 : decide (k < l.length) = true := decide_eq_true hlt
    have i1 : (k : Int) < l.length := by omega
    obtain ⟨ad, B3, e3, rfl, q0, q1, q2, q3, j3⟩ := atFire (HL.out.below HB.out) k hlt
    have hcs := sum_snoc cFire zFire l k hlt
    have hcr := sum_le cFire l (k + 1)
    have hcall := szFire_any (l.getD k zFire) B3 e3 cur hc0 (by omega) wr j3
    have hct := HCT.out
    have hc := HC.out
    clear j3
    generalize l.getD k zFire = o at q0 q1 q2 q3 hcs hcall
    by_cases hs : cur - cFire o < 0
    ·have HI : Aside0 (szI left (cS cFire l) = -1) := ⟨if_pos (by omega)⟩
     rw [show szI cur (cFire o) = -1 from if_pos hs] at hcall
     have HK := Aside0.mk hcall
     clear hs hcs hcr hcall hc HC hct
     go_wp2_with (go_at_call 35; refine HK.out.mono ?_; rintro e w2 ⟨rfl, hb2⟩; have HB2 := Aside0.mk (below_then HB.out HB.out.size hb2); clear hb2)
     go_ret
     exact ⟨by (rw [HI.out]; try rfl), HB2.out⟩
    ·obtain ⟨r, hr⟩ : ∃ r : Int, r = cur - cFire o := ⟨_, rfl⟩
     rw [show szI cur (cFire o) = r from (if_neg hs).trans hr.symm] at hcall
     have HK := Aside0.mk hcall
     have d : decide (r < 0) = false := decide_eq_false (by omega)
     have hr0 : 0 ≤ r := by omega
     have hr1 : r ≤ left := by omega
     have HC2 : Aside0 (r + l.length + ((l.take (k + 1)).map cFire).sum = left) := ⟨by omega⟩
     clear hs hr hcs hcr hcall hc HC hct
     go_wp2_with (go_at_call 35; refine HK.out.mono ?_; rintro e w2 ⟨rfl, hb2⟩; have HB2 := Aside0.mk (below_then HB.out HB.out.size hb2); clear hb2)
     go_roundw
     case rel => exact ⟨k + 1, r, by omega, by go_num, rfl, hr0, hr1, HC2, HB2⟩
     case measure => simp [intOf]; omega
   ·have hke : k = l.length := by omega
    subst hke
    have g1 : decide (l.length < l.length) = false := decide_eq_false (by omega)
    have hx := HC.out
    have hct := HCT.out
    rw [List.take_length] at hx
    have HI : Aside0 (szI left (cS cFire l) = cur) := ⟨by unfold szI; rw [if_neg (by omega)]; omega⟩
    clear hx HC hct
    go_wp2
    go_ret
    exact ⟨by (rw [HI.out]; try rfl), HB.out⟩
def cRule (x : TRule) : Nat := x.f0.size + cntL x.f3.f3
set_option maxHeartbeats 2000000 in
set_option maxRecDepth 100000 in
theorem szRule_any (x : TRule) (A6 : Option Addr) (c6 : Nat) (left : Int) (h0 : 0 ≤ left) (h1 : left ≤ 1048576) (hwf : x.f0.size ≤ 9223372036854775807) (w : World) (hL6 : IsS (kE 50) w x.f3.f3 A6 c6) :
  Calls Tryz.prog 33 #[.agg #[.string x.f0, .int .i64 x.f1, .int .i64 x.f2, .int .i64 x.f3.f0, .int .i64 x.f3.f1, .int .i64 x.f3.f2, .slice A6 x.f3.f3.length c6, .int .i64 x.f4, .int .i64 x.f5, .int .i64 x.f6, .int .i64 x.f7, .int .i64 x.f8], .int .i64 left] w fun e w' => e = .returned (.int .i64 (szI left (cRule x))) ∧ Below w.heap.size w w' := by
 have hb0 := below_alloc (Below.refl w.heap.size w) (.cells #[.string x.f0, .int .i64 x.f1, .int .i64 x.f2, .int .i64 x.f3.f0, .int .i64 x.f3.f1, .int .i64 x.f3.f2, .slice A6 x.f3.f3.length c6, .int .i64 x.f4, .int .i64 x.f5, .int .i64 x.f6, .int .i64 x.f7, .int .i64 x.f8] 75)
 have bX := blk_new w (.cells #[.string x.f0, .int .i64 x.f1, .int .i64 x.f2, .int .i64 x.f3.f0, .int .i64 x.f3.f1, .int .i64 x.f3.f2, .slice A6 x.f3.f3.length c6, .int .i64 x.f4, .int .i64 x.f5, .int .i64 x.f6, .int .i64 x.f7, .int .i64 x.f8] 75)
 generalize hW : w.alloc (.cells #[.string x.f0, .int .i64 x.f1, .int .i64 x.f2, .int .i64 x.f3.f0, .int .i64 x.f3.f1, .int .i64 x.f3.f2, .slice A6 x.f3.f3.length c6, .int .i64 x.f4, .int .i64 x.f5, .int .i64 x.f6, .int .i64 x.f7, .int .i64 x.f8] 75) = W at hb0 bX
 have HW := Aside0.mk hW
 have HL6 := Aside0.mk (hL6.below hb0)
 have hn6 := hL6.len
 have HB0 := Aside0.mk hb0
 have p0 := (blk_cell bX 0).trans rfl
 have p1 := (blk_cell bX 1).trans rfl
 have p2 := (blk_cell bX 2).trans rfl
 have p3 := (blk_cell bX 3).trans rfl
 have p4 := (blk_cell bX 4).trans rfl
 have p5 := (blk_cell bX 5).trans rfl
 have p6 := (blk_cell bX 6).trans rfl
 have p7 := (blk_cell bX 7).trans rfl
 have p8 := (blk_cell bX 8).trans rfl
 have p9 := (blk_cell bX 9).trans rfl
 have p10 := (blk_cell bX 10).trans rfl
 have p11 := (blk_cell bX 11).trans rfl
 clear hW hb0 hL6
 obtain ⟨n1, hn_1⟩ : ∃ n : Nat, n = x.f0.size := ⟨_, rfl⟩
 have HN1 := Aside0.mk hn_1
 obtain ⟨n2, hn_2⟩ : ∃ n : Nat, n = cntL x.f3.f3 := ⟨_, rfl⟩
 have HN2 := Aside0.mk hn_2
 have hc : cRule x = n1 + n2 := by unfold cRule; rw [hn_1, hn_2]
 have HC0 : Aside0 (Below W.heap.size W W) := ⟨Below.refl _ _⟩
 have HC1 := HC0
 by_cases h1 : left - (x.f0.size : Int) < 0
 ·have d1 : decide (left - (x.f0.size : Int) < 0) = true := decide_eq_true h1
  have HI := Aside0.mk (show szI left (cRule x) = -1 from if_pos (by rw [hc]; omega))
  clear h1 hc hn_1 hn_2
  go_enter Tryz.func33, Tryz.ntmps33
  go_upto_region 1 with fail
  rw [HW.out]
  go_wp2
  go_ret
  exact ⟨by (rw [HI.out]; try rfl), below_then HB0.out HB0.out.size (Below.refl _ _)⟩
 have d1 : decide (left - (x.f0.size : Int) < 0) = false := decide_eq_false h1
 have b1 : 0 ≤ (left - (x.f0.size : Int)) := by omega
 have b1' : (left - (x.f0.size : Int)) ≤ 1048576 := by omega
 clear h1
 by_cases h2 : (left - (x.f0.size : Int)) - (n2 : Int) < 0
 ·have HS2 := Aside0.mk (show szI (left - (x.f0.size : Int)) n2 = -1 from if_pos h2)
  have HI := Aside0.mk (show szI left (cRule x) = -1 from if_pos (by rw [hc]; omega))
  have b2 : 0 ≤ (left - (x.f0.size : Int)) := by omega
  have b2' : (left - (x.f0.size : Int)) ≤ 1048576 := by omega
  clear h2 hc hn_1 hn_2
  go_enter Tryz.func33, Tryz.ntmps33
  go_upto_region 1 with fail
  rw [HW.out]
  go_wp2_with (go_at_call 66; refine (szEx_any x.f3 A6 c6 (left - (x.f0.size : Int)) (by omega) (by omega) _ (HL6.out.below HC1.out)).mono ?_; rintro e w2 ⟨rfl, hb2⟩; rw [← HN2.out, HS2.out]; have p2_0 := pw_cell_below hb2 p0; have p2_1 := pw_cell_below hb2 p1; have p2_2 := pw_cell_below hb2 p2; have p2_3 := pw_cell_below hb2 p3; have p2_4 := pw_cell_below hb2 p4; have p2_5 := pw_cell_below hb2 p5; have p2_6 := pw_cell_below hb2 p6; have p2_7 := pw_cell_below hb2 p7; have p2_8 := pw_cell_below hb2 p8; have p2_9 := pw_cell_below hb2 p9; have p2_10 := pw_cell_below hb2 p10; have p2_11 := pw_cell_below hb2 p11; have HC2 := Aside0.mk (below_then HC1.out HC1.out.size hb2); clear hb2)
  go_ret
  exact ⟨by (rw [HI.out]; try rfl), below_then HB0.out HB0.out.size HC2.out⟩
 obtain ⟨r2, hr2⟩ : ∃ r : Int, r = (left - (x.f0.size : Int)) - (n2 : Int) := ⟨_, rfl⟩
 have HS2 := Aside0.mk (show szI (left - (x.f0.size : Int)) n2 = r2 from (if_neg h2).trans hr2.symm)
 have d2 : decide (r2 < 0) = false := decide_eq_false (by omega)
 have b2 : 0 ≤ r2 := by omega
 have b2' : r2 ≤ 1048576 := by omega
 clear h2
 have HI := Aside0.mk (show szI left (cRule x) = r2 from (if_neg (by rw [hc]; omega)).trans (by rw [hc]; omega))
 clear hc hn_1 hn_2 hr2
 go_enter Tryz.func33, Tryz.ntmps33
 go_upto_region 1 with fail
 rw [HW.out]
 go_wp2_with (go_at_call 66; refine (szEx_any x.f3 A6 c6 (left - (x.f0.size : Int)) (by omega) (by omega) _ (HL6.out.below HC1.out)).mono ?_; rintro e w2 ⟨rfl, hb2⟩; rw [← HN2.out, HS2.out]; have p2_0 := pw_cell_below hb2 p0; have p2_1 := pw_cell_below hb2 p1; have p2_2 := pw_cell_below hb2 p2; have p2_3 := pw_cell_below hb2 p3; have p2_4 := pw_cell_below hb2 p4; have p2_5 := pw_cell_below hb2 p5; have p2_6 := pw_cell_below hb2 p6; have p2_7 := pw_cell_below hb2 p7; have p2_8 := pw_cell_below hb2 p8; have p2_9 := pw_cell_below hb2 p9; have p2_10 := pw_cell_below hb2 p10; have p2_11 := pw_cell_below hb2 p11; have HC2 := Aside0.mk (below_then HC1.out HC1.out.size hb2); clear hb2)
 go_ret
 exact ⟨by (rw [HI.out]; try rfl), below_then HB0.out HB0.out.size HC2.out⟩
set_option maxHeartbeats 2000000 in
set_option maxRecDepth 100000 in
theorem szRuleS_any (A : Option Addr) (c : Nat) (l : List TRule) (left : Int) (h0 : 0 ≤ left) (h1 : left ≤ 1048576) (hwf : ∀ r ∈ l, r.f0.size ≤ 9223372036854775807) (w : World) (hL : IsS kRule w l A c) :
  Calls Tryz.prog 13 #[.slice A l.length c, .int .i64 left] w fun e w' => e = .returned (.int .i64 (szI left (cS cRule l))) ∧ Below w.heap.size w w' := by
 have hn := hL.len
 have HL := Aside0.mk hL
 have hct : cS cRule l = l.length + (l.map cRule).sum := rfl
 clear hL
 by_cases h : left - l.length < 0
 ·have d : decide (left - l.length < 0) = true := decide_eq_true h
  have HI := Aside0.mk (show szI left (cS cRule l) = -1 from if_pos (by omega))
  clear h hct
  go_enter Tryz.func13, Tryz.ntmps13
  go_wp2
  go_ret
  exact ⟨by (rw [HI.out]; try rfl), Below.refl _ _⟩
 ·have d : decide (left - l.length < 0) = false := decide_eq_false h
  have h2 : left - l.length ≥ 0 := by omega
  have hll : (l.length : Int) ≤ left := by omega
  have HCT := Aside0.mk hct
  clear h hct
  go_enter Tryz.func13, Tryz.ntmps13
  go_wp2
  go_loopw [1, 5] (fun v1 vi wr => ∃ (k : Nat) (cur : Int), k ≤ l.length ∧ vi = .int .i64 k ∧ v1 = .int .i64 cur ∧ 0 ≤ cur ∧ cur ≤ left ∧ Aside0 (cur + l.length + ((l.take k).map cRule).sum = left) ∧ Aside0 (Below w.heap.size w wr)) (fun _ vi _ => l.length - (intOf vi).toNat)
  case atStart => exact ⟨0, _, Nat.zero_le _, rfl, rfl, h2, by omega, ⟨by simp⟩, ⟨Below.refl _ _⟩⟩
  case round =>
   clear d h2
   obtain ⟨k, cur, hk, rfl, rfl, hc0, hc1, HC, HB⟩ := hrel
   by_cases hlt : k < l.length
   ·have g1 : decide (k < l.length) = true := decide_eq_true hlt
    have i1 : (k : Int) < l.length := by omega
    obtain ⟨ad, B6, e6, rfl, q0, q1, q2, q3, q4, q5, q6, q7, q8, q9, q10, q11, j6⟩ := atRule (HL.out.below HB.out) k hlt
    have hcs := sum_snoc cRule zRule l k hlt
    have hcr := sum_le cRule l (k + 1)
    have hcall := szRule_any (l.getD k zRule) B6 e6 cur hc0 (by omega) (hwf _ (get_mem hlt)) wr j6
    have hct := HCT.out
    have hc := HC.out
    clear j6
    generalize l.getD k zRule = o at q0 q1 q2 q3 q4 q5 q6 q7 q8 q9 q10 q11 hcs hcall
    by_cases hs : cur - cRule o < 0
    ·have HI : Aside0 (szI left (cS cRule l) = -1) := ⟨if_pos (by omega)⟩
     rw [show szI cur (cRule o) = -1 from if_pos hs] at hcall
     have HK := Aside0.mk hcall
     clear hs hcs hcr hcall hc HC hct
     go_wp2_with (go_at_call 33; refine HK.out.mono ?_; rintro e w2 ⟨rfl, hb2⟩; have HB2 := Aside0.mk (below_then HB.out HB.out.size hb2); clear hb2)
     go_ret
     exact ⟨by (rw [HI.out]; try rfl), HB2.out⟩
    ·obtain ⟨r, hr⟩ : ∃ r : Int, r = cur - cRule o := ⟨_, rfl⟩
     rw [show szI cur (cRule o) = r from (if_neg hs).trans hr.symm] at hcall
     have HK := Aside0.mk hcall
     have d : decide (r < 0) = false := decide_eq_false (by omega)
     have hr0 : 0 ≤ r := by omega
     have hr1 : r ≤ left := by omega
     have HC2 : Aside0 (r + l.length + ((l.take (k + 1)).map cRule).sum = left) := ⟨by omega⟩
     clear hs hr hcs hcr hcall hc HC hct
     go_wp2_with (go_at_call 33; refine HK.out.mono ?_; rintro e w2 ⟨rfl, hb2⟩; have HB2 := Aside0.mk (below_then HB.out HB.out.size hb2); clear hb2)
     go_roundw
     case rel => exact ⟨k + 1, r, by omega, by go_num, rfl, hr0, hr1, HC2, HB2⟩
     case measure => simp [intOf]; omega
   ·have hke : k = l.length := by omega
    subst hke
    have g1 : decide (l.length < l.length) = false := decide_eq_false (by omega)
    have hx := HC.out
    have hct := HCT.out
    rw [List.take_length] at hx
    have HI : Aside0 (szI left (cS cRule l) = cur) := ⟨by unfold szI; rw [if_neg (by omega)]; omega⟩
    clear hx HC hct
    go_wp2
    go_ret
    exact ⟨by (rw [HI.out]; try rfl), HB.out⟩
def cEng (x : TEng) : Nat := cS cRule x.f0 + cS cGraph x.f1 + x.f2.length + x.f3.length + cS cFire x.f4
set_option maxHeartbeats 2000000 in
set_option maxRecDepth 100000 in
theorem szEng_any (x : TEng) (A0 : Option Addr) (c0 : Nat) (A1 : Option Addr) (c1 : Nat) (A2 : Option Addr) (c2 : Nat) (A3 : Option Addr) (c3 : Nat) (A4 : Option Addr) (c4 : Nat) (left : Int) (h0 : 0 ≤ left) (h1 : left ≤ 1048576) (hwf : ∀ r ∈ x.f0, r.f0.size ≤ 9223372036854775807) (w : World) (hL0 : IsS kRule w x.f0 A0 c0) (hL1 : IsS kGraph w x.f1 A1 c1) (hL2 : IsS kEv w x.f2 A2 c2) (hL3 : IsS (Kd.int .i64) w x.f3 A3 c3) (hL4 : IsS kFire w x.f4 A4 c4) :
  Calls Tryz.prog 4 #[.agg #[.slice A0 x.f0.length c0, .slice A1 x.f1.length c1, .slice A2 x.f2.length c2, .slice A3 x.f3.length c3, .slice A4 x.f4.length c4], .int .i64 left] w fun e w' => e = .returned (.int .i64 (szI left (cEng x))) ∧ Below w.heap.size w w' := by
 have hb0 := below_alloc (Below.refl w.heap.size w) (.cells #[.slice A0 x.f0.length c0, .slice A1 x.f1.length c1, .slice A2 x.f2.length c2, .slice A3 x.f3.length c3, .slice A4 x.f4.length c4] 28)
 have bX := blk_new w (.cells #[.slice A0 x.f0.length c0, .slice A1 x.f1.length c1, .slice A2 x.f2.length c2, .slice A3 x.f3.length c3, .slice A4 x.f4.length c4] 28)
 generalize hW : w.alloc (.cells #[.slice A0 x.f0.length c0, .slice A1 x.f1.length c1, .slice A2 x.f2.length c2, .slice A3 x.f3.length c3, .slice A4 x.f4.length c4] 28) = W at hb0 bX
 have HW := Aside0.mk hW
 have HL0 := Aside0.mk (hL0.below hb0)
 have HL1 := Aside0.mk (hL1.below hb0)
 have HL2 := Aside0.mk (hL2.below hb0)
 have HL3 := Aside0.mk (hL3.below hb0)
 have HL4 := Aside0.mk (hL4.below hb0)
 have hn0 := hL0.len
 have hn1 := hL1.len
 have hn2 := hL2.len
 have hn3 := hL3.len
 have hn4 := hL4.len
 have HB0 := Aside0.mk hb0
 have p0 := (blk_cell bX 0).trans rfl
 have p1 := (blk_cell bX 1).trans rfl
 have p2 := (blk_cell bX 2).trans rfl
 have p3 := (blk_cell bX 3).trans rfl
 have p4 := (blk_cell bX 4).trans rfl
 clear hW hb0 hL0 hL1 hL2 hL3 hL4
 obtain ⟨n1, hn_1⟩ : ∃ n : Nat, n = cS cRule x.f0 := ⟨_, rfl⟩
 have HN1 := Aside0.mk hn_1
 obtain ⟨n2, hn_2⟩ : ∃ n : Nat, n = cS cGraph x.f1 := ⟨_, rfl⟩
 have HN2 := Aside0.mk hn_2
 obtain ⟨n3, hn_3⟩ : ∃ n : Nat, n = x.f2.length := ⟨_, rfl⟩
 have HN3 := Aside0.mk hn_3
 obtain ⟨n4, hn_4⟩ : ∃ n : Nat, n = x.f3.length := ⟨_, rfl⟩
 have HN4 := Aside0.mk hn_4
 obtain ⟨n5, hn_5⟩ : ∃ n : Nat, n = cS cFire x.f4 := ⟨_, rfl⟩
 have HN5 := Aside0.mk hn_5
 have hc : cEng x = n1 + n2 + n3 + n4 + n5 := by unfold cEng; rw [hn_1, hn_2, hn_3, hn_4, hn_5]
 have HC0 : Aside0 (Below W.heap.size W W) := ⟨Below.refl _ _⟩
 by_cases h1 : left - (n1 : Int) < 0
 ·have HS1 := Aside0.mk (show szI left n1 = -1 from if_pos h1)
  have HI := Aside0.mk (show szI left (cEng x) = -1 from if_pos (by rw [hc]; omega))
  have b1 : 0 ≤ left := by omega
  have b1' : left ≤ 1048576 := by omega
  clear h1 hc hn_1 hn_2 hn_3 hn_4 hn_5
  go_enter Tryz.func4, Tryz.ntmps4
  go_upto_region 1 with fail
  rw [HW.out]
  go_wp2_with (go_at_call 13; refine (szRuleS_any A0 c0 x.f0 left (by omega) (by omega) hwf _ (HL0.out.below HC0.out)).mono ?_; rintro e w1 ⟨rfl, hb1⟩; rw [← HN1.out, HS1.out]; have p1_0 := pw_cell_below hb1 p0; have p1_1 := pw_cell_below hb1 p1; have p1_2 := pw_cell_below hb1 p2; have p1_3 := pw_cell_below hb1 p3; have p1_4 := pw_cell_below hb1 p4; have HC1 := Aside0.mk (below_then HC0.out HC0.out.size hb1); clear hb1)
  go_ret
  exact ⟨by (rw [HI.out]; try rfl), below_then HB0.out HB0.out.size HC1.out⟩
 obtain ⟨r1, hr1⟩ : ∃ r : Int, r = left - (n1 : Int) := ⟨_, rfl⟩
 have HS1 := Aside0.mk (show szI left n1 = r1 from (if_neg h1).trans hr1.symm)
 have d1 : decide (r1 < 0) = false := decide_eq_false (by omega)
 have b1 : 0 ≤ r1 := by omega
 have b1' : r1 ≤ 1048576 := by omega
 clear h1
 by_cases h2 : r1 - (n2 : Int) < 0
 ·have HS2 := Aside0.mk (show szI r1 n2 = -1 from if_pos h2)
  have HI := Aside0.mk (show szI left (cEng x) = -1 from if_pos (by rw [hc]; omega))
  have b2 : 0 ≤ r1 := by omega
  have b2' : r1 ≤ 1048576 := by omega
  clear h2 hc hn_1 hn_2 hn_3 hn_4 hn_5 hr1
  go_enter Tryz.func4, Tryz.ntmps4
  go_upto_region 1 with fail
  rw [HW.out]
  go_wp2_with (first | (go_at_call 14; refine (szGraphS_any A1 c1 x.f1 r1 (by omega) (by omega) _ (HL1.out.below HC1.out)).mono ?_; rintro e w2 ⟨rfl, hb2⟩; rw [← HN2.out, HS2.out]; have p2_0 := pw_cell_below hb2 p1_0; have p2_1 := pw_cell_below hb2 p1_1; have p2_2 := pw_cell_below hb2 p1_2; have p2_3 := pw_cell_below hb2 p1_3; have p2_4 := pw_cell_below hb2 p1_4; have HC2 := Aside0.mk (below_then HC1.out HC1.out.size hb2); clear hb2) | (go_at_call 13; refine (szRuleS_any A0 c0 x.f0 left (by omega) (by omega) hwf _ (HL0.out.below HC0.out)).mono ?_; rintro e w1 ⟨rfl, hb1⟩; rw [← HN1.out, HS1.out]; have p1_0 := pw_cell_below hb1 p0; have p1_1 := pw_cell_below hb1 p1; have p1_2 := pw_cell_below hb1 p2; have p1_3 := pw_cell_below hb1 p3; have p1_4 := pw_cell_below hb1 p4; have HC1 := Aside0.mk (below_then HC0.out HC0.out.size hb1); clear hb1))
  go_ret
  exact ⟨by (rw [HI.out]; try rfl), below_then HB0.out HB0.out.size HC2.out⟩
 obtain ⟨r2, hr2⟩ : ∃ r : Int, r = r1 - (n2 : Int) := ⟨_, rfl⟩
 have HS2 := Aside0.mk (show szI r1 n2 = r2 from (if_neg h2).trans hr2.symm)
 have d2 : decide (r2 < 0) = false := decide_eq_false (by omega)
 have b2 : 0 ≤ r2 := by omega
 have b2' : r2 ≤ 1048576 := by omega
 clear h2
 by_cases h3 : r2 - (n3 : Int) < 0
 ·have HS3 := Aside0.mk (show szI r2 n3 = -1 from if_pos h3)
  have HI := Aside0.mk (show szI left (cEng x) = -1 from if_pos (by rw [hc]; omega))
  have b3 : 0 ≤ r2 := by omega
  have b3' : r2 ≤ 1048576 := by omega
  clear h3 hc hn_1 hn_2 hn_3 hn_4 hn_5 hr1 hr2
  go_enter Tryz.func4, Tryz.ntmps4
  go_upto_region 1 with fail
  rw [HW.out]
  go_wp2_with (first | (go_at_call 15; refine (szEvS_any A2 c2 x.f2 r2 (by omega) (by omega) _ (HL2.out.below HC2.out)).mono ?_; rintro e w3 ⟨rfl, hb3⟩; rw [← HN3.out, HS3.out]; have p3_0 := pw_cell_below hb3 p2_0; have p3_1 := pw_cell_below hb3 p2_1; have p3_2 := pw_cell_below hb3 p2_2; have p3_3 := pw_cell_below hb3 p2_3; have p3_4 := pw_cell_below hb3 p2_4; have HC3 := Aside0.mk (below_then HC2.out HC2.out.size hb3); clear hb3) | (go_at_call 14; refine (szGraphS_any A1 c1 x.f1 r1 (by omega) (by omega) _ (HL1.out.below HC1.out)).mono ?_; rintro e w2 ⟨rfl, hb2⟩; rw [← HN2.out, HS2.out]; have p2_0 := pw_cell_below hb2 p1_0; have p2_1 := pw_cell_below hb2 p1_1; have p2_2 := pw_cell_below hb2 p1_2; have p2_3 := pw_cell_below hb2 p1_3; have p2_4 := pw_cell_below hb2 p1_4; have HC2 := Aside0.mk (below_then HC1.out HC1.out.size hb2); clear hb2) | (go_at_call 13; refine (szRuleS_any A0 c0 x.f0 left (by omega) (by omega) hwf _ (HL0.out.below HC0.out)).mono ?_; rintro e w1 ⟨rfl, hb1⟩; rw [← HN1.out, HS1.out]; have p1_0 := pw_cell_below hb1 p0; have p1_1 := pw_cell_below hb1 p1; have p1_2 := pw_cell_below hb1 p2; have p1_3 := pw_cell_below hb1 p3; have p1_4 := pw_cell_below hb1 p4; have HC1 := Aside0.mk (below_then HC0.out HC0.out.size hb1); clear hb1))
  go_ret
  exact ⟨by (rw [HI.out]; try rfl), below_then HB0.out HB0.out.size HC3.out⟩
 obtain ⟨r3, hr3⟩ : ∃ r : Int, r = r2 - (n3 : Int) := ⟨_, rfl⟩
 have HS3 := Aside0.mk (show szI r2 n3 = r3 from (if_neg h3).trans hr3.symm)
 have d3 : decide (r3 < 0) = false := decide_eq_false (by omega)
 have b3 : 0 ≤ r3 := by omega
 have b3' : r3 ≤ 1048576 := by omega
 clear h3
 by_cases h4 : r3 - (n4 : Int) < 0
 ·have HS4 := Aside0.mk (show szI r3 n4 = -1 from if_pos h4)
  have HI := Aside0.mk (show szI left (cEng x) = -1 from if_pos (by rw [hc]; omega))
  have b4 : 0 ≤ r3 := by omega
  have b4' : r3 ≤ 1048576 := by omega
  clear h4 hc hn_1 hn_2 hn_3 hn_4 hn_5 hr1 hr2 hr3
  go_enter Tryz.func4, Tryz.ntmps4
  go_upto_region 1 with fail
  rw [HW.out]
  go_wp2_with (first | (go_at_call 16; refine (szIntS_any A3 c3 x.f3 r3 (by omega) (by omega) _ (HL3.out.below HC3.out)).mono ?_; rintro e w4 ⟨rfl, hb4⟩; rw [← HN4.out, HS4.out]; have p4_0 := pw_cell_below hb4 p3_0; have p4_1 := pw_cell_below hb4 p3_1; have p4_2 := pw_cell_below hb4 p3_2; have p4_3 := pw_cell_below hb4 p3_3; have p4_4 := pw_cell_below hb4 p3_4; have HC4 := Aside0.mk (below_then HC3.out HC3.out.size hb4); clear hb4) | (go_at_call 15; refine (szEvS_any A2 c2 x.f2 r2 (by omega) (by omega) _ (HL2.out.below HC2.out)).mono ?_; rintro e w3 ⟨rfl, hb3⟩; rw [← HN3.out, HS3.out]; have p3_0 := pw_cell_below hb3 p2_0; have p3_1 := pw_cell_below hb3 p2_1; have p3_2 := pw_cell_below hb3 p2_2; have p3_3 := pw_cell_below hb3 p2_3; have p3_4 := pw_cell_below hb3 p2_4; have HC3 := Aside0.mk (below_then HC2.out HC2.out.size hb3); clear hb3) | (go_at_call 14; refine (szGraphS_any A1 c1 x.f1 r1 (by omega) (by omega) _ (HL1.out.below HC1.out)).mono ?_; rintro e w2 ⟨rfl, hb2⟩; rw [← HN2.out, HS2.out]; have p2_0 := pw_cell_below hb2 p1_0; have p2_1 := pw_cell_below hb2 p1_1; have p2_2 := pw_cell_below hb2 p1_2; have p2_3 := pw_cell_below hb2 p1_3; have p2_4 := pw_cell_below hb2 p1_4; have HC2 := Aside0.mk (below_then HC1.out HC1.out.size hb2); clear hb2) | (go_at_call 13; refine (szRuleS_any A0 c0 x.f0 left (by omega) (by omega) hwf _ (HL0.out.below HC0.out)).mono ?_; rintro e w1 ⟨rfl, hb1⟩; rw [← HN1.out, HS1.out]; have p1_0 := pw_cell_below hb1 p0; have p1_1 := pw_cell_below hb1 p1; have p1_2 := pw_cell_below hb1 p2; have p1_3 := pw_cell_below hb1 p3; have p1_4 := pw_cell_below hb1 p4; have HC1 := Aside0.mk (below_then HC0.out HC0.out.size hb1); clear hb1))
  go_ret
  exact ⟨by (rw [HI.out]; try rfl), below_then HB0.out HB0.out.size HC4.out⟩
 obtain ⟨r4, hr4⟩ : ∃ r : Int, r = r3 - (n4 : Int) := ⟨_, rfl⟩
 have HS4 := Aside0.mk (show szI r3 n4 = r4 from (if_neg h4).trans hr4.symm)
 have d4 : decide (r4 < 0) = false := decide_eq_false (by omega)
 have b4 : 0 ≤ r4 := by omega
 have b4' : r4 ≤ 1048576 := by omega
 clear h4
 by_cases h5 : r4 - (n5 : Int) < 0
 ·have HS5 := Aside0.mk (show szI r4 n5 = -1 from if_pos h5)
  have HI := Aside0.mk (show szI left (cEng x) = -1 from if_pos (by rw [hc]; omega))
  have b5 : 0 ≤ r4 := by omega
  have b5' : r4 ≤ 1048576 := by omega
  clear h5 hc hn_1 hn_2 hn_3 hn_4 hn_5 hr1 hr2 hr3 hr4
  go_enter Tryz.func4, Tryz.ntmps4
  go_upto_region 1 with fail
  rw [HW.out]
  go_wp2_with (first | (go_at_call 17; refine (szFireS_any A4 c4 x.f4 r4 (by omega) (by omega) _ (HL4.out.below HC4.out)).mono ?_; rintro e w5 ⟨rfl, hb5⟩; rw [← HN5.out, HS5.out]; have p5_0 := pw_cell_below hb5 p4_0; have p5_1 := pw_cell_below hb5 p4_1; have p5_2 := pw_cell_below hb5 p4_2; have p5_3 := pw_cell_below hb5 p4_3; have p5_4 := pw_cell_below hb5 p4_4; have HC5 := Aside0.mk (below_then HC4.out HC4.out.size hb5); clear hb5) | (go_at_call 16; refine (szIntS_any A3 c3 x.f3 r3 (by omega) (by omega) _ (HL3.out.below HC3.out)).mono ?_; rintro e w4 ⟨rfl, hb4⟩; rw [← HN4.out, HS4.out]; have p4_0 := pw_cell_below hb4 p3_0; have p4_1 := pw_cell_below hb4 p3_1; have p4_2 := pw_cell_below hb4 p3_2; have p4_3 := pw_cell_below hb4 p3_3; have p4_4 := pw_cell_below hb4 p3_4; have HC4 := Aside0.mk (below_then HC3.out HC3.out.size hb4); clear hb4) | (go_at_call 15; refine (szEvS_any A2 c2 x.f2 r2 (by omega) (by omega) _ (HL2.out.below HC2.out)).mono ?_; rintro e w3 ⟨rfl, hb3⟩; rw [← HN3.out, HS3.out]; have p3_0 := pw_cell_below hb3 p2_0; have p3_1 := pw_cell_below hb3 p2_1; have p3_2 := pw_cell_below hb3 p2_2; have p3_3 := pw_cell_below hb3 p2_3; have p3_4 := pw_cell_below hb3 p2_4; have HC3 := Aside0.mk (below_then HC2.out HC2.out.size hb3); clear hb3) | (go_at_call 14; refine (szGraphS_any A1 c1 x.f1 r1 (by omega) (by omega) _ (HL1.out.below HC1.out)).mono ?_; rintro e w2 ⟨rfl, hb2⟩; rw [← HN2.out, HS2.out]; have p2_0 := pw_cell_below hb2 p1_0; have p2_1 := pw_cell_below hb2 p1_1; have p2_2 := pw_cell_below hb2 p1_2; have p2_3 := pw_cell_below hb2 p1_3; have p2_4 := pw_cell_below hb2 p1_4; have HC2 := Aside0.mk (below_then HC1.out HC1.out.size hb2); clear hb2) | (go_at_call 13; refine (szRuleS_any A0 c0 x.f0 left (by omega) (by omega) hwf _ (HL0.out.below HC0.out)).mono ?_; rintro e w1 ⟨rfl, hb1⟩; rw [← HN1.out, HS1.out]; have p1_0 := pw_cell_below hb1 p0; have p1_1 := pw_cell_below hb1 p1; have p1_2 := pw_cell_below hb1 p2; have p1_3 := pw_cell_below hb1 p3; have p1_4 := pw_cell_below hb1 p4; have HC1 := Aside0.mk (below_then HC0.out HC0.out.size hb1); clear hb1))
  go_ret
  exact ⟨by (rw [HI.out]; try rfl), below_then HB0.out HB0.out.size HC5.out⟩
 obtain ⟨r5, hr5⟩ : ∃ r : Int, r = r4 - (n5 : Int) := ⟨_, rfl⟩
 have HS5 := Aside0.mk (show szI r4 n5 = r5 from (if_neg h5).trans hr5.symm)
 have d5 : decide (r5 < 0) = false := decide_eq_false (by omega)
 have b5 : 0 ≤ r5 := by omega
 have b5' : r5 ≤ 1048576 := by omega
 clear h5
 have HI := Aside0.mk (show szI left (cEng x) = r5 from (if_neg (by rw [hc]; omega)).trans (by rw [hc]; omega))
 clear hc hn_1 hn_2 hn_3 hn_4 hn_5 hr1 hr2 hr3 hr4 hr5
 go_enter Tryz.func4, Tryz.ntmps4
 go_upto_region 1 with fail
 rw [HW.out]
 go_wp2_with (first | (go_at_call 17; refine (szFireS_any A4 c4 x.f4 r4 (by omega) (by omega) _ (HL4.out.below HC4.out)).mono ?_; rintro e w5 ⟨rfl, hb5⟩; rw [← HN5.out, HS5.out]; have p5_0 := pw_cell_below hb5 p4_0; have p5_1 := pw_cell_below hb5 p4_1; have p5_2 := pw_cell_below hb5 p4_2; have p5_3 := pw_cell_below hb5 p4_3; have p5_4 := pw_cell_below hb5 p4_4; have HC5 := Aside0.mk (below_then HC4.out HC4.out.size hb5); clear hb5) | (go_at_call 16; refine (szIntS_any A3 c3 x.f3 r3 (by omega) (by omega) _ (HL3.out.below HC3.out)).mono ?_; rintro e w4 ⟨rfl, hb4⟩; rw [← HN4.out, HS4.out]; have p4_0 := pw_cell_below hb4 p3_0; have p4_1 := pw_cell_below hb4 p3_1; have p4_2 := pw_cell_below hb4 p3_2; have p4_3 := pw_cell_below hb4 p3_3; have p4_4 := pw_cell_below hb4 p3_4; have HC4 := Aside0.mk (below_then HC3.out HC3.out.size hb4); clear hb4) | (go_at_call 15; refine (szEvS_any A2 c2 x.f2 r2 (by omega) (by omega) _ (HL2.out.below HC2.out)).mono ?_; rintro e w3 ⟨rfl, hb3⟩; rw [← HN3.out, HS3.out]; have p3_0 := pw_cell_below hb3 p2_0; have p3_1 := pw_cell_below hb3 p2_1; have p3_2 := pw_cell_below hb3 p2_2; have p3_3 := pw_cell_below hb3 p2_3; have p3_4 := pw_cell_below hb3 p2_4; have HC3 := Aside0.mk (below_then HC2.out HC2.out.size hb3); clear hb3) | (go_at_call 14; refine (szGraphS_any A1 c1 x.f1 r1 (by omega) (by omega) _ (HL1.out.below HC1.out)).mono ?_; rintro e w2 ⟨rfl, hb2⟩; rw [← HN2.out, HS2.out]; have p2_0 := pw_cell_below hb2 p1_0; have p2_1 := pw_cell_below hb2 p1_1; have p2_2 := pw_cell_below hb2 p1_2; have p2_3 := pw_cell_below hb2 p1_3; have p2_4 := pw_cell_below hb2 p1_4; have HC2 := Aside0.mk (below_then HC1.out HC1.out.size hb2); clear hb2) | (go_at_call 13; refine (szRuleS_any A0 c0 x.f0 left (by omega) (by omega) hwf _ (HL0.out.below HC0.out)).mono ?_; rintro e w1 ⟨rfl, hb1⟩; rw [← HN1.out, HS1.out]; have p1_0 := pw_cell_below hb1 p0; have p1_1 := pw_cell_below hb1 p1; have p1_2 := pw_cell_below hb1 p2; have p1_3 := pw_cell_below hb1 p3; have p1_4 := pw_cell_below hb1 p4; have HC1 := Aside0.mk (below_then HC0.out HC0.out.size hb1); clear hb1))
 go_ret
 exact ⟨by (rw [HI.out]; try rfl), below_then HB0.out HB0.out.size HC5.out⟩
end Go.Proofs.YtckblabkapeigaaGreat.Kb
