
/- Sizes of the program's struct types: the laws' own functions. Printed by genTy.py. -/
import Derived.Test.YtckblabkapeigaaKa
import Derived.Test.YtckblabkapeigaaJc
set_option linter.unusedVariables false
set_option linter.unusedSimpArgs false
namespace Go.Proofs.Ytckblabkapeigaa.Kb
open Go.RowKit Go.Proofs.YtckblabkapeigaaW.PrintWords Go.Proofs.Ytckblabkapeigaa.Ja Go.Proofs.Ytckblabkapeigaa.Jb Go.Proofs.Ytckblabkapeigaa.Jc Go.Proofs.Ytckblabkapeigaa.Ka
def cS {α : Type} (c : α → Nat) (l : List α) : Nat := l.length + (l.map c).sum
theorem sum_snoc {α : Type} (c : α → Nat) (z : α) (l : List α) (k : Nat) (h : k < l.length) : ((l.take (k + 1)).map c).sum = ((l.take k).map c).sum + c (l.getD k z) := by
  rw [take_snoc l k z h, List.map_append, List.sum_append]; simp
theorem sum_le {α : Type} (c : α → Nat) (l : List α) (k : Nat) : ((l.take k).map c).sum ≤ (l.map c).sum := by
  have h : (l.map c).sum = ((l.take k).map c).sum + ((l.drop k).map c).sum := by rw [← List.sum_append, ← List.map_append, List.take_append_drop]
  omega
theorem get_mem {α : Type} {l : List α} {i : Nat} {z : α} (h : i < l.length) : l.getD i z ∈ l := by
  rw [List.getD_eq_getElem?_getD, List.getElem?_eq_getElem h]
  exact List.getElem_mem h
def cOcc (x : TOcc) : Nat := x.f2.length
def cPair (x : TPair) : Nat := cS cOcc x.f0 + cS cOcc x.f1
def cSpan (x : TSpan) : Nat := cS cOcc x.f0 + cS cOcc x.f1
def cNode (x : TNode) : Nat := x.f3.length + cPair x.f4 + cSpan x.f5 + cS cOcc x.f6
def cGraph (x : TGraph) : Nat := cS cNode x.f1
def cFire (x : TFire) : Nat := cOcc x.f1
def cRule (x : TRule) : Nat := x.f0.size + cntL x.f3.f3
set_option maxHeartbeats 2000000 in
set_option maxRecDepth 100000 in
theorem szRule_any (x : TRule) (A6 : Option Addr) (c6 : Nat) (left : Int) (h0 : 0 ≤ left) (h1 : left ≤ 1048576) (hwf : x.f0.size ≤ 9223372036854775807) (w : World) (hL6 : IsS (kE 52) w x.f3.f3 A6 c6) :
    Calls Try.prog 13 #[.agg #[.string x.f0, .int .i64 x.f1, .int .i64 x.f2, .int .i64 x.f3.f0, .int .i64 x.f3.f1, .int .i64 x.f3.f2, .slice A6 x.f3.f3.length c6, .int .i64 x.f4, .int .i64 x.f5, .int .i64 x.f6, .int .i64 x.f7, .int .i64 x.f8], .int .i64 left] w fun e w' => e = .returned (.int .i64 (szI left (cRule x))) ∧ Below w.heap.size w w' := by
  have hb0 := below_alloc (Below.refl w.heap.size w) (.cells #[.string x.f0, .int .i64 x.f1, .int .i64 x.f2, .int .i64 x.f3.f0, .int .i64 x.f3.f1, .int .i64 x.f3.f2, .slice A6 x.f3.f3.length c6, .int .i64 x.f4, .int .i64 x.f5, .int .i64 x.f6, .int .i64 x.f7, .int .i64 x.f8] 43)
  have bX := blk_new w (.cells #[.string x.f0, .int .i64 x.f1, .int .i64 x.f2, .int .i64 x.f3.f0, .int .i64 x.f3.f1, .int .i64 x.f3.f2, .slice A6 x.f3.f3.length c6, .int .i64 x.f4, .int .i64 x.f5, .int .i64 x.f6, .int .i64 x.f7, .int .i64 x.f8] 43)
  generalize hW : w.alloc (.cells #[.string x.f0, .int .i64 x.f1, .int .i64 x.f2, .int .i64 x.f3.f0, .int .i64 x.f3.f1, .int .i64 x.f3.f2, .slice A6 x.f3.f3.length c6, .int .i64 x.f4, .int .i64 x.f5, .int .i64 x.f6, .int .i64 x.f7, .int .i64 x.f8] 43) = W at hb0 bX
  have HW := Aside0.mk hW
  have HL6 := Aside0.mk (hL6.below hb0)
  have hn6 := hL6.len
  have HB0 := Aside0.mk hb0
  have p0 := (blk_cell bX 0).trans rfl
  have p1 := (blk_cell bX 1).trans rfl
  have p2 := (blk_cell bX 2).trans rfl
  have p3 := (blk_cell bX 3).trans rfl
  have p4 := (blk_cell bX 4).trans rfl
  have p5 := (blk_cell bX 5).trans rfl
  have p6 := (blk_cell bX 6).trans rfl
  have p7 := (blk_cell bX 7).trans rfl
  have p8 := (blk_cell bX 8).trans rfl
  have p9 := (blk_cell bX 9).trans rfl
  have p10 := (blk_cell bX 10).trans rfl
  have p11 := (blk_cell bX 11).trans rfl
  clear hW hb0 hL6
  obtain ⟨n1, hn_1⟩ : ∃ n : Nat, n = x.f0.size := ⟨_, rfl⟩
  have HN1 := Aside0.mk hn_1
  obtain ⟨n2, hn_2⟩ : ∃ n : Nat, n = cntL x.f3.f3 := ⟨_, rfl⟩
  have HN2 := Aside0.mk hn_2
  have hc : cRule x = n1 + n2 := by unfold cRule; rw [hn_1, hn_2]
  have HC0 : Aside0 (Below W.heap.size W W) := ⟨Below.refl _ _⟩
  have HC1 := HC0
  by_cases h1 : left - (x.f0.size : Int) < 0
  · have d1 : decide (left - (x.f0.size : Int) < 0) = true := decide_eq_true h1
    have HI := Aside0.mk (show szI left (cRule x) = -1 from if_pos (by rw [hc]; omega))
    clear h1 hc hn_1 hn_2
    go_enter Try.func13, Try.ntmps13
    go_upto_region 1 with fail
    rw [HW.out]
    go_wp2
    go_ret
    exact ⟨by (rw [HI.out]; try rfl), below_then HB0.out HB0.out.size (Below.refl _ _)⟩
  have d1 : decide (left - (x.f0.size : Int) < 0) = false := decide_eq_false h1
  have b1 : 0 ≤ (left - (x.f0.size : Int)) := by omega
  have b1' : (left - (x.f0.size : Int)) ≤ 1048576 := by omega
  clear h1
  by_cases h2 : (left - (x.f0.size : Int)) - (n2 : Int) < 0
  · have HS2 := Aside0.mk (show szI (left - (x.f0.size : Int)) n2 = -1 from if_pos h2)
    have HI := Aside0.mk (show szI left (cRule x) = -1 from if_pos (by rw [hc]; omega))
    have b2 : 0 ≤ (left - (x.f0.size : Int)) := by omega
    have b2' : (left - (x.f0.size : Int)) ≤ 1048576 := by omega
    clear h2 hc hn_1 hn_2
    go_enter Try.func13, Try.ntmps13
    go_upto_region 1 with fail
    rw [HW.out]
    go_wp2_with (go_at_call 37; refine (szEx_any x.f3 A6 c6 (left - (x.f0.size : Int)) (by omega) (by omega) _ (HL6.out.below HC1.out)).mono ?_; rintro e w2 ⟨rfl, hb2⟩; rw [← HN2.out, HS2.out]; have p2_0 := pw_cell_below hb2 p0; have p2_1 := pw_cell_below hb2 p1; have p2_2 := pw_cell_below hb2 p2; have p2_3 := pw_cell_below hb2 p3; have p2_4 := pw_cell_below hb2 p4; have p2_5 := pw_cell_below hb2 p5; have p2_6 := pw_cell_below hb2 p6; have p2_7 := pw_cell_below hb2 p7; have p2_8 := pw_cell_below hb2 p8; have p2_9 := pw_cell_below hb2 p9; have p2_10 := pw_cell_below hb2 p10; have p2_11 := pw_cell_below hb2 p11; have HC2 := Aside0.mk (below_then HC1.out HC1.out.size hb2); clear hb2)
    go_ret
    exact ⟨by (rw [HI.out]; try rfl), below_then HB0.out HB0.out.size HC2.out⟩
  obtain ⟨r2, hr2⟩ : ∃ r : Int, r = (left - (x.f0.size : Int)) - (n2 : Int) := ⟨_, rfl⟩
  have HS2 := Aside0.mk (show szI (left - (x.f0.size : Int)) n2 = r2 from (if_neg h2).trans hr2.symm)
  have d2 : decide (r2 < 0) = false := decide_eq_false (by omega)
  have b2 : 0 ≤ r2 := by omega
  have b2' : r2 ≤ 1048576 := by omega
  clear h2
  have HI := Aside0.mk (show szI left (cRule x) = r2 from (if_neg (by rw [hc]; omega)).trans (by rw [hc]; omega))
  clear hc hn_1 hn_2 hr2
  go_enter Try.func13, Try.ntmps13
  go_upto_region 1 with fail
  rw [HW.out]
  go_wp2_with (go_at_call 37; refine (szEx_any x.f3 A6 c6 (left - (x.f0.size : Int)) (by omega) (by omega) _ (HL6.out.below HC1.out)).mono ?_; rintro e w2 ⟨rfl, hb2⟩; rw [← HN2.out, HS2.out]; have p2_0 := pw_cell_below hb2 p0; have p2_1 := pw_cell_below hb2 p1; have p2_2 := pw_cell_below hb2 p2; have p2_3 := pw_cell_below hb2 p3; have p2_4 := pw_cell_below hb2 p4; have p2_5 := pw_cell_below hb2 p5; have p2_6 := pw_cell_below hb2 p6; have p2_7 := pw_cell_below hb2 p7; have p2_8 := pw_cell_below hb2 p8; have p2_9 := pw_cell_below hb2 p9; have p2_10 := pw_cell_below hb2 p10; have p2_11 := pw_cell_below hb2 p11; have HC2 := Aside0.mk (below_then HC1.out HC1.out.size hb2); clear hb2)
  go_ret
  exact ⟨by (rw [HI.out]; try rfl), below_then HB0.out HB0.out.size HC2.out⟩
set_option maxHeartbeats 2000000 in
set_option maxRecDepth 100000 in
theorem szRuleS_any (A : Option Addr) (c : Nat) (l : List TRule) (left : Int) (h0 : 0 ≤ left) (h1 : left ≤ 1048576) (hwf : ∀ r ∈ l, r.f0.size ≤ 9223372036854775807) (w : World) (hL : IsS kRule w l A c) :
    Calls Try.prog 4 #[.slice A l.length c, .int .i64 left] w fun e w' => e = .returned (.int .i64 (szI left (cS cRule l))) ∧ Below w.heap.size w w' := by
  have hn := hL.len
  have HL := Aside0.mk hL
  have hct : cS cRule l = l.length + (l.map cRule).sum := rfl
  clear hL
  by_cases h : left - l.length < 0
  · have d : decide (left - l.length < 0) = true := decide_eq_true h
    have HI := Aside0.mk (show szI left (cS cRule l) = -1 from if_pos (by omega))
    clear h hct
    go_enter Try.func4, Try.ntmps4
    go_wp2
    go_ret
    exact ⟨by (rw [HI.out]; try rfl), Below.refl _ _⟩
  · have d : decide (left - l.length < 0) = false := decide_eq_false h
    have h2 : left - l.length ≥ 0 := by omega
    have hll : (l.length : Int) ≤ left := by omega
    have HCT := Aside0.mk hct
    clear h hct
    go_enter Try.func4, Try.ntmps4
    go_wp2
    go_loopw [1, 5] (fun v1 vi wr => ∃ (k : Nat) (cur : Int), k ≤ l.length ∧ vi = .int .i64 k ∧ v1 = .int .i64 cur ∧ 0 ≤ cur ∧ cur ≤ left ∧ Aside0 (cur + l.length + ((l.take k).map cRule).sum = left) ∧ Aside0 (Below w.heap.size w wr)) (fun _ vi _ => l.length - (intOf vi).toNat)
    case atStart => exact ⟨0, _, Nat.zero_le _, rfl, rfl, h2, by omega, ⟨by simp⟩, ⟨Below.refl _ _⟩⟩
    case round =>
      clear d h2
      obtain ⟨k, cur, hk, rfl, rfl, hc0, hc1, HC, HB⟩ := hrel
      by_cases hlt : k < l.length
      · have g1 : decide (k < l.length) = true := decide_eq_true hlt
        have i1 : (k : Int) < l.length := by omega
        obtain ⟨ad, B6, e6, rfl, q0, q1, q2, q3, q4, q5, q6, q7, q8, q9, q10, q11, j6⟩ := atRule (HL.out.below HB.out) k hlt
        have hcs := sum_snoc cRule zRule l k hlt
        have hcr := sum_le cRule l (k + 1)
        have hcall := szRule_any (l.getD k zRule) B6 e6 cur hc0 (by omega) (hwf _ (get_mem hlt)) wr j6
        have hct := HCT.out
        have hc := HC.out
        clear j6
        generalize l.getD k zRule = o at q0 q1 q2 q3 q4 q5 q6 q7 q8 q9 q10 q11 hcs hcall
        by_cases hs : cur - cRule o < 0
        · have HI : Aside0 (szI left (cS cRule l) = -1) := ⟨if_pos (by omega)⟩
          rw [show szI cur (cRule o) = -1 from if_pos hs] at hcall
          have HK := Aside0.mk hcall
          clear hs hcs hcr hcall hc HC hct
          go_wp2_with (go_at_call 13; refine HK.out.mono ?_; rintro e w2 ⟨rfl, hb2⟩; have HB2 := Aside0.mk (below_then HB.out HB.out.size hb2); clear hb2)
          go_ret
          exact ⟨by (rw [HI.out]; try rfl), HB2.out⟩
        · obtain ⟨r, hr⟩ : ∃ r : Int, r = cur - cRule o := ⟨_, rfl⟩
          rw [show szI cur (cRule o) = r from (if_neg hs).trans hr.symm] at hcall
          have HK := Aside0.mk hcall
          have d : decide (r < 0) = false := decide_eq_false (by omega)
          have hr0 : 0 ≤ r := by omega
          have hr1 : r ≤ left := by omega
          have HC2 : Aside0 (r + l.length + ((l.take (k + 1)).map cRule).sum = left) := ⟨by omega⟩
          clear hs hr hcs hcr hcall hc HC hct
          go_wp2_with (go_at_call 13; refine HK.out.mono ?_; rintro e w2 ⟨rfl, hb2⟩; have HB2 := Aside0.mk (below_then HB.out HB.out.size hb2); clear hb2)
          go_roundw
          case rel => exact ⟨k + 1, r, by omega, by go_num, rfl, hr0, hr1, HC2, HB2⟩
          case measure => simp [intOf]; omega
      · have hke : k = l.length := by omega
        subst hke
        have g1 : decide (l.length < l.length) = false := decide_eq_false (by omega)
        have hx := HC.out
        have hct := HCT.out
        rw [List.take_length] at hx
        have HI : Aside0 (szI left (cS cRule l) = cur) := ⟨by unfold szI; rw [if_neg (by omega)]; omega⟩
        clear hx HC hct
        go_wp2
        go_ret
        exact ⟨by (rw [HI.out]; try rfl), HB.out⟩
def cEng (x : TEng) : Nat := cS cRule x.f0 + cS cGraph x.f1 + x.f2.length + x.f3.length + cS cFire x.f4
end Go.Proofs.Ytckblabkapeigaa.Kb
