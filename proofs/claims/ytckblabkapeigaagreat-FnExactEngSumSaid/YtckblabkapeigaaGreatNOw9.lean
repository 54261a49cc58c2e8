
/- A node's tests that hold a closure: kids in range, what is due is behind now. Printed by genOw9.py. -/
import Derived.Test.YtckblabkapeigaaGreatNOv9
set_option linter.unusedVariables false
set_option linter.unusedSimpArgs false
namespace Go.Proofs.YtckblabkapeigaaGreat.Ow9
open Go.RowKit Go.Proofs.YtckblabkapeigaaGreatW.PrintWords Go.Proofs.YtckblabkapeigaaGreat.Ja Go.Proofs.YtckblabkapeigaaGreat.Jb Go.Proofs.YtckblabkapeigaaGreat.Jg Go.Proofs.YtckblabkapeigaaGreat.Jh Go.Proofs.YtckblabkapeigaaGreat.Ka Go.Proofs.YtckblabkapeigaaGreat.Kb Go.Proofs.YtckblabkapeigaaGreat.Ov9

set_option maxRecDepth 100000 in
theorem nodeOk1_any (k i : Int) (B : Nat) (w : World) (hi : 0 ≤ i ∧ i ≤ 9223372036854775807) (hB : w.cell? ⟨B, 0, none⟩ = some (.int .i64 i)) :
  Calls Tryz.prog 127 #[.int .i64 k, .pointer (some ⟨B, 0, none⟩)] w fun e w' => e = .returned (.bool (!inb k 0 (i - 1))) ∧ Below w.heap.size w w' := by
 go_enter Tryz.func127, Tryz.ntmps127
 go_wp2_with (go_at_call 54; refine (in_any _ _ _ _).mono ?_; rintro e w2 ⟨rfl, he⟩; subst he)
 go_ret
 exact ⟨rfl, Below.refl _ _⟩
set_option maxRecDepth 100000 in
theorem nodeOk2_any (x : TOcc) (A2 : Option Addr) (c2 : Nat) (now : Int) (B : Nat) (w : World) (hB : w.cell? ⟨B, 0, none⟩ = some (.int .i64 now)) :
  Calls Tryz.prog 131 #[.agg #[.int .i64 x.f0, .int .i64 x.f1, .slice A2 x.f2.length c2], .pointer (some ⟨B, 0, none⟩)] w fun e w' => e = .returned (.bool (decide (x.f1 ≤ now))) ∧ Below w.heap.size w w' := by
 have hb0 := below_alloc (Below.refl w.heap.size w) (.cells #[.int .i64 x.f0, .int .i64 x.f1, .slice A2 x.f2.length c2] 54)
 have bX := blk_new w (.cells #[.int .i64 x.f0, .int .i64 x.f1, .slice A2 x.f2.length c2] 54)
 have hB' := pw_cell_below hb0 hB
 obtain ⟨W, hW⟩ : ∃ W, W = w.alloc (.cells #[.int .i64 x.f0, .int .i64 x.f1, .slice A2 x.f2.length c2] 54) := ⟨_, rfl⟩
 rw [← hW] at hb0 bX hB'
 have HW := Aside0.mk hW
 have HX := Aside0.mk hb0
 have p1 := (blk_cell bX 1).trans rfl
 clear hW hb0 bX hB
 go_enter Tryz.func131, Tryz.ntmps131
 go_upto_region 1 with fail
 rw [← HW.out]
 go_wp2
 go_ret
 exact ⟨rfl, HX.out⟩
set_option maxHeartbeats 2000000 in
set_option maxRecDepth 100000 in
theorem kids_idx (i : Int) (B : Nat) (hi : 0 ≤ i ∧ i ≤ 9223372036854775807) (A : Option Addr) (c : Nat) (l : List Int) (w : World) (hL : IsS (Kd.int .i64) w l A c) (hB : World.cell? w ⟨B, 0, none⟩ = some (.int .i64 i)) :
  Calls Tryz.prog 87 #[.slice A l.length c, .func (.func 127) #[] #[.pointer (some ⟨B, 0, none⟩)]] w fun e w' => (∃ r : Int, e = .returned (.int .i64 r) ∧ decide (r ≥ 0) = l.any (fun k => !inb k 0 (i - 1))) ∧ Below w.heap.size w w' := by
 have hn := hL.len
 have HL := Aside0.mk hL
 have EhB := Aside0.mk hB
 clear hL hB
 go_enter Tryz.func87, Tryz.ntmps87
 go_wp2
 go_loopw [8] (fun vi wr => ∃ (j : Nat), j ≤ l.length ∧ vi = .int .i64 j ∧ Aside0 ((l.take j).any (fun k => !inb k 0 (i - 1)) = false) ∧ Aside0 (Below w.heap.size w wr)) (fun vi _ => l.length - (intOf vi).toNat)
 case atStart => exact ⟨0, Nat.zero_le _, rfl, ⟨by simp⟩, ⟨Below.refl _ _⟩⟩
 case round =>
  obtain ⟨j, hj, rfl, HA, HB⟩ := hrel
  by_cases hlt : j < l.length
  ·have g1 : decide (j < l.length) = true := decide_eq_true hlt
   have i1 : (j : Int) < l.length := by omega
   obtain ⟨ad, rfl, y0⟩ := atI (HL.out.below HB.out) j hlt
   have HS : Aside0 ((l.take (j + 1)).any (fun k => !inb k 0 (i - 1)) = ((l.take j).any (fun k => !inb k 0 (i - 1)) || (fun k => !inb k 0 (i - 1)) (l.getD j (0 : Int)))) := ⟨by rw [take_snoc l j (0 : Int) hlt, List.any_append]; simp⟩
   have HM : Aside0 (l.getD j (0 : Int) ∈ l) := ⟨by rw [List.getD_eq_getElem?_getD, List.getElem?_eq_getElem hlt]; exact List.getElem_mem hlt⟩
   have HF : Aside0 ((fun k => !inb k 0 (i - 1)) (l.getD j (0 : Int)) = true → l.any (fun k => !inb k 0 (i - 1)) = true) := ⟨fun h => List.any_eq_true.2 ⟨_, HM.out, h⟩⟩
   have ehB : World.cell? wr ⟨B, 0, none⟩ = some (.int .i64 i) := pw_cell_below HB.out EhB.out
   generalize l.getD j (0 : Int) = o at y0 HS HF
   have hcl : Calls Tryz.prog 127 #[(.int .i64 o), .pointer (some ⟨B, 0, none⟩)] wr (fun e w'' => e = .returned (.bool ((fun k => !inb k 0 (i - 1)) o)) ∧ Below wr.heap.size wr w'') := nodeOk1_any o i B wr hi ehB
   clear ehB HM
   cases hd : (fun k => !inb k 0 (i - 1)) o with
   | false =>
    have HE2 : Aside0 ((l.take (j + 1)).any (fun k => !inb k 0 (i - 1)) = false) := ⟨by rw [HS.out, HA.out, hd]; rfl⟩
    rw [hd] at hcl
    clear hd
    go_wp2_with (go_at_call 127; refine hcl.mono ?_; rintro e w1 ⟨rfl, hb1⟩; have HB1 := Aside0.mk (below_then HB.out HB.out.size hb1); clear hb1)
    go_roundw
    case rel => exact ⟨j + 1, by omega, by go_num, HE2, HB1⟩
    case measure => simp [intOf]; omega
   | true =>
    have HF2 := Aside0.mk (HF.out hd)
    rw [hd] at hcl
    clear hd
    go_wp2_with (go_at_call 127; refine hcl.mono ?_; rintro e w1 ⟨rfl, hb1⟩; have HB1 := Aside0.mk (below_then HB.out HB.out.size hb1); clear hb1)
    go_ret
    exact ⟨⟨(j : Int), rfl, by rw [HF2.out]; exact decide_eq_true (by omega)⟩, HB1.out⟩
  ·have hke : j = l.length := by omega
   subst hke
   have g1 : decide (l.length < l.length) = false := decide_eq_false (by omega)
   have HF : Aside0 (l.any (fun k => !inb k 0 (i - 1)) = false) := ⟨by have h := HA.out; rwa [List.take_length] at h⟩
   go_wp2
   go_ret
   exact ⟨⟨-1, rfl, by rw [HF.out]; decide⟩, HB.out⟩
set_option maxRecDepth 100000 in
theorem kids_has (i : Int) (B : Nat) (hi : 0 ≤ i ∧ i ≤ 9223372036854775807) (A : Option Addr) (c : Nat) (l : List Int) (w : World) (hL : IsS (Kd.int .i64) w l A c) (hB : World.cell? w ⟨B, 0, none⟩ = some (.int .i64 i)) :
  Calls Tryz.prog 52 #[.slice A l.length c, .func (.func 127) #[] #[.pointer (some ⟨B, 0, none⟩)]] w fun e w' => e = .returned (.bool (l.any (fun k => !inb k 0 (i - 1)))) ∧ Below w.heap.size w w' := by
 have HC := Aside0.mk (kids_idx i B hi A c l w hL hB)
 clear hL hB
 go_enter Tryz.func52, Tryz.ntmps52
 go_wp2_with (go_at_call 87; refine HC.out.mono ?_; rintro e w2 ⟨⟨r, rfl, hr⟩, hb⟩; have HR := Aside0.mk hr; have HB2 := Aside0.mk hb; clear hr hb)
 go_ret
 exact ⟨by (rw [← HR.out]; rfl), HB2.out⟩
set_option maxHeartbeats 2000000 in
set_option maxRecDepth 100000 in
theorem dues_idx (now : Int) (B : Nat) (A : Option Addr) (c : Nat) (l : List TOcc) (w : World) (hL : IsS kOcc w l A c) (hB : World.cell? w ⟨B, 0, none⟩ = some (.int .i64 now)) :
  Calls Tryz.prog 132 #[.slice A l.length c, .func (.func 131) #[] #[.pointer (some ⟨B, 0, none⟩)]] w fun e w' => (∃ r : Int, e = .returned (.int .i64 r) ∧ decide (r ≥ 0) = l.any (fun x => decide (x.f1 ≤ now))) ∧ Below w.heap.size w w' := by
 have hn := hL.len
 have HL := Aside0.mk hL
 have EhB := Aside0.mk hB
 clear hL hB
 go_enter Tryz.func132, Tryz.ntmps132
 go_wp2
 go_loopw [8] (fun vi wr => ∃ (j : Nat), j ≤ l.length ∧ vi = .int .i64 j ∧ Aside0 ((l.take j).any (fun x => decide (x.f1 ≤ now)) = false) ∧ Aside0 (Below w.heap.size w wr)) (fun vi _ => l.length - (intOf vi).toNat)
 case atStart => exact ⟨0, Nat.zero_le _, rfl, ⟨by simp⟩, ⟨Below.refl _ _⟩⟩
 case round =>
  obtain ⟨j, hj, rfl, HA, HB⟩ := hrel
  by_cases hlt : j < l.length
  ·have g1 : decide (j < l.length) = true := decide_eq_true hlt
   have i1 : (j : Int) < l.length := by omega
   obtain ⟨ad, A2, c2, rfl, y0, y1, y2, j2⟩ := atOcc (HL.out.below HB.out) j hlt
   have HS : Aside0 ((l.take (j + 1)).any (fun x => decide (x.f1 ≤ now)) = ((l.take j).any (fun x => decide (x.f1 ≤ now)) || (fun x => decide (x.f1 ≤ now)) (l.getD j zOcc))) := ⟨by rw [take_snoc l j zOcc hlt, List.any_append]; simp⟩
   have HM : Aside0 (l.getD j zOcc ∈ l) := ⟨by rw [List.getD_eq_getElem?_getD, List.getElem?_eq_getElem hlt]; exact List.getElem_mem hlt⟩
   have HF : Aside0 ((fun x => decide (x.f1 ≤ now)) (l.getD j zOcc) = true → l.any (fun x => decide (x.f1 ≤ now)) = true) := ⟨fun h => List.any_eq_true.2 ⟨_, HM.out, h⟩⟩
   have ehB : World.cell? wr ⟨B, 0, none⟩ = some (.int .i64 now) := pw_cell_below HB.out EhB.out
   generalize l.getD j zOcc = o at y0 y1 y2 j2 HS HF
   have hcl : Calls Tryz.prog 131 #[.agg #[.int .i64 o.f0, .int .i64 o.f1, .slice A2 o.f2.length c2], .pointer (some ⟨B, 0, none⟩)] wr (fun e w'' => e = .returned (.bool ((fun x => decide (x.f1 ≤ now)) o)) ∧ Below wr.heap.size wr w'') := nodeOk2_any o A2 c2 now B wr ehB
   clear j2 ehB HM
   cases hd : (fun x => decide (x.f1 ≤ now)) o with
   | false =>
    have HE2 : Aside0 ((l.take (j + 1)).any (fun x => decide (x.f1 ≤ now)) = false) := ⟨by rw [HS.out, HA.out, hd]; rfl⟩
    rw [hd] at hcl
    clear hd
    go_wp2_with (go_at_call 131; refine hcl.mono ?_; rintro e w1 ⟨rfl, hb1⟩; have HB1 := Aside0.mk (below_then HB.out HB.out.size hb1); clear hb1)
    go_roundw
    case rel => exact ⟨j + 1, by omega, by go_num, HE2, HB1⟩
    case measure => simp [intOf]; omega
   | true =>
    have HF2 := Aside0.mk (HF.out hd)
    rw [hd] at hcl
    clear hd
    go_wp2_with (go_at_call 131; refine hcl.mono ?_; rintro e w1 ⟨rfl, hb1⟩; have HB1 := Aside0.mk (below_then HB.out HB.out.size hb1); clear hb1)
    go_ret
    exact ⟨⟨(j : Int), rfl, by rw [HF2.out]; exact decide_eq_true (by omega)⟩, HB1.out⟩
  ·have hke : j = l.length := by omega
   subst hke
   have g1 : decide (l.length < l.length) = false := decide_eq_false (by omega)
   have HF : Aside0 (l.any (fun x => decide (x.f1 ≤ now)) = false) := ⟨by have h := HA.out; rwa [List.take_length] at h⟩
   go_wp2
   go_ret
   exact ⟨⟨-1, rfl, by rw [HF.out]; decide⟩, HB.out⟩
set_option maxRecDepth 100000 in
theorem dues_has (now : Int) (B : Nat) (A : Option Addr) (c : Nat) (l : List TOcc) (w : World) (hL : IsS kOcc w l A c) (hB : World.cell? w ⟨B, 0, none⟩ = some (.int .i64 now)) :
  Calls Tryz.prog 110 #[.slice A l.length c, .func (.func 131) #[] #[.pointer (some ⟨B, 0, none⟩)]] w fun e w' => e = .returned (.bool (l.any (fun x => decide (x.f1 ≤ now)))) ∧ Below w.heap.size w w' := by
 have HC := Aside0.mk (dues_idx now B A c l w hL hB)
 clear hL hB
 go_enter Tryz.func110, Tryz.ntmps110
 go_wp2_with (go_at_call 132; refine HC.out.mono ?_; rintro e w2 ⟨⟨r, rfl, hr⟩, hb⟩; have HR := Aside0.mk hr; have HB2 := Aside0.mk hb; clear hr hb)
 go_ret
 exact ⟨by (rw [← HR.out]; rfl), HB2.out⟩
end Go.Proofs.YtckblabkapeigaaGreat.Ow9
