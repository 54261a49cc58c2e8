
/- What the program's small functions on occurrences come to: is one right, which is ahead. One walk each. -/
import Derived.Test.YtckblabkapeigaaGreatNWd
import Derived.Test.YtckblabkapeigaaGreatProg
import Derived.Deep.RegionHeld3
set_option linter.unusedVariables false
set_option linter.unusedSimpArgs false
namespace Go.Proofs.YtckblabkapeigaaGreat.Ca
open Go.RowKit Go.Proofs.YtckblabkapeigaaGreatW.PrintWords Go.Proofs.YtckblabkapeigaaGreat.Wd Go.Proofs.YtckblabkapeigaaGreat.Pu

theorem in_any (n a b : Int) (w : World) : Calls Tryz.prog 54 #[.int .i64 n, .int .i64 a, .int .i64 b] w fun e w' => e = .returned (.bool (inb n a b)) ∧ w' = w := by
 unfold inb
 by_cases h : a ≤ n
 ·have h' : decide (a ≤ n) = true := decide_eq_true h
  go_enter Tryz.func54, Tryz.ntmps54
  go_wp2
  go_ret
  exact ⟨by simp [h], rfl⟩
 ·have h' : decide (a ≤ n) = false := decide_eq_false h
  go_enter Tryz.func54, Tryz.ntmps54
  go_wp2
  go_ret
  exact ⟨by simp [h], rfl⟩

theorem nan_any (n : Int) (w : World) : Calls Tryz.prog 145 #[.int .i64 n] w fun e w' => e = .returned (.bool false) ∧ w' = w := by
 go_enter Tryz.func145, Tryz.ntmps145
 go_wp2
 go_ret
 exact ⟨by simp, rfl⟩

def cmpI (x y : Int) : Int := if x < y then -1 else if y < x then 1 else 0
theorem cmpI_any (x y : Int) (w : World) : Calls Tryz.prog 144 #[.int .i64 x, .int .i64 y] w fun e w' => e = .returned (.int .i64 (cmpI x y)) ∧ w' = w := by
 by_cases h : x < y
 ·have HC := Aside0.mk (show cmpI x y = -1 by unfold cmpI; rw [if_pos h])
  go_enter Tryz.func144, Tryz.ntmps144
  go_wp2_with (go_at_call 145; refine (nan_any _ _).mono ?_; rintro e w' ⟨rfl, rfl⟩)
  go_ret
  exact ⟨by rw [HC.out]; rfl, rfl⟩
 ·have h1 : decide (x < y) = false := decide_eq_false h
  by_cases g : y < x
  ·have h2 : decide (x > y) = true := decide_eq_true g
   have HC := Aside0.mk (show cmpI x y = 1 by unfold cmpI; rw [if_neg h, if_pos g])
   go_enter Tryz.func144, Tryz.ntmps144
   go_wp2_with (go_at_call 145; refine (nan_any _ _).mono ?_; rintro e w' ⟨rfl, rfl⟩)
   go_ret
   exact ⟨by rw [HC.out]; rfl, rfl⟩
  ·have h2 : decide (x > y) = false := decide_eq_false g
   have HC := Aside0.mk (show cmpI x y = 0 by unfold cmpI; rw [if_neg h, if_neg g])
   go_enter Tryz.func144, Tryz.ntmps144
   go_wp2_with (go_at_call 145; refine (nan_any _ _).mono ?_; rintro e w' ⟨rfl, rfl⟩)
   go_ret
   exact ⟨by rw [HC.out]; rfl, rfl⟩

theorem cmpIds_at (a b : List Int) (k : Nat) (ha : k < a.length) (hb : k < b.length) : cmpIds (a.drop k) (b.drop k) = if cmpI (a.getD k 0) (b.getD k 0) = 0 then cmpIds (a.drop (k + 1)) (b.drop (k + 1)) else cmpI (a.getD k 0) (b.getD k 0) := by
 rw [drop_at a 0 k ha, drop_at b 0 k hb, cmpIds]
 unfold cmpI
 split
 ·simp
 ·split <;> simp

theorem cmpIds_any (A B : Option Addr) (c c2 : Nat) (a b : List Int) (w : World) (ha : (Kd.int .i64).C w A a.length a) (hb : (Kd.int .i64).C w B b.length b) :
  Calls Tryz.prog 143 #[.slice A a.length c, .slice B b.length c2] w fun e w' => e = .returned (.int .i64 (cmpIds a b)) ∧ w' = w := by
 have hn := (C_len ha).2
 have hn2 := (C_len hb).2
 go_enter Tryz.func143, Tryz.ntmps143
 go_wp2
 go_loop [11] (fun i => ∃ k : Nat, k ≤ a.length ∧ k ≤ b.length ∧ i = .int .i64 k ∧ Aside0 (cmpIds a b = cmpIds (a.drop k) (b.drop k))) (fun i => a.length - (intOf i).toNat)
 case atStart => exact ⟨0, Nat.zero_le _, Nat.zero_le _, rfl, ⟨rfl⟩⟩
 case round =>
  obtain ⟨k, hk, hk2, rfl, HH⟩ := hrel
  by_cases hlt : k < a.length
  ·obtain ⟨ad, rfl, hc⟩ := at1 ha k hlt
   by_cases hlt2 : k < b.length
   ·obtain ⟨ad2, rfl, hc2⟩ := at1 hb k hlt2
    have hg : decide ((k : Int) ≥ b.length) = false := by simp; omega
    have HS := Aside0.mk (cmpIds_at a b k hlt hlt2)
    have hcl := cmpI_any (a.getD k 0) (b.getD k 0)
    generalize a.getD k 0 = x at hc HS hcl
    generalize b.getD k 0 = y at hc2 HS hcl
    by_cases hz : cmpI x y = 0
    ·have HS2 := Aside0.mk (show cmpIds a b = cmpIds (a.drop (k + 1)) (b.drop (k + 1)) by rw [HH.out, HS.out, if_pos hz])
     rw [hz] at hcl
     clear hz
     go_wp2_with (go_at_call 144; refine (hcl _).mono ?_; rintro e w' ⟨rfl, rfl⟩)
     go_round
     case rel => exact ⟨k + 1, by omega, by omega, by go_num, HS2⟩
     case measure => simp [intOf]; omega
    ·have HS2 := Aside0.mk (show cmpIds a b = cmpI x y by rw [HH.out, HS.out, if_neg hz])
     have hz2 : (cmpI x y != 0) = true := by simpa using hz
     clear hz
     go_wp2_with (go_at_call 144; refine (hcl _).mono ?_; rintro e w' ⟨rfl, rfl⟩)
     go_ret
     exact ⟨by rw [HS2.out]; rfl, rfl⟩
   ·have hg : decide ((k : Int) ≥ b.length) = true := by simp; omega
    have HS2 := Aside0.mk (show cmpIds a b = 1 by rw [HH.out, List.drop_of_length_le (l := b) (by omega), drop_at a 0 k hlt, cmpIds])
    go_wp2
    go_ret
    exact ⟨by rw [HS2.out]; rfl, rfl⟩
  ·have hke : k = a.length := by omega
   by_cases hl : a.length < b.length
   ·have hl2 : decide (a.length < b.length) = true := decide_eq_true hl
    have HS2 := Aside0.mk (show cmpIds a b = -1 by rw [HH.out, List.drop_of_length_le (l := a) (by omega), drop_at b 0 k (by omega), cmpIds])
    clear hke
    go_wp2
    go_ret
    exact ⟨by rw [HS2.out]; rfl, rfl⟩
   ·have hl2 : decide (a.length < b.length) = false := decide_eq_false hl
    have HS2 := Aside0.mk (show cmpIds a b = 0 by rw [HH.out, List.drop_of_length_le (l := a) (by omega), List.drop_of_length_le (l := b) (by omega), cmpIds])
    clear hke
    go_wp2
    go_ret
    exact ⟨by rw [HS2.out]; rfl, rfl⟩

def sgn (b : Bool) : Int := if b = true then -1 else 1
theorem sign_any (b : Bool) (w : World) : Calls Tryz.prog 142 #[.bool b] w fun e w' => e = .returned (.int .i64 (sgn b)) ∧ w' = w := by
 cases b with
 | true =>
  go_enter Tryz.func142, Tryz.ntmps142
  go_wp2
  go_ret
  exact ⟨rfl, rfl⟩
 | false =>
  go_enter Tryz.func142, Tryz.ntmps142
  go_wp2
  go_ret
  exact ⟨rfl, rfl⟩

theorem compare_any (x y : Occ) (A B : Option Addr) (c c2 : Nat) (w : World) (hx : IsO w x A c) (hy : IsO w y B c2) :
  Calls Tryz.prog 141 #[.agg #[.int .i64 x.f0, .int .i64 x.f1, .slice A x.f2.length c], .agg #[.int .i64 y.f0, .int .i64 y.f1, .slice B y.f2.length c2]] w fun e w' => e = .returned (.int .i64 (cmpO x y)) ∧ Below w.heap.size w w' := by
 by_cases h : x.f1 = y.f1
 ·by_cases g : x.f0 = y.f0
  ·have HC := Aside0.mk (show cmpO x y = cmpIds x.f2 y.f2 by unfold cmpO; rw [if_pos h, if_pos g])
   have h1 : (x.f1 != y.f1) = false := by simpa using h
   have g1 : (x.f0 != y.f0) = false := by simpa using g
   have hb : Below w.heap.size w ((w.alloc (.cells #[.int .i64 x.f0, .int .i64 x.f1, .slice A x.f2.length c] 54)).alloc (.cells #[.int .i64 y.f0, .int .i64 y.f1, .slice B y.f2.length c2] 54)) := by repeat (first | exact Below.refl _ _ | apply below_alloc)
   have hcl := cmpIds_any A B c c2 x.f2 y.f2 _ (Kd.C_below hx.2 hb) (Kd.C_below hy.2 hb)
   clear h g
   have HB := Aside0.mk hb
   clear hb
   go_enter Tryz.func141, Tryz.ntmps141
   go_wp2_with (go_at_call 143; refine hcl.mono ?_; rintro e w' ⟨rfl, rfl⟩)
   go_ret
   exact ⟨by rw [HC.out]; rfl, HB.out⟩
  ·have h1 : (x.f1 != y.f1) = false := by simpa using h
   have g1 : (x.f0 != y.f0) = true := by simpa using g
   have HC := Aside0.mk (show cmpO x y = sgn (decide (x.f0 < y.f0)) by unfold cmpO sgn; rw [if_pos h, if_neg g]; simp)
   clear h g
   go_enter Tryz.func141, Tryz.ntmps141
   go_wp2_with (go_at_call 142; refine (sign_any _ _).mono ?_; rintro e w' ⟨rfl, rfl⟩)
   go_ret
   exact ⟨by rw [HC.out]; rfl, by repeat (first | exact Below.refl _ _ | apply below_alloc)⟩
 ·have h1 : (x.f1 != y.f1) = true := by simpa using h
  have HC := Aside0.mk (show cmpO x y = sgn (decide (x.f1 < y.f1)) by unfold cmpO sgn; rw [if_neg h]; simp)
  clear h
  go_enter Tryz.func141, Tryz.ntmps141
  go_wp2_with (go_at_call 142; refine (sign_any _ _).mono ?_; rintro e w' ⟨rfl, rfl⟩)
  go_ret
  exact ⟨by rw [HC.out]; rfl, by repeat (first | exact Below.refl _ _ | apply below_alloc)⟩

theorem occLess_any (x y : Occ) (A B : Option Addr) (c c2 : Nat) (w : World) (hx : IsO w x A c) (hy : IsO w y B c2) :
  Calls Tryz.prog 139 #[.agg #[.int .i64 x.f0, .int .i64 x.f1, .slice A x.f2.length c], .agg #[.int .i64 y.f0, .int .i64 y.f1, .slice B y.f2.length c2]] w fun e w' => e = .returned (.bool (decide (cmpO x y < 0))) ∧ Below w.heap.size w w' := by
 have hb : Below w.heap.size w ((w.alloc (.cells #[.int .i64 x.f0, .int .i64 x.f1, .slice A x.f2.length c] 54)).alloc (.cells #[.int .i64 y.f0, .int .i64 y.f1, .slice B y.f2.length c2] 54)) := by repeat (first | exact Below.refl _ _ | apply below_alloc)
 have hcl := compare_any x y A B c c2 _ (hx.below hb) (hy.below hb)
 have HB := Aside0.mk hb
 clear hb
 go_enter Tryz.func139, Tryz.ntmps139
 go_wp2_with (go_at_call 141; refine hcl.mono ?_; rintro e w' ⟨rfl, hb'⟩)
 go_ret
 exact ⟨rfl, below_then HB.out HB.out.size hb'⟩

theorem occOk_any (x : Occ) (A : Option Addr) (c : Nat) (w : World) (hx : IsO w x A c) :
  Calls Tryz.prog 57 #[.agg #[.int .i64 x.f0, .int .i64 x.f1, .slice A x.f2.length c]] w fun e w' => e = .returned (.bool (okO x)) ∧ Below w.heap.size w w' := by
 have hn := (C_len hx.2).2
 have hb : Below w.heap.size w (w.alloc (.cells #[.int .i64 x.f0, .int .i64 x.f1, .slice A x.f2.length c] 54)) := by repeat (first | exact Below.refl _ _ | apply below_alloc)
 have hC := Kd.C_below hx.2 hb
 have HB := Aside0.mk hb
 clear hb
 have HK0 : ∀ b, okIds (-1) x.f2 = b → okO x = (b && (decide (1 ≤ x.f0) && inb x.f1 x.f0 2000 && decide (1 ≤ x.f2.length))) := fun b h => by unfold okO; rw [h]
 have HK := Aside0.mk HK0
 clear HK0
 go_enter Tryz.func57, Tryz.ntmps57
 go_wp2
 go_loop [3, 9] (fun l i => ∃ (k : Nat) (last : Int), k ≤ x.f2.length ∧ -1 ≤ last ∧ last ≤ 23 ∧ i = .int .i64 k ∧ l = .int .i64 last ∧ Aside0 (okIds (-1) x.f2 = okIds last (x.f2.drop k))) (fun _ i => x.f2.length - (intOf i).toNat)
 case atStart => exact ⟨0, -1, Nat.zero_le _, by omega, by omega, rfl, rfl, ⟨rfl⟩⟩
 case round =>
  obtain ⟨k, last, hk, hl1, hl2, rfl, rfl, HH⟩ := hrel
  by_cases hlt : k < x.f2.length
  ·obtain ⟨ad, rfl, hc⟩ := at1 hC k hlt
   have HD := Aside0.mk (drop_at x.f2 0 k hlt)
   generalize x.f2.getD k 0 = i at hc HD
   cases hq : inb i (last + 1) 23 with
   | true =>
    have HS := Aside0.mk (show okIds (-1) x.f2 = okIds i (x.f2.drop (k + 1)) by rw [HH.out, HD.out, okIds, hq]; rfl)
    have hi : -1 ≤ i ∧ i ≤ 23 := by unfold inb at hq; simp at hq; omega
    obtain ⟨hi1, hi2⟩ := hi
    have hin := in_any i (last + 1) 23
    rw [hq] at hin
    clear hq
    go_wp2_with (go_at_call 54; refine (hin _).mono ?_; rintro e w' ⟨rfl, rfl⟩)
    go_round
    case rel => exact ⟨k + 1, i, by omega, hi1, hi2, by go_num, rfl, HS⟩
    case measure => simp [intOf]; omega
   | false =>
    have HS := Aside0.mk (show okO x = false by rw [HK.out false (by rw [HH.out, HD.out, okIds, hq]; rfl)]; rfl)
    have hin := in_any i (last + 1) 23
    rw [hq] at hin
    clear hq
    go_wp2_with (go_at_call 54; refine (hin _).mono ?_; rintro e w' ⟨rfl, rfl⟩)
    go_ret
    exact ⟨by rw [HS.out]; rfl, HB.out⟩
  ·have HS := Aside0.mk (HK.out true (by rw [HH.out, List.drop_of_length_le (by omega), okIds]))
   by_cases hf : 1 ≤ x.f0
   ·cases hq : inb x.f1 x.f0 2000 with
    | true =>
     have HS2 := Aside0.mk (show okO x = decide (1 ≤ x.f2.length) by rw [HS.out, hq]; simp [hf])
     have hin := in_any x.f1 x.f0 2000
     rw [hq] at hin
     clear hq
     go_wp2_with (go_at_call 54; refine (hin _).mono ?_; rintro e w' ⟨rfl, rfl⟩)
     go_ret
     refine ⟨?_, HB.out⟩
     rw [HS2.out]
     refine ret_bool ?_
     by_cases h1 : 1 ≤ x.f2.length
     ·rw [decide_eq_true h1]; simp; omega
     ·rw [decide_eq_false h1]; simp; omega
    | false =>
     have HS2 := Aside0.mk (show okO x = false by rw [HS.out, hq]; simp)
     have hin := in_any x.f1 x.f0 2000
     rw [hq] at hin
     clear hq
     go_wp2_with (go_at_call 54; refine (hin _).mono ?_; rintro e w' ⟨rfl, rfl⟩)
     go_ret
     exact ⟨by rw [HS2.out]; rfl, HB.out⟩
   ·have hf2 : decide (1 ≤ x.f0) = false := decide_eq_false hf
    have HS2 := Aside0.mk (show okO x = false by rw [HS.out, hf2]; simp)
    clear hf
    go_wp2
    go_ret
    exact ⟨by rw [HS2.out]; rfl, HB.out⟩
end Go.Proofs.YtckblabkapeigaaGreat.Ca
