
/- Occurrences, pairs, spans that are valid: both sides. Out of this proof's own texts. -/
import Derived.Test.YtckblabkapeigaaGreatNCb
set_option linter.unusedVariables false
set_option linter.unusedSimpArgs false
namespace Go.Proofs.YtckblabkapeigaaGreat.Oc
open Go.RowKit Go.Proofs.YtckblabkapeigaaGreatW.PrintWords Go.Proofs.YtckblabkapeigaaGreat.Wd Go.Proofs.YtckblabkapeigaaGreat.Pu Go.Proofs.YtckblabkapeigaaGreat.Ca Go.Proofs.YtckblabkapeigaaGreat.Cb
/-- a list in memory with its capacity -/
structure IsL (w : World) (l : List Occ) (A : Option Addr) (c : Nat) : Prop where
 cap : l.length ≤ c
 rd : kO.C w A l.length l
theorem box3 (w : World) (u0 u1 u2 : Value) (t : TypeId) : Below w.heap.size w (w.alloc (.cells #[u0, u1, u2] t)) ∧ (w.alloc (.cells #[u0, u1, u2] t)).cell? ⟨w.heap.size, 0, none⟩ = some u0 ∧
  (w.alloc (.cells #[u0, u1, u2] t)).cell? ⟨w.heap.size, 1, none⟩ = some u1 ∧ (w.alloc (.cells #[u0, u1, u2] t)).cell? ⟨w.heap.size, 2, none⟩ = some u2 := ⟨below_alloc (Below.refl _ _) _, by simp, by simp, by simp⟩
theorem IsL.below {w w' : World} {l : List Occ} {A : Option Addr} {c : Nat} (h : IsL w l A c) (hb : Below w.heap.size w w') : IsL w' l A c := ⟨h.cap, Kd.C_below h.rd hb⟩
theorem cmpIds_cons {a b : List Int} {k : Nat} (h : k < a.length) (h2 : k < b.length) : cmpIds (a.drop k) (b.drop k) = if a.getD k 0 < b.getD k 0 then -1 else if b.getD k 0 < a.getD k 0 then 1 else cmpIds (a.drop (k + 1)) (b.drop (k + 1)) := by
 rw [drop_at a 0 k h, drop_at b 0 k h2, cmpIds]

set_option maxRecDepth 100000 in
theorem ids_any (A B : Option Addr) (c c2 : Nat) (a b : List Int) (w : World) (ha : (Kd.int .i64).C w A a.length a) (hb : (Kd.int .i64).C w B b.length b) :
  Calls Tryz.prog 136 #[.slice A a.length c, .slice B b.length c2] w fun e w' => e = .returned (.int .i64 (cmpIds a b)) ∧ Below w.heap.size w w' := by
 have hn := (C_len ha).2
 have hn2 := (C_len hb).2
 go_enter Tryz.func136, Tryz.ntmps136
 go_wp2
 go_loopw [5] (fun vi wr => ∃ k : Nat, k ≤ a.length ∧ k ≤ b.length ∧ vi = .int .i64 k ∧ Aside0 (cmpIds a b = cmpIds (a.drop k) (b.drop k)) ∧ Aside0 (Below w.heap.size w wr)) (fun vi _ => a.length - (intOf vi).toNat)
 case atStart => exact ⟨0, Nat.zero_le _, Nat.zero_le _, rfl, ⟨rfl⟩, ⟨Below.refl _ _⟩⟩
 case round =>
  obtain ⟨k, hk, hk2, rfl, HH, HB⟩ := hrel
  by_cases hlt : k < a.length
  ·by_cases hlt2 : k < b.length
   ·have g1 : decide (k < a.length) = true := decide_eq_true hlt
    have g2 : decide (k < b.length) = true := decide_eq_true hlt2
    have i1 : (k : Int) < a.length := by omega
    have i2 : (k : Int) < b.length := by omega
    obtain ⟨ad, rfl, hc⟩ := at1 (Kd.C_below ha HB.out) k hlt
    obtain ⟨ad2, rfl, hc2⟩ := at1 (Kd.C_below hb HB.out) k hlt2
    have HS := Aside0.mk (HH.out.trans (cmpIds_cons hlt hlt2))
    generalize a.getD k 0 = x at hc HS
    generalize b.getD k 0 = y at hc2 HS
    replace hc := cellE hc
    replace hc2 := cellE hc2
    by_cases hxy : x < y
    ·have t1 : decide (x < y) = true := decide_eq_true hxy
     have HE := Aside0.mk (show cmpIds a b = -1 by rw [HS.out, if_pos hxy])
     go_wp2
     refine region_ext (W := wr) (Below.refl _ _) (by kernel_rfl) (by kernel_rfl) ?_
     repeat (first | go_big_quiet_step (fail) | quiet_step (fail))
     refine wpQuiet_nil ?_
     rintro _ ⟨s, rfl⟩
     have HB3 := Aside0.mk (below_then HB.out HB.out.size s.2)
     generalize s.1 = W2 at HB3
     go_wp2
     go_ret
     exact ⟨by rw [HE.out]; rfl, HB3.out⟩
    ·have t1 : decide (x < y) = false := decide_eq_false hxy
     by_cases hyx : y < x
     ·have t2 : decide (x > y) = true := decide_eq_true hyx
      have HE := Aside0.mk (show cmpIds a b = 1 by rw [HS.out, if_neg hxy, if_pos hyx])
      go_wp2
      refine region_ext (W := wr) (Below.refl _ _) (by kernel_rfl) (by kernel_rfl) ?_
      repeat (first | go_big_quiet_step (fail) | quiet_step (fail))
      refine wpQuiet_nil ?_
      rintro _ ⟨s, rfl⟩
      have HB3 := Aside0.mk (below_then HB.out HB.out.size s.2)
      have hc3 := fun s2 : Ext s.1 => hc ⟨s2.1, below_then s.2 s.2.size s2.2⟩
      have hc4 := fun s2 : Ext s.1 => hc2 ⟨s2.1, below_then s.2 s.2.size s2.2⟩
      simp only [] at hc3 hc4
      generalize s.1 = W2 at HB3 hc3 hc4 ⊢
      go_wp2
      refine region_ext (W := W2) (Below.refl _ _) (by kernel_rfl) (by kernel_rfl) ?_
      repeat (first | go_big_quiet_step (fail) | quiet_step (fail))
      refine wpQuiet_nil ?_
      rintro _ ⟨s3, rfl⟩
      have HB4 := Aside0.mk (below_then HB3.out HB3.out.size s3.2)
      generalize s3.1 = W3 at HB4
      go_wp2
      go_ret
      exact ⟨by rw [HE.out]; rfl, HB4.out⟩
     ·have t2 : decide (x > y) = false := decide_eq_false hyx
      have HE := Aside0.mk (show cmpIds a b = cmpIds (a.drop (k + 1)) (b.drop (k + 1)) by rw [HS.out, if_neg hxy, if_neg hyx])
      go_wp2
      refine region_ext (W := wr) (Below.refl _ _) (by kernel_rfl) (by kernel_rfl) ?_
      repeat (first | go_big_quiet_step (fail) | quiet_step (fail))
      refine wpQuiet_nil ?_
      rintro _ ⟨s, rfl⟩
      have HB3 := Aside0.mk (below_then HB.out HB.out.size s.2)
      have hc3 := fun s2 : Ext s.1 => hc ⟨s2.1, below_then s.2 s.2.size s2.2⟩
      have hc4 := fun s2 : Ext s.1 => hc2 ⟨s2.1, below_then s.2 s.2.size s2.2⟩
      simp only [] at hc3 hc4
      generalize s.1 = W2 at HB3 hc3 hc4 ⊢
      go_wp2
      refine region_ext (W := W2) (Below.refl _ _) (by kernel_rfl) (by kernel_rfl) ?_
      repeat (first | go_big_quiet_step (fail) | quiet_step (fail))
      refine wpQuiet_nil ?_
      rintro _ ⟨s3, rfl⟩
      have HB4 := Aside0.mk (below_then HB3.out HB3.out.size s3.2)
      generalize s3.1 = W3 at HB4
      go_wp2
      go_roundw
      case rel => exact ⟨k + 1, by omega, by omega, by go_num, HE, HB4⟩
      case measure => simp [intOf]; omega
   ·have g1 : decide (k < a.length) = true := decide_eq_true hlt
    have g2 : decide (k < b.length) = false := decide_eq_false hlt2
    have l1 : decide (a.length < b.length) = false := decide_eq_false (by omega)
    have l2 : decide (a.length > b.length) = true := decide_eq_true (by omega)
    have l3 : decide (b.length < a.length) = true := decide_eq_true (by omega)
    have i1 : (k : Int) < a.length := by omega
    have i2 : ¬ (k : Int) < b.length := by omega
    have HE := Aside0.mk (show cmpIds a b = 1 by rw [HH.out, List.drop_of_length_le (l := b) (by omega), drop_at a 0 k hlt, cmpIds])
    go_wp2
    go_ret
    exact ⟨by rw [HE.out]; rfl, HB.out⟩
  ·have hke : k = a.length := by omega
   have g1 : decide (k < a.length) = false := decide_eq_false hlt
   have l2 : decide (a.length > b.length) = false := decide_eq_false (by omega)
   have l3 : decide (b.length < a.length) = false := decide_eq_false (by omega)
   have i1 : ¬ (k : Int) < a.length := by omega
   by_cases hl : a.length < b.length
   ·have hl2 : decide (a.length < b.length) = true := decide_eq_true hl
    have HE := Aside0.mk (show cmpIds a b = -1 by rw [HH.out, List.drop_of_length_le (l := a) (by omega), drop_at b 0 k (by omega), cmpIds])
    clear hke
    go_wp2
    go_ret
    exact ⟨by rw [HE.out]; rfl, HB.out⟩
   ·have hl2 : decide (a.length < b.length) = false := decide_eq_false hl
    have HE := Aside0.mk (show cmpIds a b = 0 by rw [HH.out, List.drop_of_length_le (l := a) (by omega), List.drop_of_length_le (l := b) (by omega), cmpIds])
    clear hke
    go_wp2
    go_ret
    exact ⟨by rw [HE.out]; rfl, HB.out⟩
theorem sLess_any (x y : Occ) (A B : Option Addr) (c c2 : Nat) (w : World) (hx : IsO w x A c) (hy : IsO w y B c2) :
  Calls Tryz.prog 119 #[.agg #[.int .i64 x.f0, .int .i64 x.f1, .slice A x.f2.length c], .agg #[.int .i64 y.f0, .int .i64 y.f1, .slice B y.f2.length c2]] w fun e w' => e = .returned (.bool (decide (cmpO x y < 0))) ∧ Below w.heap.size w w' := by
 by_cases h : x.f1 = y.f1
 ·by_cases g : x.f0 = y.f0
  ·have HC := Aside0.mk (show cmpO x y = cmpIds x.f2 y.f2 by unfold cmpO; rw [if_pos h, if_pos g])
   have h1 : (x.f1 != y.f1) = false := by simpa using h
   have g1 : (x.f0 != y.f0) = false := by simpa using g
   have hb : Below w.heap.size w ((w.alloc (.cells #[.int .i64 x.f0, .int .i64 x.f1, .slice A x.f2.length c] 54)).alloc (.cells #[.int .i64 y.f0, .int .i64 y.f1, .slice B y.f2.length c2] 54)) := by repeat (first | exact Below.refl _ _ | apply below_alloc)
   have hcl := ids_any A B c c2 x.f2 y.f2 _ (Kd.C_below hx.2 hb) (Kd.C_below hy.2 hb)
   clear h g
   have HB := Aside0.mk hb
   clear hb
   go_enter Tryz.func119, Tryz.ntmps119
   go_wp2_with (go_at_call 136; refine hcl.mono ?_; rintro e w' ⟨rfl, hw⟩; have HB2 := Aside0.mk (below_then HB.out HB.out.size hw); clear hw)
   go_ret
   exact ⟨by rw [HC.out]; rfl, HB2.out⟩
  ·have h1 : (x.f1 != y.f1) = false := by simpa using h
   have g1 : (x.f0 != y.f0) = true := by simpa using g
   have HC := Aside0.mk (show decide (cmpO x y < 0) = decide (x.f0 < y.f0) by unfold cmpO; rw [if_pos h, if_neg g]; split <;> simp [*])
   clear h g
   go_enter Tryz.func119, Tryz.ntmps119
   go_wp2
   go_ret
   exact ⟨by rw [HC.out]; rfl, by repeat (first | exact Below.refl _ _ | apply below_alloc)⟩
 ·have h1 : (x.f1 != y.f1) = true := by simpa using h
  have HC := Aside0.mk (show decide (cmpO x y < 0) = decide (x.f1 < y.f1) by unfold cmpO; rw [if_neg h]; split <;> simp [*])
  clear h
  go_enter Tryz.func119, Tryz.ntmps119
  go_wp2
  go_ret
  exact ⟨by rw [HC.out]; rfl, by repeat (first | exact Below.refl _ _ | apply below_alloc)⟩

theorem okIds_len : ∀ {l : List Int} {last : Int}, last ≤ 23 → okIds last l = true → (l.length : Int) ≤ 23 - last
 | [], _, h, _ => by simp; omega
 | z :: l, last, h, hk => by
  simp only [okIds, inb, Bool.and_eq_true, decide_eq_true_eq] at hk
  have := okIds_len hk.1.2 hk.2
  simp only [List.length_cons]
  omega
/-- the number ahead of place k -/
def pre (ids : List Int) (k : Nat) : Int := if k = 0 then -1 else ids.getD (k - 1) 0

set_option maxHeartbeats 1000000 in
set_option maxRecDepth 100000 in
theorem sOccOk_any (x : Occ) (A : Option Addr) (c : Nat) (w : World) (hx : IsO w x A c) :
  Calls Tryz.prog 42 #[.agg #[.int .i64 x.f0, .int .i64 x.f1, .slice A x.f2.length c]] w fun e w' => e = .returned (.bool (okO x)) ∧ Below w.heap.size w w' := by
 obtain ⟨hb, k0, k1, k2⟩ := box3 w (.int .i64 x.f0) (.int .i64 x.f1) (.slice A x.f2.length c) 54
 obtain ⟨n, hn⟩ : ∃ n, n = x.f2.length := ⟨_, rfl⟩
 have hnb := (C_len hx.2).2
 rw [← hn] at k0 k1 k2 hb hnb ⊢
 have HX := Aside0.mk hx
 have HN := Aside0.mk hn
 clear hx
 by_cases h1 : x.f0 < 1
 ·have d1 : decide (x.f0 < 1) = true := decide_eq_true h1
  have HF := Aside0.mk (show okO x = false by unfold okO; rw [decide_eq_false (show ¬ 1 ≤ x.f0 by omega)]; simp)
  clear hn
  go_enter Tryz.func42, Tryz.ntmps42
  go_wp2
  go_ret
  exact ⟨by rw [HF.out]; rfl, hb⟩
 have d1 : decide (x.f0 < 1) = false := decide_eq_false h1
 by_cases h2 : x.f1 < x.f0
 ·have d2 : decide (x.f1 < x.f0) = true := decide_eq_true h2
  have HF := Aside0.mk (show okO x = false by unfold okO inb; rw [decide_eq_false (show ¬ x.f0 ≤ x.f1 by omega)]; simp)
  clear hn
  go_enter Tryz.func42, Tryz.ntmps42
  go_wp2
  go_ret
  exact ⟨by rw [HF.out]; rfl, hb⟩
 have d2 : decide (x.f1 < x.f0) = false := decide_eq_false h2
 by_cases h3 : x.f1 > 2000
 ·have d3 : decide (x.f1 > 2000) = true := decide_eq_true h3
  have HF := Aside0.mk (show okO x = false by unfold okO inb; rw [decide_eq_false (show ¬ x.f1 ≤ 2000 by omega)]; simp)
  clear hn
  go_enter Tryz.func42, Tryz.ntmps42
  go_wp2
  go_ret
  exact ⟨by rw [HF.out]; rfl, hb⟩
 have d3 : decide (x.f1 > 2000) = false := decide_eq_false h3
 by_cases h4 : n = 0
 ·have HF := Aside0.mk (show okO x = false by unfold okO; rw [decide_eq_false (show ¬ 1 ≤ x.f2.length by omega)]; simp)
  subst h4
  clear hn
  go_enter Tryz.func42, Tryz.ntmps42
  go_wp2
  go_ret
  exact ⟨by rw [HF.out]; rfl, hb⟩
 have d4 : decide ((n : Int) < 1) = false := decide_eq_false (by omega)
 by_cases h5 : n > 24
 ·have d5 : decide ((n : Int) > 24) = true := decide_eq_true (by omega)
  have HF := Aside0.mk (show okO x = false by
   cases hk : okO x with
   | false => rfl
   | true =>
    unfold okO at hk
    simp only [Bool.and_eq_true] at hk
    have := okIds_len (by omega) hk.1
    omega)
  clear hn
  go_enter Tryz.func42, Tryz.ntmps42
  go_wp2
  go_ret
  exact ⟨by rw [HF.out]; rfl, hb⟩
 have d5 : decide ((n : Int) > 24) = false := decide_eq_false (by omega)
 have HO := Aside0.mk (show okO x = okIds (-1) x.f2 by
  unfold okO inb
  rw [decide_eq_true (show 1 ≤ x.f0 by omega), decide_eq_true (show x.f0 ≤ x.f1 by omega), decide_eq_true (show x.f1 ≤ 2000 by omega), decide_eq_true (show 1 ≤ x.f2.length by omega)]
  simp)
 have hC := Kd.C_below HX.out.2 hb
 have HB0 := Aside0.mk hb
 clear hn hb h1 h2 h3
 go_enter Tryz.func42, Tryz.ntmps42
 go_wp2
 generalize w.alloc (.cells #[.int .i64 x.f0, .int .i64 x.f1, .slice A n c] 54) = W at k0 k1 k2 hC HB0 ⊢
 go_loopw [3] (fun vi wr => ∃ k : Nat, k ≤ n ∧ vi = .int .i64 k ∧ Aside0 (okO x = okIds (pre x.f2 k) (x.f2.drop k) ∧ -1 ≤ pre x.f2 k) ∧ Aside0 (Below W.heap.size W wr)) (fun vi _ => n - (intOf vi).toNat)
 case atStart => exact ⟨0, Nat.zero_le _, rfl, ⟨by rw [HO.out]; rfl, by simp [pre]⟩, ⟨Below.refl _ _⟩⟩
 case round =>
  obtain ⟨k, hk, rfl, HI, HB⟩ := hrel
  by_cases hlt : k < n
  ·have g1 : decide (k < n) = true := decide_eq_true hlt
   have i1 : (k : Int) < n := by omega
   have hkl : k < x.f2.length := by have := HN.out; omega
   obtain ⟨ad, rfl, hc⟩ := at1 (Kd.C_below hC HB.out) k hkl
   have HD := Aside0.mk (show okO x = (inb (x.f2.getD k 0) (pre x.f2 k + 1) 23 && okIds (x.f2.getD k 0) (x.f2.drop (k + 1))) by rw [HI.out.1, drop_at x.f2 0 k hkl, okIds])
   have HP := Aside0.mk (show pre x.f2 (k + 1) = x.f2.getD k 0 by simp [pre])
   obtain ⟨z, hz⟩ : ∃ z, z = x.f2.getD k 0 := ⟨_, rfl⟩
   rw [← hz] at hc HD HP
   have HZ := Aside0.mk hz
   clear hz
   have q2 := pw_cell_below HB.out k2
   have e2 := cellE q2
   replace hc := cellE hc
   by_cases z0 : z < 0
   ·have t1 : decide (z < 0) = true := decide_eq_true z0
    have HF := Aside0.mk (show okO x = false by rw [HD.out]; unfold inb; rw [decide_eq_false (show ¬ pre x.f2 k + 1 ≤ z by have := HI.out.2; omega)]; rfl)
    go_wp2
    refine region_ext (W := wr) (Below.refl _ _) (by kernel_rfl) (by kernel_rfl) ?_
    repeat (first | go_big_quiet_step (fail) | quiet_step (fail))
    refine wpQuiet_nil ?_
    rintro _ ⟨s, rfl⟩
    have HB3 := Aside0.mk (below_then HB0.out HB0.out.size (below_then HB.out HB.out.size s.2))
    generalize s.1 = W2 at HB3
    go_wp2
    go_ret
    exact ⟨by rw [HF.out]; rfl, HB3.out⟩
   have t1 : decide (z < 0) = false := decide_eq_false z0
   by_cases z24 : z ≥ 24
   ·have t2 : decide (z ≥ 24) = true := decide_eq_true z24
    have HF := Aside0.mk (show okO x = false by rw [HD.out]; unfold inb; rw [decide_eq_false (show ¬ z ≤ 23 by omega)]; simp)
    go_wp2
    refine region_ext (W := wr) (Below.refl _ _) (by kernel_rfl) (by kernel_rfl) ?_
    repeat (first | go_big_quiet_step (fail) | quiet_step (fail))
    refine wpQuiet_nil ?_
    rintro _ ⟨s, rfl⟩
    have HB3 := Aside0.mk (below_then HB0.out HB0.out.size (below_then HB.out HB.out.size s.2))
    generalize s.1 = W2 at HB3
    go_wp2
    go_ret
    exact ⟨by rw [HF.out]; rfl, HB3.out⟩
   have t2 : decide (z ≥ 24) = false := decide_eq_false z24
   by_cases k0' : k = 0
   ·have HS : Aside0 (okO x = okIds (pre x.f2 (k + 1)) (x.f2.drop (k + 1)) ∧ -1 ≤ pre x.f2 (k + 1)) := ⟨by
     rw [HP.out, HD.out]
     refine ⟨?_, by omega⟩
     unfold inb
     rw [decide_eq_true (show pre x.f2 k + 1 ≤ z by rw [k0']; simp [pre]; omega), decide_eq_true (show z ≤ 23 by omega)]
     rfl⟩
    have j1 : decide ((k : Int) > 0) = false := decide_eq_false (by omega)
    have j2 : decide (0 < k) = false := decide_eq_false (by omega)
    clear z0 z24 k0'
    go_wp2
    refine region_ext (W := wr) (Below.refl _ _) (by kernel_rfl) (by kernel_rfl) ?_
    repeat (first | go_big_quiet_step (fail) | quiet_step (fail))
    refine wpQuiet_nil ?_
    rintro _ ⟨s, rfl⟩
    have HB3 := Aside0.mk (below_then HB.out HB.out.size s.2)
    generalize s.1 = W2 at HB3
    go_wp2
    go_roundw
    case rel => exact ⟨k + 1, by omega, by go_num, HS, HB3⟩
    case measure => simp [intOf]; omega
   ·have j1 : decide ((k : Int) > 0) = true := decide_eq_true (by omega)
    have j2 : decide (0 < k) = true := decide_eq_true (by omega)
    have hk0 : 0 < k := by omega
    obtain ⟨ad2, e, hcp⟩ := at1 (Kd.C_below hC HB.out) (k - 1) (by omega)
    cases e
    have HPR := Aside0.mk (show pre x.f2 k = x.f2.getD (k - 1) 0 by unfold pre; rw [if_neg (by omega)])
    obtain ⟨q, hq⟩ : ∃ q, q = x.f2.getD (k - 1) 0 := ⟨_, rfl⟩
    rw [← hq] at hcp HPR
    clear hq
    replace hcp := cellE hcp
    by_cases hzq : z ≤ q
    ·have t3 : decide (z ≤ q) = true := decide_eq_true hzq
     have HF := Aside0.mk (show okO x = false by rw [HD.out, HPR.out]; unfold inb; rw [decide_eq_false (show ¬ q + 1 ≤ z by omega)]; rfl)
     clear z0 z24 hzq
     go_wp2
     refine region_ext (W := wr) (Below.refl _ _) (by kernel_rfl) (by kernel_rfl) ?_
     repeat (first | go_big_quiet_step (fail) | quiet_step (fail))
     refine wpQuiet_nil ?_
     rintro _ ⟨s, rfl⟩
     have HB3 := Aside0.mk (below_then HB0.out HB0.out.size (below_then HB.out HB.out.size s.2))
     generalize s.1 = W2 at HB3
     go_wp2
     go_ret
     exact ⟨by rw [HF.out]; rfl, HB3.out⟩
    ·have t3 : decide (z ≤ q) = false := decide_eq_false hzq
     have HS : Aside0 (okO x = okIds (pre x.f2 (k + 1)) (x.f2.drop (k + 1)) ∧ -1 ≤ pre x.f2 (k + 1)) := ⟨by
      rw [HP.out, HD.out, HPR.out]
      refine ⟨?_, by omega⟩
      unfold inb
      rw [decide_eq_true (show q + 1 ≤ z by omega), decide_eq_true (show z ≤ 23 by omega)]
      rfl⟩
     clear z0 z24 hzq
     go_wp2
     refine region_ext (W := wr) (Below.refl _ _) (by kernel_rfl) (by kernel_rfl) ?_
     repeat (first | go_big_quiet_step (fail) | quiet_step (fail))
     refine wpQuiet_nil ?_
     rintro _ ⟨s, rfl⟩
     have HB3 := Aside0.mk (below_then HB.out HB.out.size s.2)
     generalize s.1 = W2 at HB3
     go_wp2
     go_roundw
     case rel => exact ⟨k + 1, by omega, by go_num, HS, HB3⟩
     case measure => simp [intOf]; omega
  ·have hke : k = n := by omega
   have g1 : decide (k < n) = false := decide_eq_false hlt
   have i1 : ¬ (k : Int) < n := by omega
   have HE := Aside0.mk (show okO x = true by rw [HI.out.1, List.drop_of_length_le (by have := HN.out; omega)]; rfl)
   have e2 := pw_cell_below HB.out k2
   clear hke
   go_wp2
   go_ret
   exact ⟨by rw [HE.out]; rfl, below_then HB0.out HB0.out.size HB.out⟩
set_option maxHeartbeats 1000000 in
set_option maxRecDepth 100000 in
theorem sOccsOk_any (A : Option Addr) (c : Nat) (l : List Occ) (w : World) (hr : kO.C w A l.length l) :
  Calls Tryz.prog 100 #[.slice A l.length c] w fun e w' => e = .returned (.bool (okOs l)) ∧ Below w.heap.size w w' := by
 have hn := (C_len hr).2
 by_cases h40 : l.length > 40
 ·have d1 : decide ((l.length : Int) > 40) = true := decide_eq_true (by omega)
  have HF := Aside0.mk (show okOs l = false by unfold okOs; rw [decide_eq_false (show ¬ l.length ≤ 40 by omega)]; simp)
  go_enter Tryz.func100, Tryz.ntmps100
  go_wp2
  go_ret
  exact ⟨by rw [HF.out]; rfl, Below.refl _ _⟩
 have d1 : decide ((l.length : Int) > 40) = false := decide_eq_false (by omega)
 have HO := Aside0.mk (show okOs l = chain none l by unfold okOs; rw [decide_eq_true (show l.length ≤ 40 by omega)]; simp)
 go_enter Tryz.func100, Tryz.ntmps100
 go_wp2
 go_loopw [3] (fun i wr => ∃ k : Nat, k ≤ l.length ∧ i = .int .i64 k ∧ Aside0 (chain none l = chain (prev l k) (l.drop k)) ∧ Aside0 (Below w.heap.size w wr)) (fun i _ => l.length - (intOf i).toNat)
 case atStart => exact ⟨0, Nat.zero_le _, rfl, ⟨rfl⟩, ⟨Below.refl _ _⟩⟩
 case round =>
  obtain ⟨k, hk, rfl, HH, HB⟩ := hrel
  by_cases hlt : k < l.length
  ·have g1 : decide (k < l.length) = true := decide_eq_true hlt
   have hrr := Kd.C_below hr HB.out
   obtain ⟨ad, A2, c2, rfl, ha, hb, hc, hl2, hC2⟩ := atO hrr k hlt
   have HD := Aside0.mk (drop_at l zO k hlt)
   have HP := Aside0.mk (prev_succ l k)
   have hIs : IsO wr (l.getD k zO) A2 c2 := ⟨hl2, hC2⟩
   have i1 : (k : Int) < l.length := by omega
   clear hl2 hC2
   by_cases hk0 : k = 0
   ·have HZ := Aside0.mk (show prev l k = none by simp [prev, hk0])
    have hg : decide ((k : Int) > 0) = false := by simp; omega
    have hg2 : decide (0 < k) = false := by simp; omega
    clear hk0
    generalize l.getD k zO = o at ha hb hc hIs HD HP
    replace ha := cellE ha
    replace hb := cellE hb
    replace hc := cellE hc
    have hcl := fun s : Ext wr => sOccOk_any o A2 c2 s.1 (hIs.ext s)
    cases hq : okO o with
    | true =>
     have HS := Aside0.mk (show chain none l = chain (prev l (k + 1)) (l.drop (k + 1)) by rw [HH.out, HD.out, HP.out, HZ.out, chain, hq]; rfl)
     rw [hq] at hcl
     clear hq
     go_wp2
     refine region_ext (W := wr) (Below.refl _ _) (by kernel_rfl) (by kernel_rfl) ?_
     repeat (first | go_big_quiet_step ((first | (go_at_call 42; exact calls_ext (hcl _)))) | quiet_step ((first | (go_at_call 42; exact calls_ext (hcl _)))))
     refine wpQuiet_nil ?_
     rintro _ ⟨s, rfl⟩
     have HB3 := Aside0.mk (below_then HB.out HB.out.size s.2)
     generalize s.1 = W2 at HB3
     go_wp2
     go_roundw
     case rel => exact ⟨k + 1, by omega, by go_num, HS, HB3⟩
     case measure => simp [intOf]; omega
    | false =>
     have HS := Aside0.mk (show okOs l = false by rw [HO.out, HH.out, HD.out]; simp [chain, hq])
     rw [hq] at hcl
     clear hq
     go_wp2
     refine region_ext (W := wr) (Below.refl _ _) (by kernel_rfl) (by kernel_rfl) ?_
     repeat (first | go_big_quiet_step ((first | (go_at_call 42; exact calls_ext (hcl _)))) | quiet_step ((first | (go_at_call 42; exact calls_ext (hcl _)))))
     refine wpQuiet_nil ?_
     rintro _ ⟨s, rfl⟩
     have HB3 := Aside0.mk (below_then HB.out HB.out.size s.2)
     generalize s.1 = W2 at HB3
     go_wp2
     go_ret
     exact ⟨by rw [HS.out]; rfl, HB3.out⟩
   ·have hg : decide ((k : Int) > 0) = true := by simp; omega
    have hg2 : decide (0 < k) = true := by simp; omega
    have HZ := Aside0.mk (show prev l k = some (l.getD (k - 1) zO) by simp [prev, hk0])
    have hk1 : 0 < k := by omega
    have hk2 : 0 ≤ (k : Int) - 1 := by omega
    have hk3 : ((k : Int) - 1).toNat = k - 1 := by omega
    have hk4 : (k : Int) - 1 < l.length := by omega
    clear hk0
    obtain ⟨_, A3, c3, e, pa, pb, pc, pl2, pC2⟩ := atO hrr (k - 1) (by omega)
    cases e
    have hIp : IsO wr (l.getD (k - 1) zO) A3 c3 := ⟨pl2, pC2⟩
    clear pl2 pC2
    generalize l.getD (k - 1) zO = p at pa pb pc hIp HZ
    generalize l.getD k zO = o at ha hb hc hIs HD HP
    replace ha := cellE ha
    replace hb := cellE hb
    replace hc := cellE hc
    replace pa := cellE pa
    replace pb := cellE pb
    replace pc := cellE pc
    have hcl := fun s : Ext wr => sOccOk_any o A2 c2 s.1 (hIs.ext s)
    have hcl2 := fun s : Ext wr => sLess_any p o A3 A2 c3 c2 s.1 (hIp.ext s) (hIs.ext s)
    cases hq : okO o with
    | true =>
     rw [hq] at hcl
     cases hd : decide (cmpO p o < 0) with
     | true =>
      have HS := Aside0.mk (show chain none l = chain (prev l (k + 1)) (l.drop (k + 1)) by rw [HH.out, HD.out, HP.out, HZ.out, chain, hq]; simp only [hd]; rfl)
      rw [hd] at hcl2
      clear hd hq
      go_wp2
      refine region_ext (W := wr) (Below.refl _ _) (by kernel_rfl) (by kernel_rfl) ?_
      repeat (first | go_big_quiet_step ((first | (go_at_call 42; exact calls_ext (hcl _)) | (go_at_call 119; exact calls_ext (hcl2 _)))) | quiet_step ((first | (go_at_call 42; exact calls_ext (hcl _)) | (go_at_call 119; exact calls_ext (hcl2 _)))))
      refine wpQuiet_nil ?_
      rintro _ ⟨s, rfl⟩
      have HB3 := Aside0.mk (below_then HB.out HB.out.size s.2)
      generalize s.1 = W2 at HB3
      go_wp2
      go_roundw
      case rel => exact ⟨k + 1, by omega, by go_num, HS, HB3⟩
      case measure => simp [intOf]; omega
     | false =>
      have HS := Aside0.mk (show okOs l = false by rw [HO.out, HH.out, HD.out, HZ.out, chain, hq]; simp only [hd]; rfl)
      rw [hd] at hcl2
      clear hd hq
      go_wp2
      refine region_ext (W := wr) (Below.refl _ _) (by kernel_rfl) (by kernel_rfl) ?_
      repeat (first | go_big_quiet_step ((first | (go_at_call 42; exact calls_ext (hcl _)) | (go_at_call 119; exact calls_ext (hcl2 _)))) | quiet_step ((first | (go_at_call 42; exact calls_ext (hcl _)) | (go_at_call 119; exact calls_ext (hcl2 _)))))
      refine wpQuiet_nil ?_
      rintro _ ⟨s, rfl⟩
      have HB3 := Aside0.mk (below_then HB.out HB.out.size s.2)
      generalize s.1 = W2 at HB3
      go_wp2
      go_ret
      exact ⟨by rw [HS.out]; rfl, HB3.out⟩
    | false =>
     have HS := Aside0.mk (show okOs l = false by rw [HO.out, HH.out, HD.out]; simp [chain, hq])
     rw [hq] at hcl
     clear hq
     go_wp2
     refine region_ext (W := wr) (Below.refl _ _) (by kernel_rfl) (by kernel_rfl) ?_
     repeat (first | go_big_quiet_step ((first | (go_at_call 42; exact calls_ext (hcl _)))) | quiet_step ((first | (go_at_call 42; exact calls_ext (hcl _)))))
     refine wpQuiet_nil ?_
     rintro _ ⟨s, rfl⟩
     have HB3 := Aside0.mk (below_then HB.out HB.out.size s.2)
     generalize s.1 = W2 at HB3
     go_wp2
     go_ret
     exact ⟨by rw [HS.out]; rfl, HB3.out⟩
  ·have g1 : decide (k < l.length) = false := decide_eq_false hlt
   have i1 : ¬ (k : Int) < l.length := by omega
   have HS := Aside0.mk (show okOs l = true by rw [HO.out, HH.out, List.drop_of_length_le (by omega)]; rfl)
   go_wp2
   go_ret
   exact ⟨by rw [HS.out]; rfl, HB.out⟩
theorem pairOk_any (A B : Option Addr) (ca cb : Nat) (l r : List Occ) (w : World) (hL : IsL w l A ca) (hR : IsL w r B cb) :
  Calls Tryz.prog 128 #[.agg #[.slice A l.length ca, .slice B r.length cb]] w fun e w' => e = .returned (.bool (okOs l && okOs r)) ∧ Below w.heap.size w w' := by
 have hb0 := below_alloc (Below.refl w.heap.size w) (.cells #[.slice A l.length ca, .slice B r.length cb] 122)
 have bP := blk_new w (.cells #[.slice A l.length ca, .slice B r.length cb] 122)
 have h1 := occsOk_any A ca l _ (hL.below hb0).rd
 have h2 := fun (w2 : World) (h : Below w.heap.size w w2) => occsOk_any B cb r w2 (hR.below h).rd
 cases h : okOs l with
 | false =>
  rw [h] at h1
  clear h
  go_enter Tryz.func128, Tryz.ntmps128
  go_wp2_with (go_at_call 130; refine h1.mono ?_; rintro e w2 ⟨rfl, hb⟩; have HB := Aside0.mk (below_then hb0 hb0.size hb))
  go_ret
  exact ⟨rfl, HB.out⟩
 | true =>
  rw [h] at h1
  clear h
  go_enter Tryz.func128, Tryz.ntmps128
  go_wp2_with (first
   | (go_at_call 130; refine (h2 _ HB.out).mono ?_; rintro e w3 ⟨rfl, hb3⟩; have HB3 := Aside0.mk (below_then HB.out HB.out.size hb3))
   | (go_at_call 130; refine h1.mono ?_; rintro e w2 ⟨rfl, hb⟩; have HB := Aside0.mk (below_then hb0 hb0.size hb); have b2 := blk_below bP hb; have q1 := (blk_cell b2 1).trans rfl))
  go_ret
  exact ⟨ret_bool (by simp), HB3.out⟩
set_option maxRecDepth 100000 in
theorem spanOk_any (A B : Option Addr) (ca cb : Nat) (l r : List Occ) (w : World) (hL : IsL w l A ca) (hR : IsL w r B cb) :
  Calls Tryz.prog 129 #[.agg #[.slice A l.length ca, .slice B r.length cb]] w fun e w' => e = .returned (.bool (okOs l && okOs r)) ∧ Below w.heap.size w w' := by
 have hb0 := below_alloc (Below.refl w.heap.size w) (.cells #[.slice A l.length ca, .slice B r.length cb] 124)
 have bP := blk_new w (.cells #[.slice A l.length ca, .slice B r.length cb] 124)
 have h1 := occsOk_any A ca l _ (hL.below hb0).rd
 have h2 := fun (w2 : World) (h : Below w.heap.size w w2) => occsOk_any B cb r w2 (hR.below h).rd
 cases h : okOs l with
 | false =>
  rw [h] at h1
  clear h
  go_enter Tryz.func129, Tryz.ntmps129
  go_wp2_with (go_at_call 130; refine h1.mono ?_; rintro e w2 ⟨rfl, hb⟩; have HB := Aside0.mk (below_then hb0 hb0.size hb))
  go_ret
  exact ⟨rfl, HB.out⟩
 | true =>
  rw [h] at h1
  clear h
  go_enter Tryz.func129, Tryz.ntmps129
  go_wp2_with (first
   | (go_at_call 130; refine (h2 _ HB.out).mono ?_; rintro e w3 ⟨rfl, hb3⟩; have HB3 := Aside0.mk (below_then HB.out HB.out.size hb3))
   | (go_at_call 130; refine h1.mono ?_; rintro e w2 ⟨rfl, hb⟩; have HB := Aside0.mk (below_then hb0 hb0.size hb); have b2 := blk_below bP hb; have q1 := (blk_cell b2 1).trans rfl))
  go_ret
  exact ⟨ret_bool (by simp), HB3.out⟩

set_option maxRecDepth 100000 in
theorem sSpanOk_any (A B : Option Addr) (ca cb : Nat) (l r : List Occ) (w : World) (hL : IsL w l A ca) (hR : IsL w r B cb) :
  Calls Tryz.prog 99 #[.agg #[.slice A l.length ca, .slice B r.length cb]] w fun e w' => e = .returned (.bool (okOs l && okOs r)) ∧ Below w.heap.size w w' := by
 have hb0 := below_alloc (Below.refl w.heap.size w) (.cells #[.slice A l.length ca, .slice B r.length cb] 124)
 have bP := blk_new w (.cells #[.slice A l.length ca, .slice B r.length cb] 124)
 have h1 := sOccsOk_any A ca l _ (hL.below hb0).rd
 have h2 := fun (w2 : World) (h : Below w.heap.size w w2) => sOccsOk_any B cb r w2 (hR.below h).rd
 cases h : okOs l with
 | false =>
  rw [h] at h1
  clear h
  go_enter Tryz.func99, Tryz.ntmps99
  go_wp2_with (go_at_call 100; refine h1.mono ?_; rintro e w2 ⟨rfl, hb⟩; have HB := Aside0.mk (below_then hb0 hb0.size hb))
  go_ret
  exact ⟨rfl, HB.out⟩
 | true =>
  rw [h] at h1
  clear h
  go_enter Tryz.func99, Tryz.ntmps99
  go_wp2_with (first
   | (go_at_call 100; refine (h2 _ HB.out).mono ?_; rintro e w3 ⟨rfl, hb3⟩; have HB3 := Aside0.mk (below_then HB.out HB.out.size hb3))
   | (go_at_call 100; refine h1.mono ?_; rintro e w2 ⟨rfl, hb⟩; have HB := Aside0.mk (below_then hb0 hb0.size hb); have b2 := blk_below bP hb; have q1 := (blk_cell b2 1).trans rfl))
  go_ret
  exact ⟨ret_bool (by simp), HB3.out⟩

theorem sPairOk_any (A B : Option Addr) (ca cb : Nat) (l r : List Occ) (w : World) (hL : IsL w l A ca) (hR : IsL w r B cb) :
  Calls Tryz.prog 98 #[.agg #[.slice A l.length ca, .slice B r.length cb]] w fun e w' => e = .returned (.bool (okOs l && okOs r)) ∧ Below w.heap.size w w' := by
 have hb0 := below_alloc (Below.refl w.heap.size w) (.cells #[.slice A l.length ca, .slice B r.length cb] 122)
 have bP := blk_new w (.cells #[.slice A l.length ca, .slice B r.length cb] 122)
 have h1 := sOccsOk_any A ca l _ (hL.below hb0).rd
 have h2 := fun (w2 : World) (h : Below w.heap.size w w2) => sOccsOk_any B cb r w2 (hR.below h).rd
 cases h : okOs l with
 | false =>
  rw [h] at h1
  clear h
  go_enter Tryz.func98, Tryz.ntmps98
  go_wp2_with (go_at_call 100; refine h1.mono ?_; rintro e w2 ⟨rfl, hb⟩; have HB := Aside0.mk (below_then hb0 hb0.size hb))
  go_ret
  exact ⟨rfl, HB.out⟩
 | true =>
  rw [h] at h1
  clear h
  go_enter Tryz.func98, Tryz.ntmps98
  go_wp2_with (first
   | (go_at_call 100; refine (h2 _ HB.out).mono ?_; rintro e w3 ⟨rfl, hb3⟩; have HB3 := Aside0.mk (below_then HB.out HB.out.size hb3))
   | (go_at_call 100; refine h1.mono ?_; rintro e w2 ⟨rfl, hb⟩; have HB := Aside0.mk (below_then hb0 hb0.size hb); have b2 := blk_below bP hb; have q1 := (blk_cell b2 1).trans rfl))
  go_ret
  exact ⟨ret_bool (by simp), HB3.out⟩
end Go.Proofs.YtckblabkapeigaaGreat.Oc
