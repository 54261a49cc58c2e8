
/- Marks that still stand: rows of the program's struct types: the laws' own functions. Printed by genMh8.py. -/
import Derived.Test.YtckblabkapeigaaMk8
import Derived.Test.YtckblabkapeigaaKc
import Derived.Test.YtckblabkapeigaaZa
set_option linter.unusedVariables false
set_option linter.unusedSimpArgs false
namespace Go.Proofs.Ytckblabkapeigaa.Mh8
open Go.RowKit Go.Proofs.YtckblabkapeigaaW.PrintWords Go.Proofs.Ytckblabkapeigaa.Ja Go.Proofs.Ytckblabkapeigaa.Jb Go.Proofs.Ytckblabkapeigaa.Jc Go.Proofs.Ytckblabkapeigaa.Jd Go.Proofs.Ytckblabkapeigaa.Jf Go.Proofs.Ytckblabkapeigaa.Ka Go.Proofs.Ytckblabkapeigaa.Kb Go.Proofs.Ytckblabkapeigaa.Kd2 Go.Proofs.Ytckblabkapeigaa.Nd Go.Proofs.Ytckblabkapeigaa.Ei8 Go.Proofs.Ytckblabkapeigaa.Ej8 Go.Proofs.Ytckblabkapeigaa.Mk8 Go.Proofs.Ytckblabkapeigaa.Kc

set_option maxHeartbeats 8000000 in
set_option maxRecDepth 100000 in
theorem heldOccS_any (A : Option Addr) (c : Nat) (l : List TOcc) (k : Int) (w : World) (hk : 0 ≤ k) (hk2 : k + (cmS cmOcc l : Int) ≤ 4611686018427387904) (hL : IsS kOcc w (mkS mkOcc cmOcc l k) A c) :
    Calls Try.prog 78 #[.slice A l.length c, .int .i64 k] w fun e w' => e = .returned (.int .i64 (k + (cmS cmOcc l : Int))) ∧ Below w.heap.size w w' := by
  have hln := mkS_len mkOcc cmOcc l k
  have hn := hL.len
  rw [hln] at hn
  have HL := Aside0.mk hL
  have HLN := Aside0.mk hln
  clear hL hln
  go_enter Try.func78, Try.ntmps78
  go_wp2
  go_loopw [1, 5] (fun v1 vi wr => ∃ (i : Nat) (kk : Int), i ≤ l.length ∧ kk = k + (cmS cmOcc (l.take i) : Int) ∧ vi = .int .i64 i ∧ v1 = .int .i64 kk ∧ Aside0 (Below w.heap.size w wr)) (fun _ vi _ => l.length - (intOf vi).toNat)
  case atStart => exact ⟨0, k, Nat.zero_le _, by simp [cmS], rfl, rfl, ⟨Below.refl _ _⟩⟩
  case round =>
    obtain ⟨i, kk, hi, hkk, rfl, rfl, HB⟩ := hrel
    by_cases hlt : i < l.length
    · have g1 : decide (i < l.length) = true := decide_eq_true hlt
      have i1 : (i : Int) < l.length := by omega
      obtain ⟨ad, A2, c2, rfl, y0, y1, y2, I2⟩ := atOcc (HL.out.below HB.out) i (by rw [HLN.out]; exact hlt)
      have hwt := cmS_snoc cmOcc zOcc l i hlt
      have hwl := cmS_le cmOcc l (i + 1)
      rw [mkS_getD mkOcc cmOcc zOcc l k i hlt, ← hkk] at y0 y1 y2 I2
      have hk0 : 0 ≤ kk := by omega
      have hk1 : kk + (cmOcc (l.getD i zOcc) : Int) ≤ 4611686018427387904 := by omega
      have HKK : Aside0 (kk + (cmOcc (l.getD i zOcc) : Int) = k + (cmS cmOcc (l.take (i + 1)) : Int)) := ⟨by omega⟩
      clear hwt hwl hkk
      generalize l.getD i zOcc = o at y0 y1 y2 I2 hk1 HKK
      obtain ⟨r2, hr2⟩ : ∃ r : Int, r = kk + 1 + 1 + (o.f2.length : Int) := ⟨_, rfl⟩
      have RR2 := Aside0.mk hr2
      have hcm : (cmOcc o : Int) = (2 : Int) + (o.f2.length : Int) := by unfold cmOcc; omega
      rw [hcm] at hk1
      have HCM := Aside0.mk hcm
      clear hcm
      have HX : mkOcc o kk = mkOccP o kk r2 := by unfold mkOcc; rw [hr2]
      rw [HX] at y0 y1 y2 I2
      simp only [mkOccP, mkS_len, mkL_length, Ej8.mkI_len, Ex.f0, Ex.f1, Ex.f2, Ex.f3] at y0 y1 y2 I2
      clear HX
      have hb2 : 0 ≤ r2 := by omega
      have hk2 : r2 + (0 : Int) ≤ 4611686018427387904 := by omega
      have d2 : decide (r2 < 0) = false := decide_eq_false (by omega)
      clear hr2
      have HI2 := Aside0.mk I2
      clear I2
      have x0 : ((kk) != (kk)) = false := by simp
      have x1 : ((kk + 1) != (kk + 1)) = false := by simp
      go_upto_region 3 with (go_at_call 35; refine (heldIntS_any A2 c2 o.f2.length (kk + 1 + 1) _ (by omega) (by omega) HI2.out).mono ?_; rintro e _ ⟨rfl, rfl⟩; rw [← RR2.out])
      go_wp2
      go_roundw
      case rel => exact ⟨i + 1, r2, by omega, by have := HKK.out; have := HCM.out; have := RR2.out; omega, by go_num, rfl, HB⟩
      case measure => simp [intOf]; omega
    · have hke : i = l.length := by omega
      subst hke
      have g1 : decide (l.length < l.length) = false := decide_eq_false (by omega)
      rw [List.take_length] at hkk
      have HKK := Aside0.mk hkk
      clear hkk
      go_wp2
      go_ret
      exact ⟨by (rw [HKK.out]; try rfl), HB.out⟩
set_option maxHeartbeats 8000000 in
set_option maxRecDepth 100000 in
theorem heldEvS_any (A : Option Addr) (c : Nat) (l : List TEv) (k : Int) (w : World) (hk : 0 ≤ k) (hk2 : k + (cmS cmEv l : Int) ≤ 4611686018427387904) (hL : IsS kEv w (mkS mkEv cmEv l k) A c) :
    Calls Try.prog 34 #[.slice A l.length c, .int .i64 k] w fun e w' => e = .returned (.int .i64 (k + (cmS cmEv l : Int))) ∧ Below w.heap.size w w' := by
  have hln := mkS_len mkEv cmEv l k
  have hn := hL.len
  rw [hln] at hn
  have HL := Aside0.mk hL
  have HLN := Aside0.mk hln
  clear hL hln
  go_enter Try.func34, Try.ntmps34
  go_wp2
  go_loopw [1, 5] (fun v1 vi wr => ∃ (i : Nat) (kk : Int), i ≤ l.length ∧ kk = k + (cmS cmEv (l.take i) : Int) ∧ vi = .int .i64 i ∧ v1 = .int .i64 kk ∧ Aside0 (Below w.heap.size w wr)) (fun _ vi _ => l.length - (intOf vi).toNat)
  case atStart => exact ⟨0, k, Nat.zero_le _, by simp [cmS], rfl, rfl, ⟨Below.refl _ _⟩⟩
  case round =>
    obtain ⟨i, kk, hi, hkk, rfl, rfl, HB⟩ := hrel
    by_cases hlt : i < l.length
    · have g1 : decide (i < l.length) = true := decide_eq_true hlt
      have i1 : (i : Int) < l.length := by omega
      obtain ⟨ad, rfl, y0, y1, y2⟩ := atEv (HL.out.below HB.out) i (by rw [HLN.out]; exact hlt)
      have hwt := cmS_snoc cmEv zEv l i hlt
      have hwl := cmS_le cmEv l (i + 1)
      rw [mkS_getD mkEv cmEv zEv l k i hlt, ← hkk] at y0 y1 y2
      have hk0 : 0 ≤ kk := by omega
      have hk1 : kk + (cmEv (l.getD i zEv) : Int) ≤ 4611686018427387904 := by omega
      have HKK : Aside0 (kk + (cmEv (l.getD i zEv) : Int) = k + (cmS cmEv (l.take (i + 1)) : Int)) := ⟨by omega⟩
      clear hwt hwl hkk
      generalize l.getD i zEv = o at y0 y1 y2 hk1 HKK
      have hcm : (cmEv o : Int) = (3 : Int) := by unfold cmEv; omega
      rw [hcm] at hk1
      have HCM := Aside0.mk hcm
      clear hcm
      have HX : mkEv o kk = mkEvP o kk := rfl
      rw [HX] at y0 y1 y2
      simp only [mkEvP, mkS_len, mkL_length, Ej8.mkI_len, Ex.f0, Ex.f1, Ex.f2, Ex.f3] at y0 y1 y2
      clear HX
      have x0 : ((kk) != (kk)) = false := by simp
      have x1 : ((kk + 1) != (kk + 1)) = false := by simp
      have x2 : ((kk + 1 + 1) != (kk + 1 + 1)) = false := by simp
      go_wp2
      go_roundw
      case rel => exact ⟨i + 1, kk + 1 + 1 + 1, by omega, by have := HKK.out; have := HCM.out; omega, by go_num, rfl, HB⟩
      case measure => simp [intOf]; omega
    · have hke : i = l.length := by omega
      subst hke
      have g1 : decide (l.length < l.length) = false := decide_eq_false (by omega)
      rw [List.take_length] at hkk
      have HKK := Aside0.mk hkk
      clear hkk
      go_wp2
      go_ret
      exact ⟨by (rw [HKK.out]; try rfl), HB.out⟩
set_option maxHeartbeats 8000000 in
set_option maxRecDepth 100000 in
theorem heldFireS_any (A : Option Addr) (c : Nat) (l : List TFire) (k : Int) (w : World) (hk : 0 ≤ k) (hk2 : k + (cmS cmFire l : Int) ≤ 4611686018427387904) (hL : IsS kFire w (mkS mkFire cmFire l k) A c) :
    Calls Try.prog 36 #[.slice A l.length c, .int .i64 k] w fun e w' => e = .returned (.int .i64 (k + (cmS cmFire l : Int))) ∧ Below w.heap.size w w' := by
  have hln := mkS_len mkFire cmFire l k
  have hn := hL.len
  rw [hln] at hn
  have HL := Aside0.mk hL
  have HLN := Aside0.mk hln
  clear hL hln
  go_enter Try.func36, Try.ntmps36
  go_wp2
  go_loopw [1, 5] (fun v1 vi wr => ∃ (i : Nat) (kk : Int), i ≤ l.length ∧ kk = k + (cmS cmFire (l.take i) : Int) ∧ vi = .int .i64 i ∧ v1 = .int .i64 kk ∧ Aside0 (Below w.heap.size w wr)) (fun _ vi _ => l.length - (intOf vi).toNat)
  case atStart => exact ⟨0, k, Nat.zero_le _, by simp [cmS], rfl, rfl, ⟨Below.refl _ _⟩⟩
  case round =>
    obtain ⟨i, kk, hi, hkk, rfl, rfl, HB⟩ := hrel
    by_cases hlt : i < l.length
    · have g1 : decide (i < l.length) = true := decide_eq_true hlt
      have i1 : (i : Int) < l.length := by omega
      obtain ⟨ad, A3, c3, rfl, y0, y1, y2, y3, I3⟩ := atFire (HL.out.below HB.out) i (by rw [HLN.out]; exact hlt)
      have hwt := cmS_snoc cmFire zFire l i hlt
      have hwl := cmS_le cmFire l (i + 1)
      rw [mkS_getD mkFire cmFire zFire l k i hlt, ← hkk] at y0 y1 y2 y3 I3
      have hk0 : 0 ≤ kk := by omega
      have hk1 : kk + (cmFire (l.getD i zFire) : Int) ≤ 4611686018427387904 := by omega
      have HKK : Aside0 (kk + (cmFire (l.getD i zFire) : Int) = k + (cmS cmFire (l.take (i + 1)) : Int)) := ⟨by omega⟩
      clear hwt hwl hkk
      generalize l.getD i zFire = o at y0 y1 y2 y3 I3 hk1 HKK
      obtain ⟨r3, hr3⟩ : ∃ r : Int, r = kk + 1 + 1 + 1 + (o.f1.f2.length : Int) := ⟨_, rfl⟩
      have RR3 := Aside0.mk hr3
      have hcm : (cmFire o : Int) = (3 : Int) + (o.f1.f2.length : Int) := by unfold cmFire; omega
      rw [hcm] at hk1
      have HCM := Aside0.mk hcm
      clear hcm
      have HX : mkFire o kk = mkFireP o kk r3 := by unfold mkFire; rw [hr3]
      rw [HX] at y0 y1 y2 y3 I3
      simp only [mkFireP, mkS_len, mkL_length, Ej8.mkI_len, Ex.f0, Ex.f1, Ex.f2, Ex.f3] at y0 y1 y2 y3 I3
      clear HX
      have hb3 : 0 ≤ r3 := by omega
      have hk3 : r3 + (0 : Int) ≤ 4611686018427387904 := by omega
      have d3 : decide (r3 < 0) = false := decide_eq_false (by omega)
      clear hr3
      have HI3 := Aside0.mk I3
      clear I3
      have x0 : ((kk) != (kk)) = false := by simp
      have x1 : ((kk + 1) != (kk + 1)) = false := by simp
      have x2 : ((kk + 1 + 1) != (kk + 1 + 1)) = false := by simp
      go_upto_region 3 with (go_at_call 35; refine (heldIntS_any A3 c3 o.f1.f2.length (kk + 1 + 1 + 1) _ (by omega) (by omega) HI3.out).mono ?_; rintro e _ ⟨rfl, rfl⟩; rw [← RR3.out])
      go_wp2
      go_roundw
      case rel => exact ⟨i + 1, r3, by omega, by have := HKK.out; have := HCM.out; have := RR3.out; omega, by go_num, rfl, HB⟩
      case measure => simp [intOf]; omega
    · have hke : i = l.length := by omega
      subst hke
      have g1 : decide (l.length < l.length) = false := decide_eq_false (by omega)
      rw [List.take_length] at hkk
      have HKK := Aside0.mk hkk
      clear hkk
      go_wp2
      go_ret
      exact ⟨by (rw [HKK.out]; try rfl), HB.out⟩
set_option maxHeartbeats 8000000 in
set_option maxRecDepth 100000 in
theorem heldNodeS_any (A : Option Addr) (c : Nat) (l : List TNode) (k : Int) (w : World) (hk : 0 ≤ k) (hk2 : k + (cmS cmNode l : Int) ≤ 4611686018427387904) (hL : IsS kNode w (mkS mkNode cmNode l k) A c) :
    Calls Try.prog 57 #[.slice A l.length c, .int .i64 k] w fun e w' => e = .returned (.int .i64 (k + (cmS cmNode l : Int))) ∧ Below w.heap.size w w' := by
  have hln := mkS_len mkNode cmNode l k
  have hn := hL.len
  rw [hln] at hn
  have HL := Aside0.mk hL
  have HLN := Aside0.mk hln
  clear hL hln
  go_enter Try.func57, Try.ntmps57
  go_wp2
  go_loopw [1, 5] (fun v1 vi wr => ∃ (i : Nat) (kk : Int), i ≤ l.length ∧ kk = k + (cmS cmNode (l.take i) : Int) ∧ vi = .int .i64 i ∧ v1 = .int .i64 kk ∧ Aside0 (Below w.heap.size w wr)) (fun _ vi _ => l.length - (intOf vi).toNat)
  case atStart => exact ⟨0, k, Nat.zero_le _, by simp [cmS], rfl, rfl, ⟨Below.refl _ _⟩⟩
  case round =>
    obtain ⟨i, kk, hi, hkk, rfl, rfl, HB⟩ := hrel
    by_cases hlt : i < l.length
    · have g1 : decide (i < l.length) = true := decide_eq_true hlt
      have i1 : (i : Int) < l.length := by omega
      obtain ⟨ad, A3, c3, A4, c4, A5, c5, A6, c6, A7, c7, A8, c8, rfl, y0, y1, y2, y3, y4, y5, y6, y7, y8, y9, I3, I4, I5, I6, I7, I8⟩ := atNode (HL.out.below HB.out) i (by rw [HLN.out]; exact hlt)
      have hwt := cmS_snoc cmNode zNode l i hlt
      have hwl := cmS_le cmNode l (i + 1)
      rw [mkS_getD mkNode cmNode zNode l k i hlt, ← hkk] at y0 y1 y2 y3 y4 y5 y6 y7 y8 y9 I3 I4 I5 I6 I7 I8
      have hk0 : 0 ≤ kk := by omega
      have hk1 : kk + (cmNode (l.getD i zNode) : Int) ≤ 4611686018427387904 := by omega
      have HKK : Aside0 (kk + (cmNode (l.getD i zNode) : Int) = k + (cmS cmNode (l.take (i + 1)) : Int)) := ⟨by omega⟩
      clear hwt hwl hkk
      generalize l.getD i zNode = o at y0 y1 y2 y3 y4 y5 y6 y7 y8 y9 I3 I4 I5 I6 I7 I8 hk1 HKK
      obtain ⟨r3, hr3⟩ : ∃ r : Int, r = kk + 1 + 1 + 1 + (o.f3.length : Int) := ⟨_, rfl⟩
      have RR3 := Aside0.mk hr3
      obtain ⟨r4, hr4⟩ : ∃ r : Int, r = r3 + (cmS cmOcc o.f4.f0 : Int) := ⟨_, rfl⟩
      have RR4 := Aside0.mk hr4
      obtain ⟨r5, hr5⟩ : ∃ r : Int, r = r4 + (cmS cmOcc o.f4.f1 : Int) := ⟨_, rfl⟩
      have RR5 := Aside0.mk hr5
      obtain ⟨r6, hr6⟩ : ∃ r : Int, r = r5 + (cmS cmOcc o.f5.f0 : Int) := ⟨_, rfl⟩
      have RR6 := Aside0.mk hr6
      obtain ⟨r7, hr7⟩ : ∃ r : Int, r = r6 + (cmS cmOcc o.f5.f1 : Int) := ⟨_, rfl⟩
      have RR7 := Aside0.mk hr7
      obtain ⟨r8, hr8⟩ : ∃ r : Int, r = r7 + (cmS cmOcc o.f6 : Int) := ⟨_, rfl⟩
      have RR8 := Aside0.mk hr8
      have hcm : (cmNode o : Int) = (4 : Int) + (o.f3.length : Int) + (cmS cmOcc o.f4.f0 : Int) + (cmS cmOcc o.f4.f1 : Int) + (cmS cmOcc o.f5.f0 : Int) + (cmS cmOcc o.f5.f1 : Int) + (cmS cmOcc o.f6 : Int) := by unfold cmNode; omega
      rw [hcm] at hk1
      have HCM := Aside0.mk hcm
      clear hcm
      have HX : mkNode o kk = mkNodeP o kk r3 r4 r5 r6 r7 r8 := by unfold mkNode; rw [hr8, hr7, hr6, hr5, hr4, hr3]
      rw [HX] at y0 y1 y2 y3 y4 y5 y6 y7 y8 y9 I3 I4 I5 I6 I7 I8
      simp only [mkNodeP, mkS_len, mkL_length, Ej8.mkI_len, Ex.f0, Ex.f1, Ex.f2, Ex.f3] at y0 y1 y2 y3 y4 y5 y6 y7 y8 y9 I3 I4 I5 I6 I7 I8
      clear HX
      have hb3 : 0 ≤ r3 := by omega
      have hk3 : r3 + (1 : Int) + (cmS cmOcc o.f4.f0 : Int) + (cmS cmOcc o.f4.f1 : Int) + (cmS cmOcc o.f5.f0 : Int) + (cmS cmOcc o.f5.f1 : Int) + (cmS cmOcc o.f6 : Int) ≤ 4611686018427387904 := by omega
      have d3 : decide (r3 < 0) = false := decide_eq_false (by omega)
      have hb4 : 0 ≤ r4 := by omega
      have hk4 : r4 + (1 : Int) + (cmS cmOcc o.f4.f1 : Int) + (cmS cmOcc o.f5.f0 : Int) + (cmS cmOcc o.f5.f1 : Int) + (cmS cmOcc o.f6 : Int) ≤ 4611686018427387904 := by omega
      have d4 : decide (r4 < 0) = false := decide_eq_false (by omega)
      have hb5 : 0 ≤ r5 := by omega
      have hk5 : r5 + (1 : Int) + (cmS cmOcc o.f5.f0 : Int) + (cmS cmOcc o.f5.f1 : Int) + (cmS cmOcc o.f6 : Int) ≤ 4611686018427387904 := by omega
      have d5 : decide (r5 < 0) = false := decide_eq_false (by omega)
      have hb6 : 0 ≤ r6 := by omega
      have hk6 : r6 + (1 : Int) + (cmS cmOcc o.f5.f1 : Int) + (cmS cmOcc o.f6 : Int) ≤ 4611686018427387904 := by omega
      have d6 : decide (r6 < 0) = false := decide_eq_false (by omega)
      have hb7 : 0 ≤ r7 := by omega
      have hk7 : r7 + (1 : Int) + (cmS cmOcc o.f6 : Int) ≤ 4611686018427387904 := by omega
      have d7 : decide (r7 < 0) = false := decide_eq_false (by omega)
      have hb8 : 0 ≤ r8 := by omega
      have hk8 : r8 + (1 : Int) ≤ 4611686018427387904 := by omega
      have d8 : decide (r8 < 0) = false := decide_eq_false (by omega)
      clear hr3 hr4 hr5 hr6 hr7 hr8
      have HI3 := Aside0.mk I3
      have HI4 := Aside0.mk I4
      have HI5 := Aside0.mk I5
      have HI6 := Aside0.mk I6
      have HI7 := Aside0.mk I7
      have HI8 := Aside0.mk I8
      clear I3 I4 I5 I6 I7 I8
      have x0 : ((kk) != (kk)) = false := by simp
      have x1 : ((kk + 1) != (kk + 1)) = false := by simp
      have x2 : ((kk + 1 + 1) != (kk + 1 + 1)) = false := by simp
      have x9 : ((r8) != (r8)) = false := by simp
      go_upto_region 16 with (go_at_call 35; refine (heldIntS_any A3 c3 o.f3.length (kk + 1 + 1 + 1) _ (by omega) (by omega) HI3.out).mono ?_; rintro e _ ⟨rfl, rfl⟩; rw [← RR3.out])
      go_upto_region 19 with (go_at_call 78; refine (heldOccS_any A4 c4 o.f4.f0 (r3) _ (by omega) (by omega) HI4.out).mono ?_; rintro e w4 ⟨rfl, hb⟩; rw [← RR4.out]; have y5' := pw_cell_below hb y5; have y6' := pw_cell_below hb y6; have y7' := pw_cell_below hb y7; have y8' := pw_cell_below hb y8; have y9' := pw_cell_below hb y9; have HI5' := Aside0.mk (HI5.out.below hb); have HI6' := Aside0.mk (HI6.out.below hb); have HI7' := Aside0.mk (HI7.out.below hb); have HI8' := Aside0.mk (HI8.out.below hb); have HB' := Aside0.mk (below_then HB.out HB.out.size hb); clear hb)
      clear HB y5 y6 y7 y8 y9 HI5 HI6 HI7 HI8
      have HB := HB'
      have y5 := y5'
      have y6 := y6'
      have y7 := y7'
      have y8 := y8'
      have y9 := y9'
      have HI5 := HI5'
      have HI6 := HI6'
      have HI7 := HI7'
      have HI8 := HI8'
      clear HB' y5' y6' y7' y8' y9' HI5' HI6' HI7' HI8'
      go_upto_region 22 with (go_at_call 78; refine (heldOccS_any A5 c5 o.f4.f1 (r4) _ (by omega) (by omega) HI5.out).mono ?_; rintro e w5 ⟨rfl, hb⟩; rw [← RR5.out]; have y6' := pw_cell_below hb y6; have y7' := pw_cell_below hb y7; have y8' := pw_cell_below hb y8; have y9' := pw_cell_below hb y9; have HI6' := Aside0.mk (HI6.out.below hb); have HI7' := Aside0.mk (HI7.out.below hb); have HI8' := Aside0.mk (HI8.out.below hb); have HB' := Aside0.mk (below_then HB.out HB.out.size hb); clear hb)
      clear HB y6 y7 y8 y9 HI6 HI7 HI8
      have HB := HB'
      have y6 := y6'
      have y7 := y7'
      have y8 := y8'
      have y9 := y9'
      have HI6 := HI6'
      have HI7 := HI7'
      have HI8 := HI8'
      clear HB' y6' y7' y8' y9' HI6' HI7' HI8'
      go_upto_region 25 with (go_at_call 78; refine (heldOccS_any A6 c6 o.f5.f0 (r5) _ (by omega) (by omega) HI6.out).mono ?_; rintro e w6 ⟨rfl, hb⟩; rw [← RR6.out]; have y7' := pw_cell_below hb y7; have y8' := pw_cell_below hb y8; have y9' := pw_cell_below hb y9; have HI7' := Aside0.mk (HI7.out.below hb); have HI8' := Aside0.mk (HI8.out.below hb); have HB' := Aside0.mk (below_then HB.out HB.out.size hb); clear hb)
      clear HB y7 y8 y9 HI7 HI8
      have HB := HB'
      have y7 := y7'
      have y8 := y8'
      have y9 := y9'
      have HI7 := HI7'
      have HI8 := HI8'
      clear HB' y7' y8' y9' HI7' HI8'
      go_upto_region 28 with (go_at_call 78; refine (heldOccS_any A7 c7 o.f5.f1 (r6) _ (by omega) (by omega) HI7.out).mono ?_; rintro e w7 ⟨rfl, hb⟩; rw [← RR7.out]; have y8' := pw_cell_below hb y8; have y9' := pw_cell_below hb y9; have HI8' := Aside0.mk (HI8.out.below hb); have HB' := Aside0.mk (below_then HB.out HB.out.size hb); clear hb)
      clear HB y8 y9 HI8
      have HB := HB'
      have y8 := y8'
      have y9 := y9'
      have HI8 := HI8'
      clear HB' y8' y9' HI8'
      go_upto_region 31 with (go_at_call 78; refine (heldOccS_any A8 c8 o.f6 (r7) _ (by omega) (by omega) HI8.out).mono ?_; rintro e w8 ⟨rfl, hb⟩; rw [← RR8.out]; have y9' := pw_cell_below hb y9; have HB' := Aside0.mk (below_then HB.out HB.out.size hb); clear hb)
      clear HB y9
      have HB := HB'
      have y9 := y9'
      clear HB' y9'
      go_wp2
      go_roundw
      case rel => exact ⟨i + 1, r8 + 1, by omega, by have := HKK.out; have := HCM.out; have := RR3.out; have := RR4.out; have := RR5.out; have := RR6.out; have := RR7.out; have := RR8.out; omega, by go_num, rfl, HB⟩
      case measure => simp [intOf]; omega
    · have hke : i = l.length := by omega
      subst hke
      have g1 : decide (l.length < l.length) = false := decide_eq_false (by omega)
      rw [List.take_length] at hkk
      have HKK := Aside0.mk hkk
      clear hkk
      go_wp2
      go_ret
      exact ⟨by (rw [HKK.out]; try rfl), HB.out⟩
set_option maxHeartbeats 8000000 in
set_option maxRecDepth 100000 in
theorem heldGraphS_any (A : Option Addr) (c : Nat) (l : List TGraph) (k : Int) (w : World) (hk : 0 ≤ k) (hk2 : k + (cmS cmGraph l : Int) ≤ 4611686018427387904) (hL : IsS kGraph w (mkS mkGraph cmGraph l k) A c) :
    Calls Try.prog 33 #[.slice A l.length c, .int .i64 k] w fun e w' => e = .returned (.int .i64 (k + (cmS cmGraph l : Int))) ∧ Below w.heap.size w w' := by
  have hln := mkS_len mkGraph cmGraph l k
  have hn := hL.len
  rw [hln] at hn
  have HL := Aside0.mk hL
  have HLN := Aside0.mk hln
  clear hL hln
  go_enter Try.func33, Try.ntmps33
  go_wp2
  go_loopw [1, 5] (fun v1 vi wr => ∃ (i : Nat) (kk : Int), i ≤ l.length ∧ kk = k + (cmS cmGraph (l.take i) : Int) ∧ vi = .int .i64 i ∧ v1 = .int .i64 kk ∧ Aside0 (Below w.heap.size w wr)) (fun _ vi _ => l.length - (intOf vi).toNat)
  case atStart => exact ⟨0, k, Nat.zero_le _, by simp [cmS], rfl, rfl, ⟨Below.refl _ _⟩⟩
  case round =>
    obtain ⟨i, kk, hi, hkk, rfl, rfl, HB⟩ := hrel
    by_cases hlt : i < l.length
    · have g1 : decide (i < l.length) = true := decide_eq_true hlt
      have i1 : (i : Int) < l.length := by omega
      obtain ⟨ad, A1, c1, rfl, y0, y1, y2, y3, y4, I1⟩ := atGraph (HL.out.below HB.out) i (by rw [HLN.out]; exact hlt)
      have hwt := cmS_snoc cmGraph zGraph l i hlt
      have hwl := cmS_le cmGraph l (i + 1)
      rw [mkS_getD mkGraph cmGraph zGraph l k i hlt, ← hkk] at y0 y1 y2 y3 y4 I1
      have hk0 : 0 ≤ kk := by omega
      have hk1 : kk + (cmGraph (l.getD i zGraph) : Int) ≤ 4611686018427387904 := by omega
      have HKK : Aside0 (kk + (cmGraph (l.getD i zGraph) : Int) = k + (cmS cmGraph (l.take (i + 1)) : Int)) := ⟨by omega⟩
      clear hwt hwl hkk
      generalize l.getD i zGraph = o at y0 y1 y2 y3 y4 I1 hk1 HKK
      obtain ⟨r1, hr1⟩ : ∃ r : Int, r = kk + 1 + (cmS cmNode o.f1 : Int) := ⟨_, rfl⟩
      have RR1 := Aside0.mk hr1
      have hcm : (cmGraph o : Int) = (4 : Int) + (cmS cmNode o.f1 : Int) := by unfold cmGraph; omega
      rw [hcm] at hk1
      have HCM := Aside0.mk hcm
      clear hcm
      have HX : mkGraph o kk = mkGraphP o kk r1 := by unfold mkGraph; rw [hr1]
      rw [HX] at y0 y1 y2 y3 y4 I1
      simp only [mkGraphP, mkS_len, mkL_length, Ej8.mkI_len, Ex.f0, Ex.f1, Ex.f2, Ex.f3] at y0 y1 y2 y3 y4 I1
      clear HX
      have hb1 : 0 ≤ r1 := by omega
      have hk1 : r1 + (3 : Int) ≤ 4611686018427387904 := by omega
      have d1 : decide (r1 < 0) = false := decide_eq_false (by omega)
      clear hr1
      have HI1 := Aside0.mk I1
      clear I1
      have x0 : ((kk) != (kk)) = false := by simp
      have x2 : ((r1) != (r1)) = false := by simp
      have x3 : ((r1 + 1) != (r1 + 1)) = false := by simp
      have x4 : (((r1 + 1 + 1) % 3 == 0) == ((r1 + 1 + 1) % 3 == 0)) = true := by simp
      go_upto_region 10 with (go_at_call 57; refine (heldNodeS_any A1 c1 o.f1 (kk + 1) _ (by omega) (by omega) HI1.out).mono ?_; rintro e w1 ⟨rfl, hb⟩; rw [← RR1.out]; have y2' := pw_cell_below hb y2; have y3' := pw_cell_below hb y3; have y4' := pw_cell_below hb y4; have HB' := Aside0.mk (below_then HB.out HB.out.size hb); clear hb)
      clear HB y2 y3 y4
      have HB := HB'
      have y2 := y2'
      have y3 := y3'
      have y4 := y4'
      clear HB' y2' y3' y4'
      go_wp2
      go_roundw
      case rel => exact ⟨i + 1, r1 + 1 + 1 + 1, by omega, by have := HKK.out; have := HCM.out; have := RR1.out; omega, by go_num, rfl, HB⟩
      case measure => simp [intOf]; omega
    · have hke : i = l.length := by omega
      subst hke
      have g1 : decide (l.length < l.length) = false := decide_eq_false (by omega)
      rw [List.take_length] at hkk
      have HKK := Aside0.mk hkk
      clear hkk
      go_wp2
      go_ret
      exact ⟨by (rw [HKK.out]; try rfl), HB.out⟩
set_option maxHeartbeats 8000000 in
set_option maxRecDepth 100000 in
theorem heldRuleS_any (A : Option Addr) (c : Nat) (l : List TRule) (k : Int) (w : World) (hk : 0 ≤ k) (hk2 : k + (cmS cmRule l : Int) ≤ 4611686018427387904) (hL : IsS kRule w (mkS mkRule cmRule l k) A c) :
    Calls Try.prog 32 #[.slice A l.length c, .int .i64 k] w fun e w' => e = .returned (.int .i64 (k + (cmS cmRule l : Int))) ∧ Below w.heap.size w w' := by
  have hln := mkS_len mkRule cmRule l k
  have hn := hL.len
  rw [hln] at hn
  have HL := Aside0.mk hL
  have HLN := Aside0.mk hln
  clear hL hln
  go_enter Try.func32, Try.ntmps32
  go_wp2
  go_loopw [1, 5] (fun v1 vi wr => ∃ (i : Nat) (kk : Int), i ≤ l.length ∧ kk = k + (cmS cmRule (l.take i) : Int) ∧ vi = .int .i64 i ∧ v1 = .int .i64 kk ∧ Aside0 (Below w.heap.size w wr)) (fun _ vi _ => l.length - (intOf vi).toNat)
  case atStart => exact ⟨0, k, Nat.zero_le _, by simp [cmS], rfl, rfl, ⟨Below.refl _ _⟩⟩
  case round =>
    obtain ⟨i, kk, hi, hkk, rfl, rfl, HB⟩ := hrel
    by_cases hlt : i < l.length
    · have g1 : decide (i < l.length) = true := decide_eq_true hlt
      have i1 : (i : Int) < l.length := by omega
      obtain ⟨ad, A6, c6, rfl, y0, y1, y2, y3, y4, y5, y6, y7, y8, y9, y10, y11, I6⟩ := atRule (HL.out.below HB.out) i (by rw [HLN.out]; exact hlt)
      have hwt := cmS_snoc cmRule zRule l i hlt
      have hwl := cmS_le cmRule l (i + 1)
      rw [mkS_getD mkRule cmRule zRule l k i hlt, ← hkk] at y0 y1 y2 y3 y4 y5 y6 y7 y8 y9 y10 y11 I6
      have hk0 : 0 ≤ kk := by omega
      have hk1 : kk + (cmRule (l.getD i zRule) : Int) ≤ 4611686018427387904 := by omega
      have HKK : Aside0 (kk + (cmRule (l.getD i zRule) : Int) = k + (cmS cmRule (l.take (i + 1)) : Int)) := ⟨by omega⟩
      clear hwt hwl hkk
      generalize l.getD i zRule = o at y0 y1 y2 y3 y4 y5 y6 y7 y8 y9 y10 y11 I6 hk1 HKK
      obtain ⟨r6, hr6⟩ : ∃ r : Int, r = kk + 1 + 1 + 1 + 1 + 1 + 1 + 3 * (cntL o.f3.f3 : Int) := ⟨_, rfl⟩
      have RR6 := Aside0.mk hr6
      have hcm : (cmRule o : Int) = (11 : Int) + 3 * (cntL o.f3.f3 : Int) := by unfold cmRule; omega
      rw [hcm] at hk1
      have HCM := Aside0.mk hcm
      clear hcm
      have HX : mkRule o kk = mkRuleP o kk r6 := by unfold mkRule; rw [hr6]
      rw [HX] at y0 y1 y2 y3 y4 y5 y6 y7 y8 y9 y10 y11 I6
      simp only [mkRuleP, mkS_len, mkL_length, Ej8.mkI_len, Ex.f0, Ex.f1, Ex.f2, Ex.f3] at y0 y1 y2 y3 y4 y5 y6 y7 y8 y9 y10 y11 I6
      clear HX
      have hb6 : 0 ≤ r6 := by omega
      have hk6 : r6 + (5 : Int) ≤ 4611686018427387904 := by omega
      have d6 : decide (r6 < 0) = false := decide_eq_false (by omega)
      clear hr6
      have HI6 := Aside0.mk I6
      clear I6
      have x0 := str_ne (bs (markB (kk)))
      have x1 : ((kk + 1) != (kk + 1)) = false := by simp
      have x2 : ((kk + 1 + 1) != (kk + 1 + 1)) = false := by simp
      have x3 : ((kk + 1 + 1 + 1) != (kk + 1 + 1 + 1)) = false := by simp
      have x4 : ((kk + 1 + 1 + 1 + 1) != (kk + 1 + 1 + 1 + 1)) = false := by simp
      have x5 : ((kk + 1 + 1 + 1 + 1 + 1) != (kk + 1 + 1 + 1 + 1 + 1)) = false := by simp
      have x7 : ((r6) != (r6)) = false := by simp
      have x8 : ((r6 + 1) != (r6 + 1)) = false := by simp
      have x9 : ((r6 + 1 + 1) != (r6 + 1 + 1)) = false := by simp
      have x10 : ((r6 + 1 + 1 + 1) != (r6 + 1 + 1 + 1)) = false := by simp
      have x11 : ((r6 + 1 + 1 + 1 + 1) != (r6 + 1 + 1 + 1 + 1)) = false := by simp
      go_upto_region 4 with fail
      have HZ0 := Aside0.mk y0
      refine Za.regionL (fun w' => w'.cell? (ad.add (i * 12)) = some (.string (bs (markB (kk))))) [] (by kernel_rfl) ?_
      have HS : (fun w' => w'.cell? (ad.add (i * 12)) = some (.string (bs (markB (kk))))) wr.drew := pw_cell_below (below_drew (Below.refl _ _)) y0
      refine Za.takeL 0 (v := ?vm0) rfl (by kernel_rfl) (by kernel_rfl) (by kernel_rfl) (by kernel_rfl) (fun _ _ _ h => h) (Or.inl ⟨by rfl, ?hym0⟩) HS ?restm0
      case hym0 => (intro w hSw; (try dsimp only at hSw); go_simp; try with_reducible rfl)
      (try simp only [Act.put, List.setIfInBounds_toArray, List.set_cons_zero, List.set_cons_succ])
      refine Za.takeL 1 (v := ?vm1) rfl (by kernel_rfl) (by kernel_rfl) (by kernel_rfl) (by kernel_rfl) (fun _ _ _ h => h) (Or.inl ⟨by rfl, ?hym1⟩) HS ?restm1
      case hym1 => (intro w hSw; (try dsimp only at hSw); go_simp; try with_reducible rfl)
      (try simp only [Act.put, List.setIfInBounds_toArray, List.set_cons_zero, List.set_cons_succ])
      refine Za.takeL 2 (v := ?vm2) rfl (by kernel_rfl) (by kernel_rfl) (by kernel_rfl) (by kernel_rfl) (fun _ _ _ h => h) (Or.inl ⟨by rfl, ?hym2⟩) HS ?restm2
      case hym2 => (intro w hSw; (try dsimp only at hSw); go_simp; try with_reducible rfl)
      (try simp only [Act.put, List.setIfInBounds_toArray, List.set_cons_zero, List.set_cons_succ])
      refine Za.takeL 3 (v := ?vm3) rfl (by kernel_rfl) (by kernel_rfl) (by kernel_rfl) (by kernel_rfl) (fun _ _ _ h => h) (Or.inl ⟨by rfl, ?hym3⟩) HS ?restm3
      case hym3 => (intro w hSw; (try dsimp only at hSw); go_simp; try with_reducible rfl)
      (try simp only [Act.put, List.setIfInBounds_toArray, List.set_cons_zero, List.set_cons_succ])
      refine Za.takeL 4 (v := ?vm4) rfl (by kernel_rfl) (by kernel_rfl) (by kernel_rfl) (by kernel_rfl) (fun _ _ _ h => h) (Or.inl ⟨by rfl, ?hym4⟩) HS ?restm4
      case hym4 => (intro w hSw; (try dsimp only at hSw); go_simp; try with_reducible rfl)
      (try simp only [Act.put, List.setIfInBounds_toArray, List.set_cons_zero, List.set_cons_succ])
      refine Za.takeL 5 (v := ?vm5) rfl (by kernel_rfl) (by kernel_rfl) (by kernel_rfl) (by kernel_rfl) (fun _ _ _ h => h) (Or.inl ⟨by rfl, ?hym5⟩) HS ?restm5
      case hym5 => (intro w hSw; (try dsimp only at hSw); go_simp; try with_reducible rfl)
      (try simp only [Act.put, List.setIfInBounds_toArray, List.set_cons_zero, List.set_cons_succ])
      clear HS
      refine Za.nextL 6 (by kernel_rfl) rfl (fun K' hK => ?_)
      go_simp
      (go_at_call 26; refine (markText_any (kk) (by omega) _).mono ?_; rintro e wt ⟨rfl, hbt⟩)
      go_wp2_with fail
      have hbw : Below wr.heap.size wr wt := keepD hbt
      refine hK.out _ _ ⟨fun _ => pw_cell_below hbw HZ0.out, ?_⟩
      clear hK K' hbt
      (try simp only [Act.put, List.setIfInBounds_toArray, List.set_cons_zero, List.set_cons_succ])
      have HS : (fun w' => w'.cell? (ad.add (i * 12)) = some (.string (bs (markB (kk))))) wt := pw_cell_below hbw HZ0.out
      refine Za.takeL 7 (v := ?vn7) rfl (by kernel_rfl) (by kernel_rfl) (by kernel_rfl) (by kernel_rfl) (fun _ _ _ h => h) (Or.inl ⟨by rfl, ?hyn7⟩) HS ?restn7
      case hyn7 => (intro w hSw; (try dsimp only at hSw); go_simp; try with_reducible rfl)
      (try simp only [Act.put, List.setIfInBounds_toArray, List.set_cons_zero, List.set_cons_succ])
      clear HS
      refine Za.Walk.done (by kernel_rfl) ?_
      replace y0 := pw_cell_below hbw y0
      replace y1 := pw_cell_below hbw y1
      replace y2 := pw_cell_below hbw y2
      replace y3 := pw_cell_below hbw y3
      replace y4 := pw_cell_below hbw y4
      replace y5 := pw_cell_below hbw y5
      replace y6 := pw_cell_below hbw y6
      replace y7 := pw_cell_below hbw y7
      replace y8 := pw_cell_below hbw y8
      replace y9 := pw_cell_below hbw y9
      replace y10 := pw_cell_below hbw y10
      replace y11 := pw_cell_below hbw y11
      replace HI6 := Aside0.mk (HI6.out.below hbw)
      replace HB := Aside0.mk (below_then HB.out HB.out.size hbw)
      clear hbw HZ0
      go_upto_region 25 with (go_at_call 56; refine (heldExS_any o.f3.f3 A6 c6 (kk + 1 + 1 + 1 + 1 + 1 + 1) _ (by omega) (by omega) HI6.out).mono ?_; rintro e w6 ⟨rfl, hb⟩; rw [← RR6.out]; have y7' := pw_cell_below hb y7; have y8' := pw_cell_below hb y8; have y9' := pw_cell_below hb y9; have y10' := pw_cell_below hb y10; have y11' := pw_cell_below hb y11; have HB' := Aside0.mk (below_then HB.out HB.out.size hb); clear hb)
      clear HB y7 y8 y9 y10 y11
      have HB := HB'
      have y7 := y7'
      have y8 := y8'
      have y9 := y9'
      have y10 := y10'
      have y11 := y11'
      clear HB' y7' y8' y9' y10' y11'
      go_wp2
      go_roundw
      case rel => exact ⟨i + 1, r6 + 1 + 1 + 1 + 1 + 1, by omega, by have := HKK.out; have := HCM.out; have := RR6.out; omega, by go_num, rfl, HB⟩
      case measure => simp [intOf]; omega
    · have hke : i = l.length := by omega
      subst hke
      have g1 : decide (l.length < l.length) = false := decide_eq_false (by omega)
      rw [List.take_length] at hkk
      have HKK := Aside0.mk hkk
      clear hkk
      go_wp2
      go_ret
      exact ⟨by (rw [HKK.out]; try rfl), HB.out⟩
end Go.Proofs.Ytckblabkapeigaa.Mh8
