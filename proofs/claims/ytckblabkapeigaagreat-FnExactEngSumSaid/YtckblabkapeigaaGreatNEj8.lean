
/- Marks: the laws' own functions: rows of numbers. -/
import Derived.Test.YtckblabkapeigaaGreatNKd2
set_option linter.unusedVariables false
set_option linter.unusedSimpArgs false
namespace Go.Proofs.YtckblabkapeigaaGreat.Ej8
open Go.RowKit Go.Proofs.YtckblabkapeigaaGreatW.PrintWords Go.Proofs.YtckblabkapeigaaGreat.Ja Go.Proofs.YtckblabkapeigaaGreat.Jb Go.Proofs.YtckblabkapeigaaGreat.Jc Go.Proofs.YtckblabkapeigaaGreat.Jd Go.Proofs.YtckblabkapeigaaGreat.Ka Go.Proofs.YtckblabkapeigaaGreat.Kd2

/-- n marks from k on -/
def mkI (k : Int) (n : Nat) : List Int := (List.range n).map (fun i : Nat => k + (i : Int))
theorem mkI_len (k : Int) (n : Nat) : (mkI k n).length = n := by simp [mkI]
theorem mkI_snoc (k : Int) (n : Nat) : mkI k (n + 1) = mkI k n ++ [k + (n : Int)] := by simp [mkI, List.range_succ]
theorem mkI_get (k : Int) (n j : Nat) (h : j < n) : (mkI k n).getD j 0 = k + (j : Int) := by
 rw [List.getD_eq_getElem?_getD, List.getElem?_eq_getElem (by rw [mkI_len]; exact h)]
 simp [mkI]
set_option maxHeartbeats 1000000 in
set_option maxRecDepth 100000 in
theorem markIntS_any (base : Nat) (ok : Nat → Prop) (v : Value) (l : List Int) (k : Int) (w : World) (h0 : 0 ≤ k) (h1 : k + l.length ≤ 4611686018427387904) (hR : (Kd.int .i64).R 3 w base ok v l) :
  Calls Tryz.prog 11 #[v, .int .i64 k] w fun e w' => e = .returned (.int .i64 (k + l.length)) ∧ (Kd.int .i64).R 3 w' base ok v (mkI k l.length) ∧ Fr (fun b => some b = v.ownBlock) w w' := by
 obtain ⟨A, c, rfl⟩ := Kd.R_slice hR
 have HR0 := Aside0.mk hR
 clear hR
 go_enter Tryz.func11, Tryz.ntmps11
 go_wp2
 go_loopw [1, 5] (fun vk vi wr => ∃ (j : Nat) (kj : Int), j ≤ l.length ∧ vi = .int .i64 j ∧ vk = .int .i64 kj ∧ kj = k + j ∧ Aside0 ((Kd.int .i64).R 3 wr base ok (.slice A l.length c) (mkI k j ++ l.drop j)) ∧ Aside0 (Fr (fun b => some b = (Value.slice A l.length c).ownBlock) w wr)) (fun _ vi _ => l.length - (intOf vi).toNat)
 case atStart => exact ⟨0, k, Nat.zero_le _, rfl, rfl, by omega, by simpa [mkI] using HR0, ⟨Fr.refl _ _⟩⟩
 case round =>
  clear HR0
  obtain ⟨j, kj, hj, rfl, rfl, hkj, HR, HF⟩ := hrel
  by_cases hlt : j < l.length
  ·have g1 : decide (j < l.length) = true := decide_eq_true hlt
   have i1 : (j : Int) < l.length := by omega
   have i2 : 0 ≤ kj := by omega
   have i3 : kj ≤ 4611686018427387904 := by omega
   have hlen : (mkI k j ++ l.drop j).length = l.length := by rw [List.length_append, mkI_len, List.length_drop]; omega
   have hset : (mkI k j ++ l.drop j).set j kj = mkI k (j + 1) ++ l.drop (j + 1) := by
    rw [mid_set _ _ _ _ (mkI_len k j) hlt, mkI_snoc, hkj]
   obtain ⟨g, cap, eA, hgb, hgl, hcl⟩ := Kd.R_form HR.out (by omega)
   injection eA with e1 e2 e3
   subst e1; subst e3
   clear e2
   have hce := Kd.R_celln (0 : Int) HR.out (j : Int) (by omega) (by omega)
   have hpp := Kd.R_putg HR.out (j : Int) kj
   rw [Int.toNat_natCast] at hce hpp
   rw [hset] at hpp
   have HKJ := Aside0.mk hkj
   clear hkj
   obtain ⟨c0, c1⟩ := hce
   have HS := Aside0.mk hpp.1
   have HFS : Aside0 (Fr (fun b => some b = (Value.slice (some ⟨g, 0, none⟩) l.length c).ownBlock) w (wr.setCell ⟨g, j, none⟩ (.int .i64 kj))) := ⟨Fr.set HF.out (fun _ => rfl)⟩
   clear hpp hlen hset hcl hgl
   go_wp2
   go_roundw
   case rel => exact ⟨j + 1, _, by omega, by go_num, rfl, by have := HKJ.out; omega, HS, HFS⟩
   case measure => simp [intOf]; omega
  ·have hke : j = l.length := by omega
   subst hke
   have g1 : decide (l.length < l.length) = false := decide_eq_false (by omega)
   have hR := HR.out
   rw [List.drop_of_length_le (Nat.le_refl _), List.append_nil] at hR
   have HR2 := Aside0.mk hR
   have HKJ := Aside0.mk hkj
   clear hR hkj
   go_wp2
   go_ret
   exact ⟨by rw [HKJ.out]; rfl, HR2.out, HF.out⟩
set_option maxRecDepth 100000 in
theorem heldIntS_any (A : Option Addr) (c : Nat) (n : Nat) (k : Int) (w : World) (h0 : 0 ≤ k) (h1 : k + n ≤ 4611686018427387904) (hL : IsS (Kd.int .i64) w (mkI k n) A c) :
  Calls Tryz.prog 12 #[.slice A n c, .int .i64 k] w fun e w' => e = .returned (.int .i64 (k + n)) ∧ w' = w := by
 have HL := Aside0.mk hL
 have hn : n ≤ 9223372036854775807 := by have := hL.len; rwa [mkI_len] at this
 clear hL
 go_enter Tryz.func12, Tryz.ntmps12
 go_wp2
 go_loop [1, 5] (fun vk vi => ∃ (j : Nat) (kj : Int), j ≤ n ∧ vi = .int .i64 j ∧ vk = .int .i64 kj ∧ kj = k + j) (fun _ vi => n - (intOf vi).toNat)
 case atStart => exact ⟨0, k, Nat.zero_le _, rfl, rfl, by omega⟩
 case round =>
  obtain ⟨j, kj, hj, rfl, rfl, hkj⟩ := hrel
  by_cases hlt : j < n
  ·have g1 : decide (j < n) = true := decide_eq_true hlt
   have i1 : (j : Int) < n := by omega
   have i2 : 0 ≤ kj := by omega
   have i3 : kj ≤ 4611686018427387904 := by omega
   obtain ⟨ad, rfl, hc⟩ := atI HL.out j (by rw [mkI_len]; exact hlt)
   rw [mkI_get k n j hlt, ← hkj] at hc
   have q1 : (kj != kj) = false := by simp
   have HKJ := Aside0.mk hkj
   clear hkj
   go_wp2
   go_round
   case rel => exact ⟨j + 1, _, by omega, by go_num, rfl, by have := HKJ.out; omega⟩
   case measure => simp [intOf]; omega
  ·have hke : j = n := by omega
   subst hke
   have g1 : decide (j < j) = false := decide_eq_false (by omega)
   have HKJ := Aside0.mk hkj
   clear hkj
   go_wp2
   go_ret
   exact ⟨by rw [HKJ.out]; rfl, rfl⟩
end Go.Proofs.YtckblabkapeigaaGreat.Ej8
