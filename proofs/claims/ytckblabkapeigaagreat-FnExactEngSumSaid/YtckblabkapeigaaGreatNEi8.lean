
/- Marks: the laws' own functions: a mark's text. -/
import Derived.Test.YtckblabkapeigaaGreatNNd
set_option linter.unusedVariables false
set_option linter.unusedSimpArgs false
namespace Go.Proofs.YtckblabkapeigaaGreat.Ei8
open Go.RowKit Go.Proofs.YtckblabkapeigaaGreatW.PrintWords Go.Proofs.YtckblabkapeigaaGreat.Ja Go.Proofs.YtckblabkapeigaaGreat.Jb Go.Proofs.YtckblabkapeigaaGreat.Jc Go.Proofs.YtckblabkapeigaaGreat.Jd Go.Proofs.YtckblabkapeigaaGreat.Jg Go.Proofs.YtckblabkapeigaaGreat.Na Go.Proofs.YtckblabkapeigaaGreat.Nd

def digB (m : Nat) : List UInt8 := if m = 0 then [] else Lib.decDigits m
def markB (k : Int) : List UInt8 := if k ≤ 0 then [109, 48] else 109 :: digB k.toNat
theorem dig_step (m : Nat) (h : 0 < m) : digB m = digB (m / 10) ++ [UInt8.ofNat (48 + m % 10)] := by
 unfold digB
 rw [if_neg (by omega)]
 by_cases h9 : 9 < m
 ·rw [if_neg (by omega), dec_step m h9]
 ·rw [if_pos (by omega), Lib.decDigits_one (by omega), List.nil_append, Nat.mod_eq_of_lt (by omega)]
set_option maxHeartbeats 2000000 in
set_option maxRecDepth 100000 in
theorem markText_any (k : Int) (h1 : k ≤ 4611686018427387904) (w : World) : Calls Tryz.prog 63 #[.int .i64 k] w fun e w' => e = .returned (.string (bs (markB k))) ∧ Below w.heap.size w w' := by
 by_cases h0 : k ≤ 0
 ·have d1 : decide (k ≤ 0) = true := decide_eq_true h0
  have HE : Aside0 (markB k = [109, 48]) := ⟨if_pos h0⟩
  clear h0
  go_enter Tryz.func63, Tryz.ntmps63
  go_wp2
  go_ret
  exact ⟨by rw [HE.out]; rfl, Below.refl _ _⟩
 obtain ⟨n, rfl⟩ : ∃ n : Nat, k = n := ⟨k.toNat, by omega⟩
 have d1 : decide ((n : Int) ≤ 0) = false := decide_eq_false h0
 have d2 : decide (n = 0) = false := decide_eq_false (by omega)
 have d3 : ¬ n = 0 := by omega
 have HE : Aside0 (markB n = 109 :: digB n) := ⟨if_neg h0⟩
 have hn : n ≤ 4611686018427387904 := by omega
 clear h0 h1
 go_enter Tryz.func63, Tryz.ntmps63
 go_wp2
 clear d1 d2 d3
 go_loopw [0, 3] (fun v0 v3 wr => ∃ (m : Nat) (o : List UInt8), v0 = .int .i64 m ∧ v3 = .string (bs o) ∧ m + o.length ≤ n ∧ Aside0 (digB n = digB m ++ o) ∧ Aside0 (Below w.heap.size w wr)) (fun v0 _ _ => (intOf v0).toNat)
 case atStart => exact ⟨n, [], rfl, rfl, by simp, ⟨by simp⟩, ⟨Below.refl _ _⟩⟩
 case round =>
  obtain ⟨m, o, rfl, rfl, hm, HD, HB⟩ := hrel
  by_cases hlt : 0 < m
  ·have g1 : decide (0 < m) = true := decide_eq_true hlt
   have g1' : decide ((m : Int) > 0) = true := decide_eq_true (by omega)
   have hcv := conv1 wr (48 + m % 10) (by omega) 5
   have hd : digB n = digB (m / 10) ++ ([UInt8.ofNat (48 + m % 10)] ++ o) := by rw [HD.out, dig_step m hlt, List.append_assoc]
   have e1 : ((48 + m % 10 : Nat) : Int) = 48 + (m : Int) % 10 := by omega
   rw [e1] at hcv
   obtain ⟨b, hbb⟩ : ∃ b : UInt8, UInt8.ofNat (48 + m % 10) = b := ⟨_, rfl⟩
   rw [hbb] at hcv hd
   have hsz : ¬ ((bs [b]).size + (bs o).size > 9223372036854775807) := by rw [bs_size, bs_size]; simp; omega
   have HAP := Aside0.mk (bs_app [b] o)
   have HD2 := Aside0.mk hd
   have HB2 := Aside0.mk (below_then HB.out HB.out.size (below_alloc (Below.refl wr.heap.size wr) (.cells #[.int .u8 (48 + (m : Int) % 10)] 5)))
   clear hd e1 hbb
   go_wp2
   rw [HAP.out]
   go_roundw
   case rel => exact ⟨m / 10, _, by go_num, rfl, by simp; omega, HD2, HB2⟩
   case measure => simp [intOf]; omega
  ·have hm0 : m = 0 := by omega
   subst hm0
   have g1 : decide ((0 : Nat) < 0) = false := rfl
   have HF : Aside0 (({ data := #[109] } : ByteArray) ++ bs o = bs (markB n)) := ⟨by
    rw [HE.out, HD.out]
    exact bs_app [109] o⟩
   have hsz : ¬ (({ data := #[109] } : ByteArray).size + (bs o).size > 9223372036854775807) := by rw [bs_size]; show ¬ (1 + o.length > _); omega
   go_wp2
   go_ret
   exact ⟨by rw [← HF.out]; rfl, HB.out⟩
end Go.Proofs.YtckblabkapeigaaGreat.Ei8
