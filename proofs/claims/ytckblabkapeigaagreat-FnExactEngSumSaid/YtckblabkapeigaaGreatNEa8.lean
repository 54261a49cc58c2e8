
/- Names and modes of rules, both sides. -/
import Derived.Test.YtckblabkapeigaaGreatNJa
set_option linter.unusedVariables false
set_option linter.unusedSimpArgs false
namespace Go.Proofs.YtckblabkapeigaaGreat.Ea8
open Go.RowKit Go.Proofs.YtckblabkapeigaaGreatW.PrintWords Go.Proofs.YtckblabkapeigaaGreat.Ja

def lowB (b : UInt8) : Bool := decide (97 ≤ b.toNat) && decide (b.toNat ≤ 122)
def nameB (s : ByteArray) : Bool := s.data.toList.all lowB && inb s.size 1 6
theorem byte_at (s : ByteArray) (k : Nat) (h : k < s.size) : s.data.toList.take (k + 1) = s.data.toList.take k ++ [s[k]'h] := by
 rw [List.take_succ_eq_append_getElem (by simpa using h)]
 rfl
theorem all_upto (s : ByteArray) (k : Nat) (h : k < s.size) : (s.data.toList.take (k + 1)).all lowB = ((s.data.toList.take k).all lowB && lowB (s[k]'h)) := by rw [byte_at s k h]; simp
theorem no_name (s : ByteArray) (k : Nat) (h : k < s.size) (hb : lowB (s[k]'h) = false) : nameB s = false := by
 unfold nameB
 have h1 : s.data.toList.all lowB = false := by
  rw [List.all_eq_false]
  refine ⟨s[k]'h, ?_, by rw [hb]; simp⟩
  show s.data[k] ∈ s.data.toList
  exact Array.mem_toList_iff.2 (Array.getElem_mem h)
 rw [h1]; rfl
theorem isMode_any (m : Int) (w : World) : Calls Tryz.prog 104 #[.int .i64 m] w fun e w' => e = .returned (.bool (inb m 0 4)) ∧ w' = w := by
 go_enter Tryz.func104, Tryz.ntmps104
 go_wp2_with (go_at_call 54; refine (in_any m 0 4 _).mono ?_; rintro e w' ⟨rfl, rfl⟩)
 go_ret
 exact ⟨rfl, rfl⟩
theorem sMode_any (m : Int) (w : World) : Calls Tryz.prog 71 #[.int .i64 m] w fun e w' => e = .returned (.bool (inb m 0 4)) ∧ w' = w := by
 by_cases h0 : 0 ≤ m
 ·have e1 : decide (m ≥ 0) = true := decide_eq_true h0
  have e2 : decide (m < 5) = decide (m ≤ 4) := by rw [decide_eq_decide]; omega
  have HE := Aside0.mk (show inb m 0 4 = decide (m < 5) by unfold inb; rw [e2]; simp [h0])
  clear e2
  go_enter Tryz.func71, Tryz.ntmps71
  go_wp2
  go_ret
  exact ⟨ret_bool HE.out.symm, rfl⟩
 ·have e1 : decide (m ≥ 0) = false := decide_eq_false h0
  have HE := Aside0.mk (show inb m 0 4 = false by unfold inb; simp; omega)
  go_enter Tryz.func71, Tryz.ntmps71
  go_wp2
  go_ret
  exact ⟨ret_bool HE.out.symm, rfl⟩
set_option maxHeartbeats 1000000 in
set_option maxRecDepth 100000 in
theorem isName_any (s : ByteArray) (w : World) (hs : s.size ≤ 9223372036854775807) : Calls Tryz.prog 103 #[.string s] w fun e w' => e = .returned (.bool (nameB s)) ∧ w' = w := by
 go_enter Tryz.func103, Tryz.ntmps103
 go_wp2
 go_loop [6] (fun vi => ∃ k : Nat, k ≤ s.size ∧ vi = .int .i64 k ∧ Aside0 ((s.data.toList.take k).all lowB = true)) (fun vi => s.size - (intOf vi).toNat)
 case atStart => exact ⟨0, Nat.zero_le _, rfl, ⟨by simp⟩⟩
 case round =>
  obtain ⟨k, hk, rfl, HA⟩ := hrel
  by_cases hlt : k < s.size
  ·have g1 : decide (k < s.size) = true := decide_eq_true hlt
   have i1 : (k : Int) < s.size := by omega
   have HU := Aside0.mk (all_upto s k hlt)
   have HN := Aside0.mk (no_name s k hlt)
   obtain ⟨c, hc⟩ : ∃ c : Nat, c = (s[k]'hlt).toNat := ⟨_, rfl⟩
   have HL : Aside0 (lowB (s[k]'hlt) = (decide (97 ≤ c) && decide (c ≤ 122))) := ⟨by rw [hc]; rfl⟩
   have hc2 : (s[k]'hlt).toNat = c := hc.symm
   clear hc
   by_cases h1 : c < 97
   ·have d1 : decide ((c : Int) < 97) = true := decide_eq_true (by omega)
    have HF : Aside0 (nameB s = false) := ⟨HN.out (by rw [HL.out]; simp; omega)⟩
    clear h1
    go_wp2
    go_ret
    exact ⟨by rw [HF.out]; rfl, rfl⟩
   ·have d1 : decide ((c : Int) < 97) = false := decide_eq_false (by omega)
    by_cases h2 : c > 122
    ·have d2 : decide ((c : Int) > 122) = true := decide_eq_true (by omega)
     have HF : Aside0 (nameB s = false) := ⟨HN.out (by rw [HL.out]; simp; omega)⟩
     clear h1 h2
     go_wp2
     go_ret
     exact ⟨by rw [HF.out]; rfl, rfl⟩
    ·have d2 : decide ((c : Int) > 122) = false := decide_eq_false (by omega)
     have HT : Aside0 ((s.data.toList.take (k + 1)).all lowB = true) := ⟨by rw [HU.out, HA.out, HL.out]; simp; omega⟩
     clear h1 h2
     go_wp2
     go_round
     case rel => exact ⟨k + 1, by omega, by go_num, HT⟩
     case measure => simp [intOf]; omega
  ·have hke : k = s.size := by omega
   subst hke
   have g1 : decide (s.size < s.size) = false := decide_eq_false (by omega)
   have HN : Aside0 (nameB s = inb s.size 1 6) := ⟨by
    unfold nameB
    have h := HA.out
    rw [List.take_of_length_le (show s.data.toList.length ≤ s.size from Nat.le_refl _)] at h
    rw [h]; rfl⟩
   go_wp2_with (go_at_call 54; refine (in_any s.size 1 6 _).mono ?_; rintro e w2 ⟨rfl, he⟩; subst he; rw [← HN.out])
   go_ret
   exact ⟨rfl, rfl⟩
set_option maxHeartbeats 1000000 in
set_option maxRecDepth 100000 in
theorem sName_any (s : ByteArray) (w : World) (hs : s.size ≤ 9223372036854775807) : Calls Tryz.prog 95 #[.string s] w fun e w' => e = .returned (.bool (nameB s)) ∧ w' = w := by
 go_enter Tryz.func95, Tryz.ntmps95
 go_wp2
 go_loop [3] (fun vi => ∃ k : Nat, k ≤ s.size ∧ vi = .int .i64 k ∧ Aside0 ((s.data.toList.take k).all lowB = true)) (fun vi => s.size - (intOf vi).toNat)
 case atStart => exact ⟨0, Nat.zero_le _, rfl, ⟨by simp⟩⟩
 case round =>
  obtain ⟨k, hk, rfl, HA⟩ := hrel
  by_cases hlt : k < s.size
  ·have g1 : decide (k < s.size) = true := decide_eq_true hlt
   have i1 : (k : Int) < s.size := by omega
   have HU := Aside0.mk (all_upto s k hlt)
   have HN := Aside0.mk (no_name s k hlt)
   obtain ⟨c, hc⟩ : ∃ c : Nat, c = (s[k]'hlt).toNat := ⟨_, rfl⟩
   have HL : Aside0 (lowB (s[k]'hlt) = (decide (97 ≤ c) && decide (c ≤ 122))) := ⟨by rw [hc]; rfl⟩
   have hc2 : (s[k]'hlt).toNat = c := hc.symm
   clear hc
   by_cases h1 : c < 97
   ·have d1 : decide ((c : Int) < 97) = true := decide_eq_true (by omega)
    have HF : Aside0 (nameB s = false) := ⟨HN.out (by rw [HL.out]; simp; omega)⟩
    clear h1
    go_wp2
    go_ret
    exact ⟨by rw [HF.out]; rfl, rfl⟩
   ·have d1 : decide ((c : Int) < 97) = false := decide_eq_false (by omega)
    by_cases h2 : c > 122
    ·have d2 : decide ((c : Int) > 122) = true := decide_eq_true (by omega)
     have HF : Aside0 (nameB s = false) := ⟨HN.out (by rw [HL.out]; simp; omega)⟩
     clear h1 h2
     go_wp2
     go_ret
     exact ⟨by rw [HF.out]; rfl, rfl⟩
    ·have d2 : decide ((c : Int) > 122) = false := decide_eq_false (by omega)
     have HT : Aside0 ((s.data.toList.take (k + 1)).all lowB = true) := ⟨by rw [HU.out, HA.out, HL.out]; simp; omega⟩
     clear h1 h2
     go_wp2
     go_round
     case rel => exact ⟨k + 1, by omega, by go_num, HT⟩
     case measure => simp [intOf]; omega
  ·have hke : k = s.size := by omega
   subst hke
   have g1 : decide (s.size < s.size) = false := decide_eq_false (by omega)
   have HN : Aside0 (nameB s = inb s.size 1 6) := ⟨by
    unfold nameB
    have h := HA.out
    rw [List.take_of_length_le (show s.data.toList.length ≤ s.size from Nat.le_refl _)] at h
    rw [h]; rfl⟩
   by_cases h0 : 0 < s.size
   ·have e0 : decide (0 < s.size) = true := decide_eq_true h0
    have HE : Aside0 (decide ((s.size : Int) ≤ 6) = nameB s) := ⟨by rw [HN.out]; unfold inb; rw [decide_eq_true (show (1 : Int) ≤ s.size by omega)]; simp⟩
    clear h0
    go_wp2
    go_ret
    exact ⟨by rw [← HE.out]; simp, rfl⟩
   ·have e0 : decide (0 < s.size) = false := decide_eq_false h0
    have HE : Aside0 (nameB s = false) := ⟨by rw [HN.out]; unfold inb; rw [decide_eq_false (show ¬ (1 : Int) ≤ s.size by omega)]; simp⟩
    clear h0
    go_wp2
    go_ret
    exact ⟨by rw [HE.out]; rfl, rfl⟩
end Go.Proofs.YtckblabkapeigaaGreat.Ea8
