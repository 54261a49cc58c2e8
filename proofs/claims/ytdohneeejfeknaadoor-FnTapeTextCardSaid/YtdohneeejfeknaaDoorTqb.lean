
/- Bytes as texts; a letter and a number in decimals: the program's and the reference's functions. Printed by genTqb.py. -/
import Derived.Test.YtdohneeejfeknaaDoorTqa
import Derived.Laws.IdiomStrings
import Derived.Lib.ItoaNum
set_option linter.unusedVariables false
set_option linter.unusedSimpArgs false
namespace Go.Proofs.YtdohneeejfeknaaDoor.Tqb
open Go.RowKit Go.Proofs.YtdohneeejfeknaaDoorW.PrintWords Go.Proofs.YtdohneeejfeknaaDoor.Ja Go.Proofs.YtdohneeejfeknaaDoor.Tqa
def bs (l : List UInt8) : ByteArray := ⟨l.toArray⟩
theorem bs_app (a b : List UInt8) : bs a ++ bs b = bs (a ++ b) := by
  apply ByteArray.ext
  rw [ByteArray.data_append]
  simp [bs]
theorem bs_size (a : List UInt8) : (bs a).size = a.length := by simp [bs, ByteArray.size]
theorem bs_list (a : List UInt8) : (bs a).toList = a := by rw [ByteArray.toList_eq]; simp [bs]
theorem bs_inj {a b : List UInt8} (h : bs a = bs b) : a = b := by rw [← bs_list a, ← bs_list b, h]
/-- a type's letter -/
def letB (s : Int) : List UInt8 := if 0 ≤ s ∧ s ≤ 4 then [UInt8.ofNat (97 + s.toNat)] else [63]
theorem letB_len (s : Int) : (letB s).length = 1 := by unfold letB; split <;> rfl
set_option maxRecDepth 100000 in
theorem letter_any (s : Int) (w : World) : Calls Tryd.prog 41 #[.int .i64 s] w fun e w' => e = .returned (.string (bs (letB s))) ∧ w' = w := by
  by_cases h : 0 ≤ s ∧ s ≤ 4
  · rcases (show s = 0 ∨ s = 1 ∨ s = 2 ∨ s = 3 ∨ s = 4 by omega) with rfl | rfl | rfl | rfl | rfl
    all_goals
      clear h
      go_enter Tryd.func41, Tryd.ntmps41
      go_wp2_with (go_at_call 48; refine (isSym_any _ _).mono ?_; rintro e w2 ⟨rfl, rfl⟩)
      go_ret
      exact ⟨rfl, rfl⟩
  · have HL : Aside0 (letB s = [63]) := ⟨if_neg h⟩
    have hf : fit s = false := by unfold fit inb; by_cases a : 0 ≤ s <;> simp [a]; omega
    clear h
    go_enter Tryd.func41, Tryd.ntmps41
    go_wp2_with (go_at_call 48; refine (isSym_any _ _).mono ?_; rintro e w2 ⟨rfl, rfl⟩)
    go_ret
    exact ⟨by rw [HL.out]; rfl, rfl⟩
set_option maxRecDepth 100000 in
theorem l1Letter_any (s : Int) (w : World) : Calls Tryd.prog 25 #[.int .i64 s] w fun e w' => e = .returned (.string (bs (letB s))) ∧ w' = w := by
  by_cases h : 0 ≤ s ∧ s ≤ 4
  · rcases (show s = 0 ∨ s = 1 ∨ s = 2 ∨ s = 3 ∨ s = 4 by omega) with rfl | rfl | rfl | rfl | rfl
    all_goals
      clear h
      go_enter Tryd.func25, Tryd.ntmps25
      go_wp2
      go_ret
      exact ⟨rfl, rfl⟩
  · have HL : Aside0 (letB s = [63]) := ⟨if_neg h⟩
    by_cases h0 : s < 0
    · have d0 : decide (s < 0) = true := decide_eq_true h0
      clear h
      go_enter Tryd.func25, Tryd.ntmps25
      go_wp2
      go_ret
      exact ⟨by rw [HL.out]; rfl, rfl⟩
    · have d0 : decide (s < 0) = false := decide_eq_false h0
      have d1 : decide (s ≥ 5) = true := decide_eq_true (by omega)
      clear h
      go_enter Tryd.func25, Tryd.ntmps25
      go_wp2
      go_ret
      exact ⟨by rw [HL.out]; rfl, rfl⟩
theorem dec_step (m : Nat) (h : 9 < m) : Lib.decDigits m = Lib.decDigits (m / 10) ++ [UInt8.ofNat (48 + m % 10)] := by
  conv => lhs; rw [Lib.decDigits, dif_neg (by omega)]
theorem conv1 (w : World) (z : Nat) (hz : z < 256) (t : TypeId) : (convert 28 9 (.slice (some ⟨w.heap.size, 0, none⟩) 1 1)).run Tryd.prog (w.alloc (.cells #[.int .u8 z] t)) = .ok (.string (bs [UInt8.ofNat z])) (w.alloc (.cells #[.int .u8 z] t)) :=
  run_convert_bytes_back _ _ _ 5 ⟨w.heap.size, 0, none⟩ 1 [UInt8.ofNat z] Tryd.underlying28 Tryd.underlying5 Tryd.underlying9 (fun j hj => by
    have h0 : j = 0 := by simpa using hj
    subst h0
    have hc : (w.alloc (.cells #[.int .u8 z] t)).cell? ⟨w.heap.size, 0, none⟩ = some (.int .u8 z) := (blk_cell (blk_new w (.cells #[.int .u8 z] t)) 0).trans rfl
    have hb : ((UInt8.ofNat z).toNat : Int) = z := by rw [UInt8.toNat_ofNat_of_lt' (by show z < 256; exact hz)]
    show (w.alloc (.cells #[.int .u8 z] t)).cell? ⟨w.heap.size, 0 + 0, none⟩ = some (.int .u8 ((UInt8.ofNat z).toNat : Int))
    rw [hb]; exact hc)
set_option maxHeartbeats 2000000 in
set_option maxRecDepth 100000 in
theorem dec_any (n : Nat) (h1 : n ≤ 4611686018427387904) (w : World) : Calls Tryd.prog 46 #[.int .i64 n] w fun e w' => e = .returned (.string (bs (Lib.decDigits n))) ∧ Below w.heap.size w w' := by
  have d1 : decide ((n : Int) < -9223372036854775807) = false := decide_eq_false (by omega)
  have d2 : decide ((n : Int) < 0) = false := decide_eq_false (by omega)
  go_enter Tryd.func46, Tryd.ntmps46
  go_wp2
  go_loopw [0, 3] (fun v0 v3 wr => ∃ (m : Nat) (o : List UInt8), v0 = .int .i64 m ∧ v3 = .string (bs o) ∧ m + o.length ≤ n ∧ Aside0 (Lib.decDigits n = Lib.decDigits m ++ o) ∧ Aside0 (Below w.heap.size w wr)) (fun v0 _ _ => (intOf v0).toNat)
  case atStart => exact ⟨n, [], rfl, rfl, by simp, ⟨by simp⟩, ⟨Below.refl _ _⟩⟩
  case round =>
    obtain ⟨m, o, rfl, rfl, hm, HD, HB⟩ := hrel
    by_cases hlt : 9 < m
    · have g1 : decide ((m : Int) > 9) = true := decide_eq_true (by omega)
      have hcv := conv1 wr (48 + m % 10) (by omega) 5
      have hd : Lib.decDigits n = Lib.decDigits (m / 10) ++ ([UInt8.ofNat (48 + m % 10)] ++ o) := by rw [HD.out, dec_step m hlt, List.append_assoc]
      have e1 : ((48 + m % 10 : Nat) : Int) = 48 + (m : Int) % 10 := by omega
      rw [e1] at hcv
      obtain ⟨b, hbb⟩ : ∃ b : UInt8, UInt8.ofNat (48 + m % 10) = b := ⟨_, rfl⟩
      rw [hbb] at hcv hd
      have hsz : ¬ ((bs [b]).size + (bs o).size > 9223372036854775807) := by rw [bs_size, bs_size]; simp; omega
      have HAP := Aside0.mk (bs_app [b] o)
      have HD2 := Aside0.mk hd
      have HB2 := Aside0.mk (below_then HB.out HB.out.size (below_alloc (Below.refl wr.heap.size wr) (.cells #[.int .u8 (48 + (m : Int) % 10)] 5)))
      clear hd e1 hbb
      go_wp2
      rw [HAP.out]
      go_roundw
      case rel => exact ⟨m / 10, _, by go_num, rfl, by simp; omega, HD2, HB2⟩
      case measure => simp [intOf]; omega
    · have g1 : decide ((m : Int) > 9) = false := decide_eq_false (by omega)
      have hcv := conv1 wr (48 + m) (by omega) 5
      have hd : Lib.decDigits n = [UInt8.ofNat (48 + m)] ++ o := by rw [HD.out, Lib.decDigits_one (by omega)]
      have e1 : ((48 + m : Nat) : Int) = 48 + (m : Int) := by omega
      rw [e1] at hcv
      obtain ⟨b, hbb⟩ : ∃ b : UInt8, UInt8.ofNat (48 + m) = b := ⟨_, rfl⟩
      rw [hbb] at hcv hd
      have hsz : ¬ ((bs [b]).size + (bs o).size > 9223372036854775807) := by rw [bs_size, bs_size]; simp; omega
      have HAP := Aside0.mk (bs_app [b] o)
      have HD2 := Aside0.mk hd
      have HB2 := Aside0.mk (below_then HB.out HB.out.size (below_alloc (Below.refl wr.heap.size wr) (.cells #[.int .u8 (48 + (m : Int))] 5)))
      clear hd e1 hbb
      go_wp2
      go_ret
      exact ⟨by (rw [HAP.out, HD2.out]; try rfl), HB2.out⟩
theorem dig_len : ∀ (k n : Nat), n < 10 ^ (k + 1) → (Lib.decDigits n).length ≤ k + 1
  | 0, n, h => by rw [Lib.decDigits_one (by omega)]; simp
  | k + 1, n, h => by
    by_cases h9 : n ≤ 9
    · rw [Lib.decDigits_one (by omega)]; simp
    · rw [dec_step n (by omega), List.length_append]
      have := dig_len k (n / 10) (by rw [Nat.pow_succ] at h; omega)
      simp; omega
theorem itoa_len19 (n : Int) (h0 : -4611686018427387904 ≤ n) (h1 : n ≤ 4611686018427387904) : (Lib.itoa n).length ≤ 20 := by
  unfold Lib.itoa
  have a : (Lib.decDigits n.natAbs).length ≤ 19 := dig_len 18 _ (by omega)
  have b : (Lib.decDigits n.toNat).length ≤ 19 := dig_len 18 _ (by omega)
  split
  · simp; omega
  · first | (have := b; omega) | (have := a; omega)
set_option maxRecDepth 100000 in
theorem decI_any (n : Int) (h0 : -4611686018427387904 ≤ n) (h1 : n ≤ 4611686018427387904) (w : World) : Calls Tryd.prog 46 #[.int .i64 n] w fun e w' => e = .returned (.string (bs (Lib.itoa n))) ∧ Below w.heap.size w w' := by
  by_cases hn : n < 0
  · obtain ⟨m, hm⟩ : ∃ m : Nat, (m : Int) = -n := ⟨n.natAbs, by omega⟩
    have he : n = -(m : Int) := by omega
    subst he
    have HI := Aside0.mk (show bs [45] ++ bs (Lib.decDigits m) = bs (Lib.itoa (-(m : Int))) by
      rw [bs_app]; unfold Lib.itoa; rw [if_pos hn, show (-(m : Int)).natAbs = m by omega]; rfl)
    have d1 : decide (-(m : Int) < -9223372036854775807) = false := decide_eq_false (by omega)
    have d2 : decide (-(m : Int) < 0) = true := decide_eq_true hn
    have hl : (Lib.decDigits m).length ≤ 19 := dig_len 18 m (by omega)
    have hz : ¬ ((bs [45]).size + (bs (Lib.decDigits m)).size > 9223372036854775807) := by rw [bs_size, bs_size]; simp; omega
    have e1 : (-(-(m : Int))) = m := by omega
    have HC := Aside0.mk (dec_any m (by omega))
    clear hl hm
    go_enter Tryd.func46, Tryd.ntmps46
    go_wp2_with (go_at_call 46; refine (HC.out _).mono ?_; rintro e w2 ⟨rfl, hb2⟩)
    go_ret
    exact ⟨by (rw [← HI.out]; try rfl), hb2⟩
  · obtain ⟨m, rfl⟩ : ∃ m : Nat, n = m := ⟨n.toNat, by omega⟩
    have e : Lib.itoa (m : Int) = Lib.decDigits m := by unfold Lib.itoa; rw [if_neg hn]; congr 1
    rw [e]
    exact dec_any m (by omega) w
theorem l8Dec_any (n : Int) (h0 : -4611686018427387904 ≤ n) (h1 : n ≤ 4611686018427387904) (w : World) : Calls Tryd.prog 26 #[.int .i64 n] w fun e w' => e = .returned (.string (bs (Lib.itoa n))) ∧ Below w.heap.size w w' := by
  go_enter Tryd.func26, Tryd.ntmps26
  go_wp2_with (go_at_call 46; refine (decI_any n h0 h1 _).mono ?_; rintro e w2 ⟨rfl, hb2⟩)
  go_ret
  exact ⟨rfl, hb2⟩
end Go.Proofs.YtdohneeejfeknaaDoor.Tqb
