
/- Small texts: a letter, a number in decimals, words of kinds: the program's functions and the reference's. -/
import Derived.Test.YtckblabkapeigaaNa
import Derived.Test.YtckblabkapeigaaJd
import Derived.Laws.IdiomStrings
set_option linter.unusedVariables false
set_option linter.unusedSimpArgs false
namespace Go.Proofs.Ytckblabkapeigaa.Nd
open Go.RowKit Go.Proofs.YtckblabkapeigaaW.PrintWords Go.Proofs.Ytckblabkapeigaa.Ja Go.Proofs.Ytckblabkapeigaa.Jb Go.Proofs.Ytckblabkapeigaa.Jc Go.Proofs.Ytckblabkapeigaa.Jd Go.Proofs.Ytckblabkapeigaa.Jg Go.Proofs.Ytckblabkapeigaa.Na

/-- bytes as a text -/
def bs (l : List UInt8) : ByteArray := ⟨l.toArray⟩
theorem bs_app (a b : List UInt8) : bs a ++ bs b = bs (a ++ b) := by
  apply ByteArray.ext
  rw [ByteArray.data_append]
  simp [bs]
theorem bs_size (a : List UInt8) : (bs a).size = a.length := by simp [bs, ByteArray.size]
theorem bs_list (a : List UInt8) : (bs a).toList = a := by rw [ByteArray.toList_eq]; simp [bs]
theorem bs_inj {a b : List UInt8} (h : bs a = bs b) : a = b := by rw [← bs_list a, ← bs_list b, h]
set_option maxRecDepth 100000 in
theorem l1Letter_any (s : Int) (h0 : 0 ≤ s) (h1 : s ≤ 4) (w : World) : Calls Try.prog 80 #[.int .i64 s] w fun e w' => e = .returned (.string (bs (letB s))) ∧ w' = w := by
  rcases (show s = 0 ∨ s = 1 ∨ s = 2 ∨ s = 3 ∨ s = 4 by omega) with rfl | rfl | rfl | rfl | rfl
  all_goals
    go_enter Try.func80, Try.ntmps80
    go_wp2
    go_ret
    exact ⟨rfl, rfl⟩
theorem dec_step (m : Nat) (h : 9 < m) : Lib.decDigits m = Lib.decDigits (m / 10) ++ [UInt8.ofNat (48 + m % 10)] := by
  conv => lhs; rw [Lib.decDigits, dif_neg (by omega)]
theorem conv1 (w : World) (z : Nat) (hz : z < 256) (t : TypeId) : (convert 89 9 (.slice (some ⟨w.heap.size, 0, none⟩) 1 1)).run Try.prog (w.alloc (.cells #[.int .u8 z] t)) = .ok (.string (bs [UInt8.ofNat z])) (w.alloc (.cells #[.int .u8 z] t)) :=
  run_convert_bytes_back _ _ _ 5 ⟨w.heap.size, 0, none⟩ 1 [UInt8.ofNat z] Try.underlying89 Try.underlying5 Try.underlying9 (fun j hj => by
    have h0 : j = 0 := by simpa using hj
    subst h0
    have hc : (w.alloc (.cells #[.int .u8 z] t)).cell? ⟨w.heap.size, 0, none⟩ = some (.int .u8 z) := (blk_cell (blk_new w (.cells #[.int .u8 z] t)) 0).trans rfl
    have hb : ((UInt8.ofNat z).toNat : Int) = z := by rw [UInt8.toNat_ofNat_of_lt' (by show z < 256; exact hz)]
    show (w.alloc (.cells #[.int .u8 z] t)).cell? ⟨w.heap.size, 0 + 0, none⟩ = some (.int .u8 ((UInt8.ofNat z).toNat : Int))
    rw [hb]; exact hc)
set_option maxHeartbeats 2000000 in
set_option maxRecDepth 100000 in
theorem dec_any (n : Nat) (h1 : n ≤ 4611686018427387904) (w : World) : Calls Try.prog 82 #[.int .i64 n] w fun e w' => e = .returned (.string (bs (Lib.decDigits n))) ∧ Below w.heap.size w w' := by
  have d1 : decide ((n : Int) < -9223372036854775807) = false := decide_eq_false (by omega)
  have d2 : decide ((n : Int) < 0) = false := decide_eq_false (by omega)
  go_enter Try.func82, Try.ntmps82
  go_wp2
  go_loopw [0, 3] (fun v0 v3 wr => ∃ (m : Nat) (o : List UInt8), v0 = .int .i64 m ∧ v3 = .string (bs o) ∧ m + o.length ≤ n ∧ Aside0 (Lib.decDigits n = Lib.decDigits m ++ o) ∧ Aside0 (Below w.heap.size w wr)) (fun v0 _ _ => (intOf v0).toNat)
  case atStart => exact ⟨n, [], rfl, rfl, by simp, ⟨by simp⟩, ⟨Below.refl _ _⟩⟩
  case round =>
    obtain ⟨m, o, rfl, rfl, hm, HD, HB⟩ := hrel
    by_cases hlt : 9 < m
    · have g1 : decide ((m : Int) > 9) = true := decide_eq_true (by omega)
      have hcv := conv1 wr (48 + m % 10) (by omega) 5
      have hd : Lib.decDigits n = Lib.decDigits (m / 10) ++ ([UInt8.ofNat (48 + m % 10)] ++ o) := by rw [HD.out, dec_step m hlt, List.append_assoc]
      have e1 : ((48 + m % 10 : Nat) : Int) = 48 + (m : Int) % 10 := by omega
      rw [e1] at hcv
      obtain ⟨b, hbb⟩ : ∃ b : UInt8, UInt8.ofNat (48 + m % 10) = b := ⟨_, rfl⟩
      rw [hbb] at hcv hd
      have hsz : ¬ ((bs [b]).size + (bs o).size > 9223372036854775807) := by rw [bs_size, bs_size]; simp; omega
      have HAP := Aside0.mk (bs_app [b] o)
      have HD2 := Aside0.mk hd
      have HB2 := Aside0.mk (below_then HB.out HB.out.size (below_alloc (Below.refl wr.heap.size wr) (.cells #[.int .u8 (48 + (m : Int) % 10)] 5)))
      clear hd e1 hbb
      go_wp2
      rw [HAP.out]
      go_roundw
      case rel => exact ⟨m / 10, _, by go_num, rfl, by simp; omega, HD2, HB2⟩
      case measure => simp [intOf]; omega
    · have g1 : decide ((m : Int) > 9) = false := decide_eq_false (by omega)
      have hcv := conv1 wr (48 + m) (by omega) 5
      have hd : Lib.decDigits n = [UInt8.ofNat (48 + m)] ++ o := by rw [HD.out, Lib.decDigits_one (by omega)]
      have e1 : ((48 + m : Nat) : Int) = 48 + (m : Int) := by omega
      rw [e1] at hcv
      obtain ⟨b, hbb⟩ : ∃ b : UInt8, UInt8.ofNat (48 + m) = b := ⟨_, rfl⟩
      rw [hbb] at hcv hd
      have hsz : ¬ ((bs [b]).size + (bs o).size > 9223372036854775807) := by rw [bs_size, bs_size]; simp; omega
      have HAP := Aside0.mk (bs_app [b] o)
      have HD2 := Aside0.mk hd
      have HB2 := Aside0.mk (below_then HB.out HB.out.size (below_alloc (Below.refl wr.heap.size wr) (.cells #[.int .u8 (48 + (m : Int))] 5)))
      clear hd e1 hbb
      go_wp2
      go_ret
      exact ⟨by (rw [HAP.out, HD2.out]; try rfl), HB2.out⟩
end Go.Proofs.Ytckblabkapeigaa.Nd
