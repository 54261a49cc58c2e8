
/- FnExactTapeRead: the law's walk. -/
import Derived.Test.YtdohneeejfeknaaDoorTqi
set_option linter.unusedVariables false
set_option linter.unusedSimpArgs false
namespace Go.Proofs.YtdohneeejfeknaaDoor.Tqj
open Go.RowKit Go.Proofs.YtdohneeejfeknaaDoorW.PrintWords Go.Proofs.YtdohneeejfeknaaDoor.Ja Go.Proofs.YtdohneeejfeknaaDoor.Tqa Go.Proofs.YtdohneeejfeknaaDoor.Tqb Go.Proofs.YtdohneeejfeknaaDoor.Tqc Go.Proofs.YtdohneeejfeknaaDoor.Tqf Go.Proofs.YtdohneeejfeknaaDoor.Tqg Go.Proofs.YtdohneeejfeknaaDoor.Tqh Go.Proofs.YtdohneeejfeknaaDoor.Tqi
theorem readI_len (t : List UInt8) : ((readI t).getD []).length ≤ 30 := by
  unfold readI
  split
  · simp
  · split
    · next h =>
      rw [Bool.and_eq_true] at h
      exact of_decide_eq_true h.1.1
    · simp
theorem cm_len : ∀ l : List TCall, cmS cmCall l = 3 * l.length
  | [] => rfl
  | x :: l => by rw [cmS_cons, cm_len l, List.length_cons]; unfold cmCall; omega
theorem S_isSl {w : World} {base : Nat} {ok : Nat → Prop} {A : Option Addr} {l : List TCall} {k : Int} {c : Nat} (h : Kd.S kCall 41 w base ok (.slice A l.length c) (mkS mkCall cmCall l k)) : IsS kCall w (mkS mkCall cmCall l k) A c := (S_isS h).2
set_option maxHeartbeats 4000000 in
set_option maxRecDepth 100000 in
theorem walk (l : List UInt8) (hl : l.length ≤ 9223372036854775807) (w : World) (hV : Vars w) :
    Calls Tryd.prog 3 #[.string (bs l)] w fun e w' => e = .returned (.bool true) ∧ Below w.heap.size w w' := by
  have HV := Aside0.mk hV
  obtain ⟨n, hn⟩ : ∃ n, l.length = n := ⟨_, rfl⟩
  have hs : (bs l).size = n := by rw [bs_size, hn]
  have HN := Aside0.mk hn
  rw [hn] at hl
  clear hn hV
  by_cases hb : n > 1048576
  · have d1 : decide ((n : Int) > 1048576) = true := decide_eq_true (by omega)
    go_enter Tryd.func3, Tryd.ntmps3
    go_wp2
    go_ret
    exact ⟨rfl, Below.refl _ _⟩
  have d1 : decide ((n : Int) > 1048576) = false := decide_eq_false (by omega)
  have HS := Aside0.mk (sTapeRead_any l (by rw [HN.out]; omega))
  have HI := Aside0.mk (tapeRead_any l (by rw [HN.out]; omega))
  unfold SReadOut at HS
  unfold ReadOut at HI
  have hrl := readI_len l
  generalize (readI l).getD [] = rs at HS HI hrl
  generalize (readI l).isSome = f at HS HI
  have hk := cm_len rs
  have hk2 : 1 + (cmS cmCall rs : Int) ≤ 4611686018427387904 := by omega
  obtain ⟨q, hq⟩ : ∃ q : Int, 1 + (cmS cmCall rs : Int) = q := ⟨_, rfl⟩
  have HQ := Aside0.mk hq
  have dq : decide (q < 0) = false := decide_eq_false (by omega)
  have dqq : (q != q) = false := by simp
  have dff : (f != f) = false := by simp
  clear hq hk
  go_enter Tryd.func3, Tryd.ntmps3
  go_upto_region 4 with (go_at_call 5; refine (HS.out w).mono ?_; rintro e w3 ⟨A3, c3, rfl, hL3, hb3⟩; have HL3 := Aside0.mk hL3; have HB3 := Aside0.mk hb3; clear hL3 hb3)
  have HC3 : Aside0 (Below w3.heap.size w3 w3) := ⟨Below.refl _ _⟩
  go_upto_region 5 with (go_at_call 6; refine (HI.out w3 (HV.out.below HB3.out)).mono ?_; rintro e w4 ⟨v4, rfl, hS4, hb4⟩; obtain ⟨A4, c4, rfl⟩ := Kd.S_slice hS4; have HS4 := Aside0.mk hS4; have HB4 := Aside0.mk (below_then HB3.out HB3.out.size hb4); have HC4 := Aside0.mk hb4; clear hS4 hb4)
  go_upto_region 8 with (go_at_call 7; refine (eqCallS_any A4 A3 c4 c3 rs _ (S_isS HS4.out).2.2 (HL3.out.below HC4.out).2).mono ?_; rintro e w5 ⟨rfl, hb5⟩; have HS5 := Aside0.mk (Kd.S_below HS4.out hb5); have HB5 := Aside0.mk (below_then HB4.out HB4.out.size hb5); have HC5 := Aside0.mk (below_then HC4.out HC4.out.size hb5); clear hb5)
  go_upto_region 10 with (go_at_call 8; refine (markCallS_any w3.heap.size (fun _ => True) (.slice A4 rs.length c4) rs 1 w5 (by omega) hk2 HS5.out).mono ?_; rintro e w6 ⟨rfl, hS6, hf6⟩; rw [HQ.out]; have HS6 := Aside0.mk hS6; have HC6 := Aside0.mk (HC5.out.trans (hf6.below HC5.out.size (fun k hk => hk.2))); have HB6 := Aside0.mk (below_then HB3.out HB3.out.size HC6.out); clear hS6 hf6)
  go_upto_region 15 with (go_at_call 9; refine (heldCallS_any A4 c4 rs 1 _ (by omega) hk2 (S_isSl HS6.out)).mono ?_; rintro e w7 ⟨rfl, hb7⟩; rw [HQ.out]; have HS7 := Aside0.mk (Kd.S_below HS6.out hb7); have HC7 := Aside0.mk (below_then HC6.out HC6.out.size hb7); have HB7 := Aside0.mk (below_then HB6.out HB6.out.size hb7); clear hb7)
  go_upto_region 16 with (go_at_call 6; refine (HI.out w7 (HV.out.below HB7.out)).mono ?_; rintro e w8 ⟨v8, rfl, hS8, hb8⟩; obtain ⟨A8, c8, rfl⟩ := Kd.S_slice hS8; have HX8 := Aside0.mk hS8; have HS8 := Aside0.mk (Kd.S_below HS7.out hb8); have HB8 := Aside0.mk (below_then HB7.out HB7.out.size hb8); have HC8 := Aside0.mk (below_then HC7.out HC7.out.size hb8); clear hS8 hb8)
  go_upto_region 18 with (go_at_call 7; refine (eqCallS_any A8 A3 c8 c3 rs _ (S_isS HX8.out).2.2 (HL3.out.below HC8.out).2).mono ?_; rintro e w9 ⟨rfl, hb9⟩; have HS9 := Aside0.mk (Kd.S_below HS8.out hb9); have HB9 := Aside0.mk (below_then HB8.out HB8.out.size hb9); clear hb9)
  go_wp2_with (go_at_call 9; refine (heldCallS_any A4 c4 rs 1 _ (by omega) hk2 (S_isSl HS9.out)).mono ?_; rintro e w10 ⟨rfl, hb10⟩; rw [HQ.out]; have HB10 := Aside0.mk (below_then HB9.out HB9.out.size hb10); clear hb10)
  go_ret
  exact ⟨rfl, HB10.out⟩
end Go.Proofs.YtdohneeejfeknaaDoor.Tqj
