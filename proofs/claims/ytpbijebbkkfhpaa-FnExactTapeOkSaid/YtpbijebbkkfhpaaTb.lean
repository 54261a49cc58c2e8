/- What the functions under TapeOk come to, on lists of calls (three numbers each): one walk each. -/
import Derived.Test.YtpbijebbkkfhpaaWd
import Derived.Test.YtpbijebbkkfhpaaTa
import Derived.StillTailTactics
set_option linter.unusedVariables false
set_option linter.unusedSimpArgs false
namespace Go.Proofs.Ytpbijebbkkfhpaa.Tb
open Go.RowKit Go.Proofs.YtpbijebbkkfhpaaW.PrintWords Go.Proofs.Ytpbijebbkkfhpaa.Wd
open Go.Proofs.Ytpbijebbkkfhpaa.Ta (fit in_any isSym_any)

def inb (n a b : Int) : Bool := decide (a ≤ n) && decide (n ≤ b)
def okCall (x : T3) : Bool := fit x.a && inb x.b 1 20 && inb x.c 0 100

theorem callOk_any (x : T3) (w : World) : Calls Try.prog 37 #[.agg #[.int .i64 x.a, .int .i64 x.b, .int .i64 x.c]] w fun e w' => e = .returned (.bool (okCall x)) ∧ Below w.heap.size w w' := by
  obtain ⟨a, b, c⟩ := x
  unfold okCall
  cases hf : fit a with
  | false =>
    go_enter Try.func37, Try.ntmps37
    go_wp2_with (first | (go_at_call 31; refine (isSym_any _ _).mono ?_; rintro e w' ⟨rfl, rfl⟩))
    go_ret
    exact ⟨by simp, (Below.refl _ _).alloc (Nat.le_refl _) _⟩
  | true =>
    cases hb : inb b 1 20 with
    | false =>
      unfold inb at hb
      go_enter Try.func37, Try.ntmps37
      go_wp2_with (first | (go_at_call 31; refine (isSym_any _ _).mono ?_; rintro e w' ⟨rfl, rfl⟩) | (go_at_call 53; refine (in_any _ _ _ _).mono ?_; rintro e w' ⟨rfl, rfl⟩))
      go_ret
      exact ⟨by simp, (Below.refl _ _).alloc (Nat.le_refl _) _⟩
    | true =>
      unfold inb at hb
      go_enter Try.func37, Try.ntmps37
      go_wp2_with (first | (go_at_call 31; refine (isSym_any _ _).mono ?_; rintro e w' ⟨rfl, rfl⟩) | (go_at_call 53; refine (in_any _ _ _ _).mono ?_; rintro e w' ⟨rfl, rfl⟩))
      go_ret
      exact ⟨by simp [inb], (Below.refl _ _).alloc (Nat.le_refl _) _⟩

theorem specCall_any (x : T3) (w : World) : Calls Try.prog 33 #[.agg #[.int .i64 x.a, .int .i64 x.b, .int .i64 x.c]] w fun e w' => e = .returned (.bool (okCall x)) ∧ Below w.heap.size w w' := by
  obtain ⟨a, b, c⟩ := x
  by_cases h0 : 0 ≤ a
  · skip
    by_cases h1 : a < 5
    · skip
      by_cases h2 : 1 ≤ b
      · skip
        by_cases h3 : b ≤ 20
        · skip
          by_cases h4 : 0 ≤ c
          · have HQ := Aside0.mk (show okCall ⟨a, b, c⟩ = decide (c ≤ 100) by simp [okCall, fit, inb, h0, h2, h3, h4, show a ≤ 4 by omega])
            go_enter Try.func33, Try.ntmps33
            go_wp2
            go_ret
            exact ⟨by rw [HQ.out]; rfl, (Below.refl _ _).alloc (Nat.le_refl _) _⟩
          · have HQ := Aside0.mk (show okCall ⟨a, b, c⟩ = false by simp only [okCall, fit, inb]; simp; omega)
            go_enter Try.func33, Try.ntmps33
            go_wp2
            go_ret
            exact ⟨by rw [HQ.out]; rfl, (Below.refl _ _).alloc (Nat.le_refl _) _⟩
        · have HQ := Aside0.mk (show okCall ⟨a, b, c⟩ = false by simp only [okCall, fit, inb]; simp; omega)
          go_enter Try.func33, Try.ntmps33
          go_wp2
          go_ret
          exact ⟨by rw [HQ.out]; rfl, (Below.refl _ _).alloc (Nat.le_refl _) _⟩
      · have HQ := Aside0.mk (show okCall ⟨a, b, c⟩ = false by simp only [okCall, fit, inb]; simp; omega)
        go_enter Try.func33, Try.ntmps33
        go_wp2
        go_ret
        exact ⟨by rw [HQ.out]; rfl, (Below.refl _ _).alloc (Nat.le_refl _) _⟩
    · have HQ := Aside0.mk (show okCall ⟨a, b, c⟩ = false by simp only [okCall, fit, inb]; simp; omega)
      go_enter Try.func33, Try.ntmps33
      go_wp2
      go_ret
      exact ⟨by rw [HQ.out]; rfl, (Below.refl _ _).alloc (Nat.le_refl _) _⟩
  · have HQ := Aside0.mk (show okCall ⟨a, b, c⟩ = false by simp only [okCall, fit, inb]; simp; omega)
    go_enter Try.func33, Try.ntmps33
    go_wp2
    go_ret
    exact ⟨by rw [HQ.out]; rfl, (Below.refl _ _).alloc (Nat.le_refl _) _⟩

theorem clo_any (x : T3) (w : World) : Calls Try.prog 36 #[.agg #[.int .i64 x.a, .int .i64 x.b, .int .i64 x.c]] w fun e w' => e = .returned (.bool (!okCall x)) ∧ Below w.heap.size w w' := by
  go_enter Try.func36, Try.ntmps36
  go_wp2_with (first | (go_at_call 37; refine (callOk_any x _).mono ?_; rintro e w1 ⟨rfl, hb⟩))
  go_ret
  exact ⟨rfl, below_then ((Below.refl _ _).alloc (Nat.le_refl _) _) (by simp) hb⟩

theorem indexFunc_any (A : Option Addr) (n c : Nat) (xs : List T3) (w : World) (hr : k3.C w A n xs) :
    Calls Try.prog 60 #[.slice A n c, .func (.func 36) #[] #[]] w fun e w' => ∃ r : Int, e = .returned (.int .i64 r) ∧ decide (r ≥ 0) = xs.any (fun x => !okCall x) ∧ Below w.heap.size w w' := by
  obtain ⟨hn1, hn⟩ := C_len hr
  have HN := Aside0.mk hn1
  clear hn1
  go_enter Try.func60, Try.ntmps60
  go_wp2
  go_loopw [8] (fun i wr => ∃ k : Nat, k ≤ n ∧ i = .int .i64 k ∧ Aside0 (xs.any (fun x => !okCall x) = (xs.drop k).any (fun x => !okCall x)) ∧ Aside0 (Below w.heap.size w wr)) (fun i _ => n - (intOf i).toNat)
  case atStart => exact ⟨0, Nat.zero_le _, rfl, ⟨rfl⟩, ⟨Below.refl _ _⟩⟩
  case round =>
    obtain ⟨k, hk, rfl, HH, HB⟩ := hrel
    by_cases hlt : k < n
    · obtain ⟨ad, rfl, ha, hb, hc⟩ := at3 (Kd.C_below hr HB.out) k hlt
      have HD := Aside0.mk (drop_at xs z3 k (by have := HN.out; omega))
      have hcl := clo_any (xs.getD k z3)
      generalize xs.getD k z3 = y at ha hb hc HD hcl
      cases hq : okCall y with
      | false =>
        have HQ := Aside0.mk hq
        rw [hq] at hcl
        clear hq
        go_wp2_with (first | (go_at_call 36; refine (hcl _).mono ?_; rintro e w1 ⟨rfl, hb1⟩))
        go_ret
        exact ⟨k, rfl, by rw [HH.out, HD.out, List.any_cons, HQ.out]; simp, below_then HB.out HB.out.size hb1⟩
      | true =>
        have HQ := Aside0.mk hq
        rw [hq] at hcl
        clear hq
        go_wp2_with (first | (go_at_call 36; refine (hcl _).mono ?_; rintro e w1 ⟨rfl, hb1⟩))
        go_roundw
        case rel => exact ⟨k + 1, by omega, by go_num, ⟨by rw [HH.out, HD.out, List.any_cons, HQ.out]; simp⟩, ⟨below_then HB.out HB.out.size hb1⟩⟩
        case measure => simp [intOf]; omega
    · go_wp2
      go_ret
      exact ⟨_, rfl, by rw [HH.out, List.drop_of_length_le (by have := HN.out; omega)]; rfl, HB.out⟩

theorem containsFunc_any (A : Option Addr) (n c : Nat) (xs : List T3) (w : World) (hr : k3.C w A n xs) :
    Calls Try.prog 35 #[.slice A n c, .func (.func 36) #[] #[]] w fun e w' => e = .returned (.bool (xs.any (fun x => !okCall x))) ∧ Below w.heap.size w w' := by
  go_enter Try.func35, Try.ntmps35
  go_wp2_with (go_at_call 60; refine (indexFunc_any _ _ _ _ _ hr).mono ?_; rintro e w' ⟨r, rfl, hd, hb⟩)
  go_ret
  exact ⟨by rw [← hd]; rfl, hb⟩

theorem impl_any (A : Option Addr) (c : Nat) (xs : List T3) (w : World) (hr : k3.C w A xs.length xs) :
    Calls Try.prog 14 #[.slice A xs.length c] w fun e w' => e = .returned (.bool (decide (xs.length ≤ 30) && xs.all okCall)) ∧ Below w.heap.size w w' := by
  have hn := (C_len hr).2
  have hq : xs.all okCall = !(xs.any (fun x => !okCall x)) := by rw [List.not_any_eq_all_not]; simp only [Bool.not_not]
  rw [hq]
  clear hq
  by_cases hl : xs.length ≤ 30
  · have h1 : decide ((xs.length : Int) ≤ 30) = true := by simp; omega
    have HL := Aside0.mk (decide_eq_true hl)
    clear hl
    go_enter Try.func14, Try.ntmps14
    go_wp2_with (go_at_call 35; refine (containsFunc_any _ _ _ _ _ hr).mono ?_; rintro e w' ⟨rfl, hb⟩)
    go_ret
    exact ⟨ret_bool (by rw [HL.out]; rfl), hb⟩
  · have h1 : decide ((xs.length : Int) ≤ 30) = false := by simp; omega
    have HL := Aside0.mk (decide_eq_false hl)
    clear hl
    go_enter Try.func14, Try.ntmps14
    go_wp2
    go_ret
    exact ⟨ret_bool (by rw [HL.out]; rfl), Below.refl _ _⟩

theorem spec_any (A : Option Addr) (c : Nat) (xs : List T3) (w : World) (hr : k3.C w A xs.length xs) :
    Calls Try.prog 12 #[.slice A xs.length c] w fun e w' => e = .returned (.bool (decide (xs.length ≤ 30) && xs.all okCall)) ∧ Below w.heap.size w w' := by
  have hn := (C_len hr).2
  go_enter Try.func12, Try.ntmps12
  go_wp2
  go_loopw [3] (fun i wr => ∃ k : Nat, k ≤ xs.length ∧ i = .int .i64 k ∧ Aside0 (xs.all okCall = (xs.drop k).all okCall) ∧ Aside0 (Below w.heap.size w wr)) (fun i _ => xs.length - (intOf i).toNat)
  case atStart => exact ⟨0, Nat.zero_le _, rfl, ⟨rfl⟩, ⟨Below.refl _ _⟩⟩
  case round =>
    obtain ⟨k, hk, rfl, HH, HB⟩ := hrel
    by_cases hlt : k < xs.length
    · obtain ⟨ad, rfl, ha, hb, hc⟩ := at3 (Kd.C_below hr HB.out) k hlt
      have HD := Aside0.mk (drop_at xs z3 k hlt)
      have hcl := specCall_any (xs.getD k z3)
      generalize xs.getD k z3 = y at ha hb hc HD hcl
      cases hq : okCall y with
      | false =>
        have HQ := Aside0.mk hq
        rw [hq] at hcl
        clear hq
        go_wp2_with (first | (go_at_call 33; refine (hcl _).mono ?_; rintro e w1 ⟨rfl, hb1⟩))
        go_ret
        exact ⟨ret_bool (by rw [HH.out, HD.out, List.all_cons, HQ.out]; simp), below_then HB.out HB.out.size hb1⟩
      | true =>
        have HQ := Aside0.mk hq
        rw [hq] at hcl
        clear hq
        go_wp2_with (first | (go_at_call 33; refine (hcl _).mono ?_; rintro e w1 ⟨rfl, hb1⟩))
        go_roundw
        case rel => exact ⟨k + 1, by omega, by go_num, ⟨by rw [HH.out, HD.out, List.all_cons, HQ.out]; simp⟩, ⟨below_then HB.out HB.out.size hb1⟩⟩
        case measure => simp [intOf]; omega
    · have HA := Aside0.mk (show xs.all okCall = true by rw [HH.out, List.drop_of_length_le (by omega)]; rfl)
      go_wp2
      go_ret
      exact ⟨ret_bool (by rw [HA.out]; by_cases h : xs.length ≤ 30 <;> simp [h] <;> omega), HB.out⟩

theorem toCall_any (x : T3) (w : World) : Calls Try.prog 34 #[.agg #[.int .i64 x.a, .int .i64 x.b, .int .i64 x.c]] w fun e w' => e = .returned (.agg #[.int .i64 x.a, .int .i64 x.b, .int .i64 x.c]) ∧ Below w.heap.size w w' := by
  go_enter Try.func34, Try.ntmps34
  go_wp2
  refine bodyPost_ret (v := .agg #[.int .i64 x.a, .int .i64 x.b, .int .i64 x.c]) (by simp [results, Try.results34, go_sem]) rfl ⟨rfl, ?_⟩
  repeat (first | exact Below.refl _ _ | apply below_alloc)

theorem eqCall_any (x : T3) (w : World) : Calls Try.prog 38 #[.agg #[.int .i64 x.a, .int .i64 x.b, .int .i64 x.c], .agg #[.int .i64 x.a, .int .i64 x.b, .int .i64 x.c]] w fun e w' => e = .returned (.bool true) ∧ Below w.heap.size w w' := by
  go_enter Try.func38, Try.ntmps38
  go_wp2
  repeat (go_quiet (fail); go_wp2)
  go_ret
  exact ⟨rfl, by repeat (first | exact Below.refl _ _ | apply below_alloc | apply pw_below_drewN | apply below_drew)⟩

set_option maxRecDepth 100000 in
theorem eqCallS_any (A B : Option Addr) (c c2 : Nat) (xs : List T3) (w : World) (hr : k3.C w A xs.length xs) (hs : k3.C w B xs.length xs) :
    Calls Try.prog 15 #[.slice A xs.length c, .slice B xs.length c2] w fun e w' => e = .returned (.bool true) ∧ Below w.heap.size w w' := by
  have hn := (C_len hr).2
  go_enter Try.func15, Try.ntmps15
  go_wp2
  go_loopw [5] (fun i wr => ∃ k : Nat, k ≤ xs.length ∧ i = .int .i64 k ∧ Aside0 (Below w.heap.size w wr)) (fun i _ => xs.length - (intOf i).toNat)
  case atStart => exact ⟨0, Nat.zero_le _, rfl, ⟨Below.refl _ _⟩⟩
  case round =>
    obtain ⟨k, hk, rfl, HB⟩ := hrel
    by_cases hlt : k < xs.length
    · obtain ⟨ad, rfl, ha, hb, hc⟩ := at3 (Kd.C_below hr HB.out) k hlt
      obtain ⟨ad2, rfl, ha2, hb2, hc2⟩ := at3 (Kd.C_below hs HB.out) k hlt
      generalize xs.getD k z3 = y at ha hb hc ha2 hb2 hc2
      go_wp2
      go_still_tail 8, (by kernel_rfl)
      change wpList _ _ _ _ _ wr.drew
      generalize hW : wr.drew = w2
      have HB2 := Aside0.mk (show Below w.heap.size w w2 by rw [← hW]; exact below_drew HB.out)
      clear hW
      go_wp2_with (first | (go_at_call 38; refine (eqCall_any y _).mono ?_; rintro e w1 ⟨rfl, hb1⟩))
      go_roundw
      case rel => exact ⟨k + 1, by omega, by go_num, ⟨below_then HB2.out HB2.out.size hb1⟩⟩
      case measure => simp [intOf]; omega
    · go_wp2
      go_ret
      exact ⟨rfl, HB.out⟩

theorem info61 : (Try.prog.info? 61).map (fun i => (i.zero, i.size, i.bytes)) = some (some (.agg #[.int .i64 0, .int .i64 0, .int .i64 0]), 3, 24) := by kernel_rfl

set_option maxRecDepth 100000 in
theorem toCallS_any (A : Option Addr) (c : Nat) (xs : List T3) (w : World) (hr : k3.C w A xs.length xs) (hm : xs.length ≤ 1048576) :
    Calls Try.prog 13 #[.slice A xs.length c] w fun e w' => ∃ v, e = .returned v ∧ k3.R 61 w' w.heap.size (fun _ => True) v xs ∧ Below w.heap.size w w' := by
  have h0 : (0 : Int) ≤ xs.length := by omega
  go_enter Try.func13, Try.ntmps13
  go_wp2_with (first | ((with_reducible refine gate_dst (N := 7) rfl ?_); refine Kd.R_make k3 w.heap.size 61 rfl (N := 7) rfl 29 _ _ rfl (xs.length : Int) rfl rfl Try.underlying29 (.agg #[.int .i64 0, .int .i64 0, .int .i64 0]) 24 info61 rfl (by decide) (by omega) z3 (ok := fun _ => True) (okp := fun _ => True) (k3_mkM _ _ _ z3) (fun _ hk => hk) trivial (by omega) (by omega) (Below.refl _ _) (Nat.le_refl _) ?_; intro v106 w4 ho5 hb _ _; have HO := Aside0.mk ho5; have HB := Aside0.mk hb; clear ho5 hb))
  go_loopw [4] (fun i wr => ∃ (k : Nat) (ys : List T3), k ≤ xs.length ∧ i = .int .i64 k ∧ Aside0 (ys.length = xs.length ∧ ys.take k = xs.take k) ∧ Aside0 (k3.R 61 wr w.heap.size (fun _ => True) v106 ys) ∧ Aside0 (Below w.heap.size w wr)) (fun i _ => xs.length - (intOf i).toNat)
  case atStart => exact ⟨0, _, Nat.zero_le _, rfl, ⟨by simp, by simp⟩, HO, HB⟩
  case round =>
    clear HO HB
    obtain ⟨k, ys, hk, rfl, HY, HO, HB⟩ := hrel
    by_cases hlt : k < xs.length
    · obtain ⟨ad, rfl, ha, hb, hc⟩ := at3 (Kd.C_below hr HB.out) k hlt
      have HD : Aside0 (xs.getD k z3 = xs.getD k z3) := ⟨rfl⟩
      have hcl := toCall_any (xs.getD k z3)
      generalize hy : xs.getD k z3 = y at ha hb hc hcl
      have HE := Aside0.mk hy
      clear hy HD
      obtain ⟨g, cc, eo, gb, gl, cl, HG⟩ := Kd.R_form HO.out (by have := HY.out.1; omega)
      cases eo
      have hy : k < ys.length := by have := HY.out.1; omega
      have hy2 : decide (k < ys.length) = true := decide_eq_true hy
      have GB := Aside0.mk gb
      clear gl HG gb
      go_wp2_with (first | (go_at_call 34; refine (hcl _).mono ?_; rintro e w1 ⟨rfl, hb1⟩; have HO1 := Aside0.mk (Kd.R_below HO.out hb1); have HB1 := Aside0.mk (below_then HB.out HB.out.size hb1); clear hb1) | ((with_reducible refine gate_store (t := 61) (p := 21) rfl ?_); obtain ⟨ce, hce1, hce2, hce3, hce4⟩ := Kd.R_elem HO1.out z3 (k : Int) (by omega) (by omega); refine Kd.R_store k3 w.heap.size rfl rfl 61 _ _ rfl 61 (k : Int) 0 ys y _ (c3 y) ce (fun _ => True) (fun _ => False) rfl (by simp [k3, Kd.iso, Kd.pair, Kd.int, Kd.scalar]) rfl rfl (by kernel_rfl) ?h1 HO1.out (by omega) (by omega) hce1 hce3 (by simp [c3, k3, Kd.iso, Kd.pair, Kd.int, Kd.scalar]) ?hM (fun _ h => h.elim) HB1.out ?_; (case h1 => intro q hq; simp [c3] at hq; rcases hq with rfl | rfl | rfl <;> rfl); (case hM => rw [List.drop_of_length_le (by rw [hce1]; simp [c3, k3, Kd.iso, Kd.pair, Kd.int, Kd.scalar]), List.append_nil]; exact k3_mkM _ _ _ y); intro w11 ho11 hb11 _; have HO2 := Aside0.mk ho11; have HB2 := Aside0.mk hb11; clear ho11 hb11 hce1 hce2 hce3 hce4))
      go_roundw
      case rel =>
        rw [Int.toNat_natCast] at HO2
        exact ⟨k + 1, _, by omega, by go_num, ⟨by rw [List.length_set]; exact HY.out.1, by rw [List.take_add_one, List.take_add_one, List.take_set_of_le (Nat.le_refl _), HY.out.2, ← HE.out]; simp [hlt, hy]⟩, HO2, HB2⟩
      case measure => simp [intOf]; omega
    · go_wp2
      go_ret
      obtain ⟨h1, h2⟩ := HY.out
      rw [List.take_of_length_le (by omega), List.take_of_length_le (by omega)] at h2
      subst h2
      exact ⟨_, rfl, HO.out, HB.out⟩

theorem sz_any (A : Option Addr) (n c : Nat) (hn : n ≤ 9223372036854775807) (w : World) :
    Calls Try.prog 11 #[.slice A n c, .int .i64 1048576] w fun e w' => e = .returned (.int .i64 (if n ≤ 1048576 then 1048576 - n else -1)) ∧ w' = w := by
  by_cases h : n ≤ 1048576
  · have h1 : (1048576 : Int) - n ≥ 0 := by omega
    have h2 : decide ((1048576 : Int) - n < 0) = false := by simp; omega
    have HI := Aside0.mk (show (if n ≤ 1048576 then (1048576 : Int) - n else -1) = 1048576 - n from if_pos h)
    clear h
    go_enter Try.func11, Try.ntmps11
    go_wp2
    go_ret
    exact ⟨by first | rfl | (rw [HI.out]; rfl), rfl⟩
  · have h1 : (1048576 : Int) - n < 0 := by omega
    have h2 : decide ((1048576 : Int) - n < 0) = true := by simp; omega
    have HI := Aside0.mk (show (if n ≤ 1048576 then (1048576 : Int) - n else -1) = -1 from if_neg h)
    clear h
    go_enter Try.func11, Try.ntmps11
    go_wp2
    go_ret
    exact ⟨by first | rfl | (rw [HI.out]; rfl), rfl⟩
end Go.Proofs.Ytpbijebbkkfhpaa.Tb
