/- What the functions under TurnBy come to, on lists of whole numbers: one walk each. -/
import Derived.Test.YtpbijebbkkfhpaaProg
import Derived.Test.YtpbijebbkkfhpaaWWords
set_option linter.unusedVariables false
set_option linter.unusedSimpArgs false
namespace Go.Proofs.Ytpbijebbkkfhpaa.Ta
open Go.RowKit Go.Proofs.YtpbijebbkkfhpaaW.PrintWords

def fit (v : Int) : Bool := decide (0 ≤ v) && decide (v ≤ 4)

theorem ret_bool {a b : Bool} (h : a = b) : Ending.returned (.bool a) = .returned (.bool b) := by rw [h]

theorem in_any (n a b : Int) (w : World) : Calls Try.prog 53 #[.int .i64 n, .int .i64 a, .int .i64 b] w fun e w' => e = .returned (.bool (decide (a ≤ n) && decide (n ≤ b))) ∧ w' = w := by
  by_cases h : a ≤ n
  · have h' : decide (a ≤ n) = true := decide_eq_true h
    go_enter Try.func53, Try.ntmps53
    go_wp2
    go_ret
    exact ⟨by simp [h], rfl⟩
  · have h' : decide (a ≤ n) = false := decide_eq_false h
    go_enter Try.func53, Try.ntmps53
    go_wp2
    go_ret
    exact ⟨by simp [h], rfl⟩

theorem isSym_any (n : Int) (w : World) : Calls Try.prog 31 #[.int .i64 n] w fun e w' => e = .returned (.bool (fit n)) ∧ w' = w := by
  go_enter Try.func31, Try.ntmps31
  go_wp2_with (go_at_call 53; refine (in_any _ _ _ _).mono ?_; rintro e w' ⟨rfl, rfl⟩)
  go_ret
  exact ⟨rfl, rfl⟩

/-- is one of the d numbers from j on v? -/
def hasAt (l : List Int) (v : Int) : Nat → Nat → Bool
  | _, 0 => false
  | j, d + 1 => rd l j == v || hasAt l v (j + 1) d

theorem at_nat {w : World} {A : Option Addr} {n : Nat} {xs : List Int} (h : ReadsInt w .i64 A n xs) (k : Nat) (h1 : k < n) : ∃ ad, A = some ad ∧ w.cell? (ad.add k) = some (.int .i64 (rd xs k)) := by
  obtain ⟨ad, e, hc⟩ := h.2.2 (by omega)
  exact ⟨ad, e, hc _ h1⟩

theorem index_any (A : Option Addr) (n c : Nat) (xs : List Int) (v : Int) (w : World) (hr : ReadsInt w .i64 A n xs) :
    Calls Try.prog 59 #[.slice A n c, .int .i64 v] w fun e w' => ∃ r : Int, e = .returned (.int .i64 r) ∧ decide (r ≥ 0) = hasAt xs v 0 n ∧ w' = w := by
  have hn := hr.2.1
  go_enter Try.func59, Try.ntmps59
  go_wp2
  go_loop [8] (fun i => ∃ k : Nat, k ≤ n ∧ i = .int .i64 k ∧ hasAt xs v 0 n = hasAt xs v k (n - k)) (fun i => n - (intOf i).toNat)
  case atStart => exact ⟨0, Nat.zero_le _, rfl, rfl⟩
  case round =>
    obtain ⟨k, hk, rfl, hh⟩ := hrel
    have HH := Aside0.mk hh
    clear hh
    by_cases hlt : k < n
    · obtain ⟨ad, rfl, hc⟩ := at_nat hr k hlt
      by_cases he : v = rd xs k
      · have hb : (v == rd xs k) = true := by simpa using he
        have HE := Aside0.mk he
        clear he
        go_wp2
        go_ret
        exact ⟨k, rfl, by rw [HH.out, show n - k = (n - k - 1) + 1 by omega, hasAt, HE.out]; simp, rfl⟩
      · have hb : (v == rd xs k) = false := by simpa using he
        go_wp2
        go_round
        case rel => exact ⟨k + 1, by omega, by go_num, by rw [HH.out, show n - k = (n - (k + 1)) + 1 by omega, hasAt]; simp [Ne.symm he]⟩
        case measure => simp [intOf]; omega
    · go_wp2
      go_ret
      exact ⟨_, rfl, by rw [HH.out, show n - k = 0 by omega, hasAt]; rfl, rfl⟩

theorem contains_any (A : Option Addr) (n c : Nat) (xs : List Int) (v : Int) (w : World) (hr : ReadsInt w .i64 A n xs) :
    Calls Try.prog 32 #[.slice A n c, .int .i64 v] w fun e w' => e = .returned (.bool (hasAt xs v 0 n)) ∧ w' = w := by
  go_enter Try.func32, Try.ntmps32
  go_wp2_with (go_at_call 59; refine (index_any _ _ _ _ _ _ hr).mono ?_; rintro e w' ⟨r, rfl, hd, rfl⟩)
  go_ret
  exact ⟨by rw [← hd]; rfl, rfl⟩

/-- number by number: is it between 0 and 4, and none of those ahead? -/
def good (l : List Int) (i : Nat) : Bool := fit (rd l i) && !(hasAt l (rd l i) 0 i)
def tail (l : List Int) : Nat → Nat → Bool
  | _, 0 => true
  | i, d + 1 => good l i && tail l (i + 1) d

theorem hasAt_take (l : List Int) (v : Int) (i d : Nat) : ∀ j, j + d = i → hasAt (l.take i) v j d = hasAt l v j d := by
  induction d with
  | zero => intro j _; rfl
  | succ d ih =>
    intro j hj
    have : rd (l.take i) (j : Int) = rd l (j : Int) := by
      simp [rd, List.getD_eq_getElem?_getD, List.getElem?_take, show j < i by omega]
    simp only [hasAt, this, ih (j + 1) (by omega)]

theorem impl_any (A : Option Addr) (n c : Nat) (xs : List Int) (w : World) (hr : ReadsInt w .i64 A n xs) (hnc : n ≤ c) (hcm : c ≤ 9223372036854775807) :
    Calls Try.prog 9 #[.slice A n c] w fun e w' => e = .returned (.bool (tail xs 0 n && decide (n = 5))) ∧ w' = w := by
  have hn := hr.2.1
  go_enter Try.func9, Try.ntmps9
  go_wp2
  go_loop [7] (fun i => ∃ k : Nat, k ≤ n ∧ i = .int .i64 k ∧ tail xs 0 n = tail xs k (n - k)) (fun i => n - (intOf i).toNat)
  case atStart => exact ⟨0, Nat.zero_le _, rfl, rfl⟩
  case round =>
    obtain ⟨k, hk, rfl, hh⟩ := hrel
    have HH := Aside0.mk hh
    clear hh
    by_cases hlt : k < n
    · obtain ⟨ad, rfl, hc⟩ := at_nat hr k hlt
      have hs := ReadsInt.take_ hr k hk
      have hq := hasAt_take xs (rd xs k) k k 0 (by omega)
      by_cases hf : fit (rd xs k) = true
      · by_cases hg : hasAt xs (rd xs k) 0 k = true
        · have HT := Aside0.mk (show tail xs k (n - k) = false by rw [show n - k = (n - k - 1) + 1 by omega, tail, good, hg]; simp)
          go_wp2_with (first | (go_at_call 31; refine (isSym_any _ _).mono ?_; rintro e w' ⟨rfl, rfl⟩) | (go_at_call 32; refine (contains_any _ _ _ _ _ _ hs).mono ?_; rintro e w' ⟨rfl, rfl⟩))
          go_ret
          exact ⟨by rw [HH.out, HT.out]; rfl, rfl⟩
        · have HT := Aside0.mk (show tail xs k (n - k) = tail xs (k + 1) (n - (k + 1)) by rw [show n - k = (n - (k + 1)) + 1 by omega, tail, good, hf]; simp [hg])
          replace hg := Bool.eq_false_iff.mpr hg
          go_wp2_with (first | (go_at_call 31; refine (isSym_any _ _).mono ?_; rintro e w' ⟨rfl, rfl⟩) | (go_at_call 32; refine (contains_any _ _ _ _ _ _ hs).mono ?_; rintro e w' ⟨rfl, rfl⟩))
          go_round
          case rel => exact ⟨k + 1, by omega, by go_num, by rw [HH.out, HT.out]⟩
          case measure => simp [intOf]; omega
      · have HT := Aside0.mk (show tail xs k (n - k) = false by rw [show n - k = (n - k - 1) + 1 by omega, tail, good]; simp [hf])
        replace hf := Bool.eq_false_iff.mpr hf
        go_wp2_with (first | (go_at_call 31; refine (isSym_any _ _).mono ?_; rintro e w' ⟨rfl, rfl⟩))
        go_ret
        exact ⟨by rw [HH.out, HT.out]; rfl, rfl⟩
    · have HT := Aside0.mk (show tail xs k (n - k) = true by rw [show n - k = 0 by omega, tail])
      go_wp2
      go_ret
      refine ⟨?_, rfl⟩
      rw [HH.out, HT.out, Bool.true_and]
      exact ret_bool (by by_cases h : n = 5 <;> simp [h] <;> omega)

theorem info3 : (Try.prog.info? 3).map (fun i => (i.zero, i.size, i.bytes)) = some (some (.int .i64 0), 1, 8) := by kernel_rfl

theorem toIntS_any (A : Option Addr) (c : Nat) (xs : List Int) (w : World) (hr : ReadsInt w .i64 A xs.length xs) (hm : xs.length ≤ 1048576) :
    Calls Try.prog 8 #[.slice A xs.length c] w fun e w' => ∃ v, e = .returned v ∧ (Kd.int .i64).R 3 w' w.heap.size (fun _ => True) v xs ∧ Below w.heap.size w w' := by
  have h0 : (0 : Int) ≤ xs.length := by omega
  go_enter Try.func8, Try.ntmps8
  go_wp2_with (first | ((with_reducible refine gate_dst (N := 7) rfl ?_); refine Kd.R_make (Kd.int .i64) w.heap.size 3 rfl (N := 7) rfl 22 _ _ rfl (xs.length : Int) rfl rfl Try.underlying22 (.int .i64 0) 8 info3 rfl (by decide) (by omega) 0 (ok := fun _ => True) (okp := fun _ => True) rfl (fun _ hk => hk) trivial (by omega) (by omega) (Below.refl _ _) (Nat.le_refl _) ?_; intro v106 w4 ho5 hb _ _; have HO := Aside0.mk ho5; have HB := Aside0.mk hb; clear ho5 hb))
  go_loopw [4] (fun i wr => ∃ (k : Nat) (ys : List Int), k ≤ xs.length ∧ i = .int .i64 k ∧ Aside0 (ys.length = xs.length ∧ ys.take k = xs.take k) ∧ Aside0 ((Kd.int .i64).R 3 wr w.heap.size (fun _ => True) v106 ys) ∧ Aside0 (Below w.heap.size w wr)) (fun i _ => xs.length - (intOf i).toNat)
  case atStart => exact ⟨0, _, Nat.zero_le _, rfl, ⟨by simp, by simp⟩, HO, HB⟩
  case round =>
    clear HO HB
    obtain ⟨k, ys, hk, rfl, HY, HO, HB⟩ := hrel
    by_cases hlt : k < xs.length
    · obtain ⟨ad, rfl, hc⟩ := at_nat hr k hlt
      replace hc := (HB.out.cell (World.block_lt_of_cell? w _ hc)).trans hc
      obtain ⟨g, cc, eo, gb, gl, cl, HG⟩ := Kd.R_form HO.out (by have := HY.out.1; omega)
      cases eo
      have hy : k < ys.length := by have := HY.out.1; omega
      obtain ⟨hx, hf⟩ := Kd.R_celln 0 HO.out (k : Int) (by omega) (by omega)
      have HP := Kd.R_putg HO.out (k : Int) (rd xs k)
      rw [Int.toNat_natCast] at hx hf HP
      have GB := Aside0.mk gb
      have hy2 : decide (k < ys.length) = true := decide_eq_true hy
      clear gl HG gb
      go_wp2_with (first | ((with_reducible refine gate_store (t := 3) (p := 20) rfl ?_); refine store_event (t := 3) (p := 20) (v := ?vo) (w1 := wr.setCell ⟨g, k, none⟩ (.int .i64 (rd xs k))) ?hg ?ho ?hn ?hr ?_; (case ho => rfl); (case hg => rfl); (case hn => rfl); (case hr => first | (go_simp; done) | (go_simp; rfl)); intro w11 hw; have HO2 := Aside0.mk (show (Kd.int .i64).R 3 w11 w.heap.size (fun _ => True) (.slice (some ⟨g, 0, none⟩) ys.length cc) (ys.set k (rd xs k)) by rw [hw]; exact HP.1); have HB2 := Aside0.mk (show Below w.heap.size w w11 by rw [hw]; exact HB.out.setCell GB.out _); clear hw))
      go_roundw
      case rel => exact ⟨k + 1, _, by omega, by go_num, ⟨by rw [List.length_set]; exact HY.out.1, by rw [List.take_add_one, List.take_add_one, List.take_set_of_le (Nat.le_refl _), HY.out.2]; simp [rd, hlt, hy]⟩, HO2, HB2⟩
      case measure => simp [intOf]; omega
    · go_wp2
      go_ret
      obtain ⟨h1, h2⟩ := HY.out
      rw [List.take_of_length_le (by omega), List.take_of_length_le (by omega)] at h2
      subst h2
      exact ⟨_, rfl, HO.out, HB.out⟩

theorem eqIntS_any (A B : Option Addr) (c c2 : Nat) (xs : List Int) (w : World) (hr : ReadsInt w .i64 A xs.length xs) (hs : ReadsInt w .i64 B xs.length xs) (hm : xs.length ≤ 1048576) :
    Calls Try.prog 10 #[.slice A xs.length c, .slice B xs.length c2] w fun e w' => e = .returned (.bool true) ∧ Drawn0 w w' := by
  go_enter Try.func10, Try.ntmps10
  go_wp2
  go_loopw [5] (fun i wr => ∃ (k : Nat), k ≤ xs.length ∧ i = .int .i64 k ∧ Drawn0 w wr) (fun i _ => xs.length - (intOf i).toNat)
  case atStart => exact ⟨0, Nat.zero_le _, rfl, Drawn0.refl _⟩
  case round =>
    obtain ⟨k, hk, rfl, ⟨m, rfl⟩⟩ := hrel
    by_cases hlt : k < xs.length
    · obtain ⟨ad, rfl, hc⟩ := at_nat hr k hlt
      obtain ⟨ad2, rfl, hc2⟩ := at_nat hs k hlt
      go_wp2
      go_quiet (fail)
      go_wp2
      go_roundw
      case rel => exact ⟨k + 1, by omega, by go_num, by repeat (first | exact Drawn0.refl _ | apply Drawn0.step)⟩
      case measure => simp [intOf]; omega
    · go_wp2
      go_ret
      exact ⟨rfl, ⟨⟨m, rfl⟩⟩⟩

theorem spec_any (A : Option Addr) (c : Nat) (xs : List Int) (w : World) (hr : ReadsInt w .i64 A xs.length xs) (hm : xs.length ≤ 1048576) :
    Calls Try.prog 7 #[.slice A xs.length c] w fun e w' => e = .returned (.bool (tail xs 0 xs.length && decide (xs.length = 5))) ∧ Drawn0 w w' := by
  by_cases h5 : xs.length = 5
  · have H5 := Aside0.mk h5
    rw [h5] at hr ⊢
    clear h5 hm
    go_enter Try.func7, Try.ntmps7
    go_wp2
    go_loopw [3] (fun i wr => ∃ (k : Nat), k ≤ 5 ∧ i = .int .i64 k ∧ Aside0 (tail xs 0 5 = tail xs k (5 - k)) ∧ Drawn0 w wr) (fun i _ => 5 - (intOf i).toNat)
    case atStart => exact ⟨0, Nat.zero_le _, rfl, ⟨rfl⟩, Drawn0.refl _⟩
    case round =>
      obtain ⟨k, hk, rfl, HH, ⟨m, rfl⟩⟩ := hrel
      by_cases hlt : k < 5
      · obtain ⟨ad, rfl, hc⟩ := at_nat hr k hlt
        by_cases hf : fit (rd xs k) = true
        · have h0 : 0 ≤ rd xs k := by simp [fit] at hf; omega
          have h4 : rd xs k ≤ 4 := by simp [fit] at hf; omega
          have hb0 : decide (rd xs k < 0) = false := by simp; omega
          have hb4 : decide (rd xs k ≥ 5) = false := by simp; omega
          have HF := Aside0.mk hf
          clear hf
          go_wp2
          go_loopw [4] (fun j wr => ∃ (q : Nat), q ≤ k ∧ j = .int .i64 q ∧ Aside0 (hasAt xs (rd xs k) 0 k = hasAt xs (rd xs k) q (k - q)) ∧ Drawn0 w wr) (fun j _ => k - (intOf j).toNat)
          case atStart => exact ⟨0, Nat.zero_le _, rfl, ⟨rfl⟩, ⟨⟨m, rfl⟩⟩⟩
          case round =>
            obtain ⟨q, hq, rfl, HQ, ⟨m2, rfl⟩⟩ := hrel
            by_cases hq2 : q < k
            · obtain ⟨_, e, hc2⟩ := at_nat hr q (by omega)
              cases e
              by_cases he : rd xs q = rd xs k
              · have hb : (rd xs q == rd xs k) = true := by simpa using he
                have HT := Aside0.mk (show tail xs k (5 - k) = false by rw [show 5 - k = (5 - k - 1) + 1 by omega, tail, good, HQ.out, show k - q = (k - q - 1) + 1 by omega, hasAt, hb]; simp)
                clear he
                go_wp2
                go_quiet (fail)
                go_wp2
                go_ret
                exact ⟨by rw [HH.out, HT.out]; rfl, by repeat (first | exact Drawn0.refl _ | apply Drawn0.step)⟩
              · have hb : (rd xs q == rd xs k) = false := by simpa using he
                have HT := Aside0.mk (show hasAt xs (rd xs k) 0 k = hasAt xs (rd xs k) (q + 1) (k - (q + 1)) by rw [HQ.out, show k - q = (k - (q + 1)) + 1 by omega, hasAt, hb]; simp)
                clear he
                go_wp2
                go_quiet (fail)
                go_wp2
                go_roundw
                case rel => exact ⟨q + 1, by omega, by go_num, HT, by repeat (first | exact Drawn0.refl _ | apply Drawn0.step)⟩
                case measure => simp [intOf]; omega
            · have HT := Aside0.mk (show tail xs k (5 - k) = tail xs (k + 1) (5 - (k + 1)) by rw [show 5 - k = (5 - (k + 1)) + 1 by omega, tail, good, HF.out, HQ.out, show k - q = 0 by omega, hasAt]; simp)
              go_wp2
              go_roundw
              case rel => exact ⟨k + 1, by omega, by go_num, ⟨by rw [HH.out, HT.out]⟩, by repeat (first | exact Drawn0.refl _ | apply Drawn0.step)⟩
              case measure => simp [intOf]; omega
        · have HT := Aside0.mk (show tail xs k (5 - k) = false by rw [show 5 - k = (5 - k - 1) + 1 by omega, tail, good]; simp [hf])
          by_cases h0 : rd xs k < 0
          · have hb0 : decide (rd xs k < 0) = true := by simpa using h0
            clear hf
            go_wp2
            go_ret
            exact ⟨by rw [HH.out, HT.out]; rfl, ⟨⟨m, rfl⟩⟩⟩
          · have hb0 : decide (rd xs k < 0) = false := by simpa using h0
            have hb4 : decide (rd xs k ≥ 5) = true := by simp [fit] at hf; simp; omega
            clear hf
            go_wp2
            go_ret
            exact ⟨by rw [HH.out, HT.out]; rfl, ⟨⟨m, rfl⟩⟩⟩
      · have HT := Aside0.mk (show tail xs k (5 - k) = true by rw [show 5 - k = 0 by omega, tail])
        go_wp2
        go_ret
        exact ⟨by rw [HH.out, HT.out]; rfl, ⟨⟨m, rfl⟩⟩⟩
  · have hb : ((xs.length : Int) != 5) = true := by simp; omega
    have hb2 : ((xs.length : Int) == 5) = false := by simp; omega
    have H5 := Aside0.mk h5
    clear h5
    go_enter Try.func7, Try.ntmps7
    go_wp2
    go_ret
    exact ⟨ret_bool (by have := H5.out; simp [this]), Drawn0.refl _⟩

theorem walk (A : Option Addr) (c : Nat) (xs : List Int) (w : World) (hr : ReadsInt w .i64 A xs.length xs) (hc : xs.length ≤ c) :
    Calls Try.prog 3 #[.slice A xs.length c] w fun e w' => e = .returned (.bool true) ∧ Below w.heap.size w w' := by
  have hm2 := hr.2.1
  by_cases hm : xs.length ≤ 1048576
  · have hg : decide ((xs.length : Int) > 1048576) = false := by simp; omega
    go_enter Try.func3, Try.ntmps3
    go_wp2_with fail
    refine (toIntS_any A c xs _ hr hm).mono ?_
    rintro e w1 ⟨v1, rfl, ho1, hb1⟩
    obtain ⟨A1, c1, rfl, hl1, hC1⟩ := Kd.R_reads ho1
    have hr1 := Kd.reads_of_C (enc := Value.int .i64) (d := (0 : Int)) (h1 := fun _ => rfl) hC1
    clear ho1 hC1
    go_wp2_with fail
    refine (spec_any A1 c1 xs _ hr1 hm).mono ?_
    rintro e w2 ⟨rfl, hd2⟩
    have hb2 := below_then hb1 hb1.size hd2.below
    clear hd2 hr1 hb1
    generalize hR : (tail xs 0 xs.length && decide (xs.length = 5)) = R
    have HR := Aside0.mk hR
    clear hR
    have hr2 := ReadsInt.below hr hb2
    go_wp2_with fail
    refine (toIntS_any A c xs _ hr2 hm).mono ?_
    rintro e w3 ⟨v3, rfl, ho3, hb3⟩
    obtain ⟨A3, c3, rfl, hl3, hC3⟩ := Kd.R_reads ho3
    have hr3 := Kd.reads_of_C (enc := Value.int .i64) (d := (0 : Int)) (h1 := fun _ => rfl) hC3
    have hm3 : c3 ≤ 9223372036854775807 := by
      obtain ⟨inner, ho⟩ := Kd.R_own ho3
      rcases ho.2 with ⟨he, _⟩ | ⟨g, cap, cur, he, _, _, _, hcm, _⟩
      · injection he with _ _ h; omega
      · injection he with _ _ h; unfold maxLen at hcm; omega
    have hb4 := below_then hb2 hb2.size hb3
    clear ho3 hC3 hb3 hr2 hb2
    go_wp2_with fail
    refine (impl_any A3 xs.length c3 xs _ hr3 hl3 hm3).mono ?_
    rintro e w4 ⟨rfl, rfl⟩
    rw [HR.out]
    have hr4 := ReadsInt.below hr hb4
    have hRR : (R != R) = false := by simp
    go_wp2_with fail
    refine (toIntS_any A c xs _ hr4 hm).mono ?_
    rintro e w5 ⟨v5, rfl, ho5, hb5⟩
    obtain ⟨A5, c5, rfl, hl5, hC5⟩ := Kd.R_reads ho5
    have hr5 := Kd.reads_of_C (enc := Value.int .i64) (d := (0 : Int)) (h1 := fun _ => rfl) hC5
    have hr6 := ReadsInt.below hr3 hb5
    have hb6 := below_then hb4 hb4.size hb5
    clear ho5 hC5 hb5 hr4 hr3 hb4
    go_wp2_with fail
    refine (eqIntS_any A3 A5 c3 c5 xs _ hr6 hr5 hm).mono ?_
    rintro e w6 ⟨rfl, hd6⟩
    have hb7 := below_then hb6 hb6.size hd6.below
    clear hd6 hr6 hr5 hb6
    go_wp2
    go_ret
    exact ⟨rfl, hb7⟩
  · have hg : decide ((xs.length : Int) > 1048576) = true := by simp; omega
    go_enter Try.func3, Try.ntmps3
    go_wp2
    go_ret
    exact ⟨rfl, Below.refl _ _⟩
end Go.Proofs.Ytpbijebbkkfhpaa.Ta
