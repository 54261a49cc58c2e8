/- The reference's l3Union, l3Join. -/
import Derived.Test.YtjeojdbfpncnkaaRa
set_option linter.unusedVariables false
set_option linter.unusedSimpArgs false
namespace Go.Proofs.Ytjeojdbfpncnkaa.Rb
open Go.RowKit Go.Proofs.YtjeojdbfpncnkaaW.PrintWords Go.Proofs.Ytjeojdbfpncnkaa.Wd Go.Proofs.Ytjeojdbfpncnkaa.Pu Go.Proofs.Ytjeojdbfpncnkaa.Pv Go.Proofs.Ytjeojdbfpncnkaa.Ca Go.Proofs.Ytjeojdbfpncnkaa.Cb Go.Proofs.Ytjeojdbfpncnkaa.Cc Go.Proofs.Ytjeojdbfpncnkaa.Cp Go.Proofs.Ytjeojdbfpncnkaa.Cd Go.Proofs.Ytjeojdbfpncnkaa.Ci Go.Proofs.Ytjeojdbfpncnkaa.Ce Go.Proofs.Ytjeojdbfpncnkaa.Cf Go.Proofs.Ytjeojdbfpncnkaa.Cg Go.Proofs.Ytjeojdbfpncnkaa.Sc Go.Proofs.Ytjeojdbfpncnkaa.Sh Go.Proofs.Ytjeojdbfpncnkaa.Si Go.Proofs.Ytjeojdbfpncnkaa.Ia Go.Proofs.Ytjeojdbfpncnkaa.Ic Go.Proofs.Ytjeojdbfpncnkaa.Ij Go.Proofs.Ytjeojdbfpncnkaa.Ra

theorem min_any (a b : Int) (w : World) : Calls Try.prog 112 #[.int .i64 a, .int .i64 b] w fun e w' => e = .returned (.int .i64 (min a b)) ∧ w' = w := by
  by_cases h : a < b
  · have d : decide (a < b) = true := decide_eq_true h
    have HE := Aside0.mk (show min a b = a by omega)
    go_enter Try.func112, Try.ntmps112
    go_wp2
    go_ret
    exact ⟨by rw [HE.out]; rfl, rfl⟩
  · have d : decide (a < b) = false := decide_eq_false h
    have HE := Aside0.mk (show min a b = b by omega)
    go_enter Try.func112, Try.ntmps112
    go_wp2
    go_ret
    exact ⟨by rw [HE.out]; rfl, rfl⟩
theorem max_any (a b : Int) (w : World) : Calls Try.prog 137 #[.int .i64 a, .int .i64 b] w fun e w' => e = .returned (.int .i64 (max a b)) ∧ w' = w := by
  by_cases h : a > b
  · have d : decide (a > b) = true := decide_eq_true h
    have d2 : decide (b < a) = true := decide_eq_true h
    have HE := Aside0.mk (show max a b = a by omega)
    go_enter Try.func137, Try.ntmps137
    go_wp2
    go_ret
    exact ⟨by rw [HE.out]; rfl, rfl⟩
  · have d : decide (a > b) = false := decide_eq_false h
    have d2 : decide (b < a) = false := decide_eq_false h
    have HE := Aside0.mk (show max a b = b by omega)
    go_enter Try.func137, Try.ntmps137
    go_wp2
    go_ret
    exact ⟨by rw [HE.out]; rfl, rfl⟩
theorem uni_lt {a b : List Int} {i k : Nat} (h : i < a.length) (h2 : k < b.length) (hx : a.getD i 0 < b.getD k 0) : uni (a.drop i) (b.drop k) = a.getD i 0 :: uni (a.drop (i + 1)) (b.drop k) := by
  rw [drop_at a 0 i h, drop_at b 0 k h2, uni, if_pos hx]
theorem uni_eq {a b : List Int} {i k : Nat} (h : i < a.length) (h2 : k < b.length) (hx : a.getD i 0 = b.getD k 0) : uni (a.drop i) (b.drop k) = b.getD k 0 :: uni (a.drop (i + 1)) (b.drop (k + 1)) := by
  rw [drop_at a 0 i h, drop_at b 0 k h2, uni, if_neg (by omega), if_pos hx]
theorem uni_gt {a b : List Int} {i k : Nat} (h : i < a.length) (h2 : k < b.length) (hx : b.getD k 0 < a.getD i 0) : uni (a.drop i) (b.drop k) = b.getD k 0 :: uni (a.drop i) (b.drop (k + 1)) := by
  rw [drop_at a 0 i h, drop_at b 0 k h2, uni, if_neg (by omega), if_neg (by omega)]
theorem uni_nil (a : List Int) : uni a [] = a := by cases a <;> simp [uni]
theorem uni_left {a b : List Int} {i k : Nat} (h : i < a.length) (h2 : b.length ≤ k) : uni (a.drop i) (b.drop k) = a.getD i 0 :: uni (a.drop (i + 1)) (b.drop k) := by
  rw [List.drop_of_length_le h2, uni_nil, uni_nil, drop_at a 0 i h]
theorem uni_right {a b : List Int} {i k : Nat} (h : a.length ≤ i) (h2 : k < b.length) : uni (a.drop i) (b.drop k) = b.getD k 0 :: uni (a.drop i) (b.drop (k + 1)) := by
  rw [List.drop_of_length_le h, drop_at b 0 k h2]; simp [uni]
theorem uni_end {a b : List Int} {i k : Nat} (h : a.length ≤ i) (h2 : b.length ≤ k) : uni (a.drop i) (b.drop k) = [] := by
  rw [List.drop_of_length_le h, List.drop_of_length_le h2]; simp [uni]
def UniOut (w w' : World) (r : List Int) (e : Ending) : Prop := ∃ v, e = .returned v ∧ (Kd.int .i64).R 3 w' w.heap.size (fun _ => True) v r ∧ Below w.heap.size w w'

set_option maxHeartbeats 4000000 in
set_option maxRecDepth 100000 in
theorem sUni_any (A B : Option Addr) (ca cb : Nat) (a b : List Int) (w : World) (la : a.length ≤ 1048576) (lb : b.length ≤ 1048576) (hA : (Kd.int .i64).C w A a.length a) (hB : (Kd.int .i64).C w B b.length b) :
    Calls Try.prog 138 #[.slice A a.length ca, .slice B b.length cb] w fun e w' => UniOut w w' (uni a b) e := by
  have hE0 := blk_new w (.cells #[] 3)
  have hR0 : RI w (w.alloc (.cells #[] 3)) (.slice (some ⟨w.heap.size, 0, none⟩) 0 0) [] := R_empty (Kd.int .i64) hE0 (Nat.le_refl _)
  have HB0 := Aside0.mk (below_alloc (Below.refl w.heap.size w) (.cells #[] 3))
  go_enter Try.func138, Try.ntmps138
  go_wp2
  generalize w.alloc (.cells #[] 3) = W0 at hR0 HB0 ⊢
  clear hE0
  go_loopw [5, 6, 7] (fun v5 vi vk wr => ∃ (i k : Nat) (P : List Int) (v : Value), i ≤ a.length ∧ k ≤ b.length ∧ P.length ≤ i + k ∧ vi = .int .i64 i ∧ vk = .int .i64 k ∧ v = v5 ∧ Aside0 (uni a b = P ++ uni (a.drop i) (b.drop k)) ∧ Aside0 (RI w wr v P) ∧ Aside0 (Below w.heap.size w wr)) (fun _ vi vk _ => (a.length - (intOf vi).toNat) + (b.length - (intOf vk).toNat))
  case atStart => exact ⟨0, 0, [], _, Nat.zero_le _, Nat.zero_le _, Nat.zero_le _, rfl, rfl, rfl, ⟨rfl⟩, ⟨hR0⟩, HB0⟩
  case round =>
    clear hR0 HB0
    obtain ⟨i, k, P, v, hi, hk, hP, rfl, rfl, rfl, HU, HR, HB⟩ := hrel
    by_cases hia : i < a.length
    · have a1 : decide (i < a.length) = true := decide_eq_true hia
      have a2 : (i : Int) < a.length := by omega
      obtain ⟨ad, rfl, hca⟩ := at1 (Kd.C_below hA HB.out) i hia
      by_cases hkb : k < b.length
      · have b1 : decide (k < b.length) = true := decide_eq_true hkb
        have b2 : (k : Int) < b.length := by omega
        have b3 : decide (b.length ≤ k) = false := decide_eq_false (by omega)
        obtain ⟨bd, rfl, hcb⟩ := at1 (Kd.C_below hB HB.out) k hkb
        have hlt3 := fun h => uni_lt (a := a) (b := b) hia hkb h
        have heq3 := fun h => uni_eq (a := a) (b := b) hia hkb h
        have hgt3 := fun h => uni_gt (a := a) (b := b) hia hkb h
        generalize a.getD i 0 = x at hca hlt3 heq3 hgt3
        generalize b.getD k 0 = y at hcb hlt3 heq3 hgt3
        have HL3 := Aside0.mk hlt3
        have HE3 := Aside0.mk heq3
        have HG3 := Aside0.mk hgt3
        clear hlt3 heq3 hgt3
        by_cases hxy : x < y
        · have t1 : decide (x < y) = true := decide_eq_true hxy
          have HN := Aside0.mk (show uni a b = (P ++ [x]) ++ uni (a.drop (i + 1)) (b.drop k) by rw [HU.out, HL3.out hxy]; simp)
          clear HL3 HE3 HG3
          go_wp2
          replace hca := cellE hca
          replace hcb := cellE hcb
          refine region_ext (W := wr) (Below.refl _ _) (by kernel_rfl) (by kernel_rfl) ?_
          repeat (first | go_big_quiet_step (fail) | quiet_step (fail))
          refine wpQuiet_nil ?_
          rintro _ ⟨s, rfl⟩
          have HBq := Aside0.mk (below_then HB.out HB.out.size s.2)
          have HRq := Aside0.mk (Kd.R_below HR.out s.2)
          replace hca := hca s
          replace hcb := hcb s
          clear HB HR
          generalize s.1 = wq at HBq HRq hca hcb ⊢
          have HB := HBq
          have HR := HRq
          clear HBq HRq
          go_wp2_with ((with_reducible refine gate_dst (N := 46) rfl ?_); refine Kd.R_append (Kd.int .i64) (w0 := w) w.heap.size rfl _ _ 23 3 (.int .i64 0) 8 rfl Try.underlying23 Cc.infoI rfl (by decide) (by decide) v P x [.int .i64 x] (fun _ => True) (fun _ => False) rfl rfl rfl (fun _ h => h.elim) (fun _ _ => trivial) HR.out HB.out HB.out.size (by omega) ?_; intro v4 w4 hr4 hb4 hg4 hat4; have HR4 := Aside0.mk hr4; have HB4 := Aside0.mk hb4; clear hr4 hb4 hg4 hat4)
          go_roundw
          case rel => exact ⟨i + 1, k, P ++ [x], _, by omega, by omega, by simp; omega, by go_num, rfl, rfl, HN, HR4, HB4⟩
          case measure => simp [intOf]; omega
        · have t1 : decide (x < y) = false := decide_eq_false hxy
          by_cases hey : x = y
          · have t2 : (x == y) = true := by simpa using hey
            have HN := Aside0.mk (show uni a b = (P ++ [y]) ++ uni (a.drop (i + 1)) (b.drop (k + 1)) by rw [HU.out, HE3.out hey]; simp)
            have HEY := Aside0.mk hey
            clear HL3 HE3 HG3 hey hxy
            go_wp2
            replace hca := cellE hca
            replace hcb := cellE hcb
            refine region_ext (W := wr) (Below.refl _ _) (by kernel_rfl) (by kernel_rfl) ?_
            repeat (first | go_big_quiet_step (fail) | quiet_step (fail))
            refine wpQuiet_nil ?_
            rintro _ ⟨s, rfl⟩
            have HBq := Aside0.mk (below_then HB.out HB.out.size s.2)
            have HRq := Aside0.mk (Kd.R_below HR.out s.2)
            replace hca := hca s
            replace hcb := hcb s
            clear HB HR
            generalize s.1 = wq at HBq HRq hca hcb ⊢
            have HB := HBq
            have HR := HRq
            clear HBq HRq
            go_wp2
            replace hca := cellE hca
            replace hcb := cellE hcb
            refine region_ext (W := wq) (Below.refl _ _) (by kernel_rfl) (by kernel_rfl) ?_
            repeat (first | go_big_quiet_step (fail) | quiet_step (fail))
            refine wpQuiet_nil ?_
            rintro _ ⟨s, rfl⟩
            have HBq := Aside0.mk (below_then HB.out HB.out.size s.2)
            have HRq := Aside0.mk (Kd.R_below HR.out s.2)
            replace hca := hca s
            replace hcb := hcb s
            clear HB HR
            generalize s.1 = wq2 at HBq HRq hca hcb ⊢
            have HB := HBq
            have HR := HRq
            clear HBq HRq
            go_wp2_with ((with_reducible refine gate_dst (N := 72) rfl ?_); refine Kd.R_append (Kd.int .i64) (w0 := w) w.heap.size rfl _ _ 23 3 (.int .i64 0) 8 rfl Try.underlying23 Cc.infoI rfl (by decide) (by decide) v P y [.int .i64 y] (fun _ => True) (fun _ => False) rfl rfl rfl (fun _ h => h.elim) (fun _ _ => trivial) HR.out HB.out HB.out.size (by omega) ?_; intro v4 w4 hr4 hb4 hg4 hat4; have HR4 := Aside0.mk hr4; have HB4 := Aside0.mk hb4; clear hr4 hb4 hg4 hat4)
            go_roundw
            case rel => exact ⟨i + 1, k + 1, P ++ [y], _, by omega, by omega, by simp; omega, by go_num, by go_num, rfl, HN, HR4, HB4⟩
            case measure => simp [intOf]; omega
          · have t2 : (x == y) = false := by simpa using hey
            have HN := Aside0.mk (show uni a b = (P ++ [y]) ++ uni (a.drop i) (b.drop (k + 1)) by rw [HU.out, HG3.out (by omega)]; simp)
            clear HL3 HE3 HG3 hey hxy
            go_wp2
            replace hca := cellE hca
            replace hcb := cellE hcb
            refine region_ext (W := wr) (Below.refl _ _) (by kernel_rfl) (by kernel_rfl) ?_
            repeat (first | go_big_quiet_step (fail) | quiet_step (fail))
            refine wpQuiet_nil ?_
            rintro _ ⟨s, rfl⟩
            have HBq := Aside0.mk (below_then HB.out HB.out.size s.2)
            have HRq := Aside0.mk (Kd.R_below HR.out s.2)
            replace hca := hca s
            replace hcb := hcb s
            clear HB HR
            generalize s.1 = wq at HBq HRq hca hcb ⊢
            have HB := HBq
            have HR := HRq
            clear HBq HRq
            go_wp2
            replace hca := cellE hca
            replace hcb := cellE hcb
            refine region_ext (W := wq) (Below.refl _ _) (by kernel_rfl) (by kernel_rfl) ?_
            repeat (first | go_big_quiet_step (fail) | quiet_step (fail))
            refine wpQuiet_nil ?_
            rintro _ ⟨s, rfl⟩
            have HBq := Aside0.mk (below_then HB.out HB.out.size s.2)
            have HRq := Aside0.mk (Kd.R_below HR.out s.2)
            replace hca := hca s
            replace hcb := hcb s
            clear HB HR
            generalize s.1 = wq2 at HBq HRq hca hcb ⊢
            have HB := HBq
            have HR := HRq
            clear HBq HRq
            go_wp2_with ((with_reducible refine gate_dst (N := 72) rfl ?_); refine Kd.R_append (Kd.int .i64) (w0 := w) w.heap.size rfl _ _ 23 3 (.int .i64 0) 8 rfl Try.underlying23 Cc.infoI rfl (by decide) (by decide) v P y [.int .i64 y] (fun _ => True) (fun _ => False) rfl rfl rfl (fun _ h => h.elim) (fun _ _ => trivial) HR.out HB.out HB.out.size (by omega) ?_; intro v4 w4 hr4 hb4 hg4 hat4; have HR4 := Aside0.mk hr4; have HB4 := Aside0.mk hb4; clear hr4 hb4 hg4 hat4)
            go_roundw
            case rel => exact ⟨i, k + 1, P ++ [y], _, by omega, by omega, by simp; omega, rfl, by go_num, rfl, HN, HR4, HB4⟩
            case measure => simp [intOf]; omega
      · have b1 : decide (k < b.length) = false := decide_eq_false hkb
        have b3 : decide (b.length ≤ k) = true := decide_eq_true (by omega)
        have hl3 := uni_left (a := a) (b := b) hia (show b.length ≤ k by omega)
        generalize a.getD i 0 = x at hca hl3
        have HN := Aside0.mk (show uni a b = (P ++ [x]) ++ uni (a.drop (i + 1)) (b.drop k) by rw [HU.out, hl3]; simp)
        clear hl3
        go_wp2
        replace hca := cellE hca
        refine region_ext (W := wr) (Below.refl _ _) (by kernel_rfl) (by kernel_rfl) ?_
        repeat (first | go_big_quiet_step (fail) | quiet_step (fail))
        refine wpQuiet_nil ?_
        rintro _ ⟨s, rfl⟩
        have HBq := Aside0.mk (below_then HB.out HB.out.size s.2)
        have HRq := Aside0.mk (Kd.R_below HR.out s.2)
        replace hca := hca s
        clear HB HR
        generalize s.1 = wq at HBq HRq hca ⊢
        have HB := HBq
        have HR := HRq
        clear HBq HRq
        go_wp2_with ((with_reducible refine gate_dst (N := 46) rfl ?_); refine Kd.R_append (Kd.int .i64) (w0 := w) w.heap.size rfl _ _ 23 3 (.int .i64 0) 8 rfl Try.underlying23 Cc.infoI rfl (by decide) (by decide) v P x [.int .i64 x] (fun _ => True) (fun _ => False) rfl rfl rfl (fun _ h => h.elim) (fun _ _ => trivial) HR.out HB.out HB.out.size (by omega) ?_; intro v4 w4 hr4 hb4 hg4 hat4; have HR4 := Aside0.mk hr4; have HB4 := Aside0.mk hb4; clear hr4 hb4 hg4 hat4)
        go_roundw
        case rel => exact ⟨i + 1, k, P ++ [x], _, by omega, by omega, by simp; omega, by go_num, rfl, rfl, HN, HR4, HB4⟩
        case measure => simp [intOf]; omega
    · have a1 : decide (i < a.length) = false := decide_eq_false hia
      by_cases hkb : k < b.length
      · have b1 : decide (k < b.length) = true := decide_eq_true hkb
        have b2 : (k : Int) < b.length := by omega
        have b3 : decide (b.length ≤ k) = false := decide_eq_false (by omega)
        obtain ⟨bd, rfl, hcb⟩ := at1 (Kd.C_below hB HB.out) k hkb
        have hl3 := uni_right (a := a) (b := b) (show a.length ≤ i by omega) hkb
        generalize b.getD k 0 = y at hcb hl3
        have HN := Aside0.mk (show uni a b = (P ++ [y]) ++ uni (a.drop i) (b.drop (k + 1)) by rw [HU.out, hl3]; simp)
        clear hl3
        go_wp2
        replace hcb := cellE hcb
        refine region_ext (W := wr) (Below.refl _ _) (by kernel_rfl) (by kernel_rfl) ?_
        repeat (first | go_big_quiet_step (fail) | quiet_step (fail))
        refine wpQuiet_nil ?_
        rintro _ ⟨s, rfl⟩
        have HBq := Aside0.mk (below_then HB.out HB.out.size s.2)
        have HRq := Aside0.mk (Kd.R_below HR.out s.2)
        replace hcb := hcb s
        clear HB HR
        generalize s.1 = wq at HBq HRq hcb ⊢
        have HB := HBq
        have HR := HRq
        clear HBq HRq
        go_wp2
        replace hcb := cellE hcb
        refine region_ext (W := wq) (Below.refl _ _) (by kernel_rfl) (by kernel_rfl) ?_
        repeat (first | go_big_quiet_step (fail) | quiet_step (fail))
        refine wpQuiet_nil ?_
        rintro _ ⟨s, rfl⟩
        have HBq := Aside0.mk (below_then HB.out HB.out.size s.2)
        have HRq := Aside0.mk (Kd.R_below HR.out s.2)
        replace hcb := hcb s
        clear HB HR
        generalize s.1 = wq2 at HBq HRq hcb ⊢
        have HB := HBq
        have HR := HRq
        clear HBq HRq
        go_wp2_with ((with_reducible refine gate_dst (N := 72) rfl ?_); refine Kd.R_append (Kd.int .i64) (w0 := w) w.heap.size rfl _ _ 23 3 (.int .i64 0) 8 rfl Try.underlying23 Cc.infoI rfl (by decide) (by decide) v P y [.int .i64 y] (fun _ => True) (fun _ => False) rfl rfl rfl (fun _ h => h.elim) (fun _ _ => trivial) HR.out HB.out HB.out.size (by omega) ?_; intro v4 w4 hr4 hb4 hg4 hat4; have HR4 := Aside0.mk hr4; have HB4 := Aside0.mk hb4; clear hr4 hb4 hg4 hat4)
        go_roundw
        case rel => exact ⟨i, k + 1, P ++ [y], _, by omega, by omega, by simp; omega, rfl, by go_num, rfl, HN, HR4, HB4⟩
        case measure => simp [intOf]; omega
      · have b1 : decide (k < b.length) = false := decide_eq_false hkb
        have HN := Aside0.mk (show uni a b = P by rw [HU.out, uni_end (by omega) (by omega)]; simp)
        go_wp2
        go_ret
        exact ⟨_, rfl, by rw [HN.out]; exact HR.out, HB.out⟩

def JoinOut (w w' : World) (x y : Occ) (e : Ending) : Prop := ∃ v, e = .returned (.agg #[.int .i64 (join x y).f0, .int .i64 (join x y).f1, v]) ∧ (Kd.int .i64).R 3 w' w.heap.size (fun _ => True) v (join x y).f2 ∧ Below w.heap.size w w'
set_option maxHeartbeats 2000000 in
set_option maxRecDepth 100000 in
theorem sJoin_any (x y : Occ) (A B : Option Addr) (ca cb : Nat) (w : World) (hx : IsO w x A ca) (hy : IsO w y B cb) (lx : x.f2.length ≤ 1048576) (ly : y.f2.length ≤ 1048576) :
    Calls Try.prog 122 #[.agg #[.int .i64 x.f0, .int .i64 x.f1, .slice A x.f2.length ca], .agg #[.int .i64 y.f0, .int .i64 y.f1, .slice B y.f2.length cb]] w fun e w' => JoinOut w w' x y e := by
  obtain ⟨hb, b0, b1, b2⟩ := boxes3 w #[.int .i64 x.f0, .int .i64 x.f1, .slice A x.f2.length ca] #[.int .i64 y.f0, .int .i64 y.f1, .slice B y.f2.length cb] #[.int .i64 0, .int .i64 0, .slice none 0 0] 25 25 25
  have HX := Aside0.mk (hx.below hb)
  have HY := Aside0.mk (hy.below hb)
  have HB := Aside0.mk hb
  go_enter Try.func122, Try.ntmps122
  go_wp2
  generalize ((w.alloc (.cells #[.int .i64 x.f0, .int .i64 x.f1, .slice A x.f2.length ca] 25)).alloc (.cells #[.int .i64 y.f0, .int .i64 y.f1, .slice B y.f2.length cb] 25)).alloc (.cells #[.int .i64 0, .int .i64 0, .slice none 0 0] 25) = W at b0 b1 b2 HX HY HB ⊢
  clear hb
  have F : ∀ w', Below W.heap.size W w' → w'.cell? ⟨w.heap.size, 0, none⟩ = some (.int .i64 x.f0) ∧ w'.cell? ⟨w.heap.size, 1, none⟩ = some (.int .i64 x.f1) ∧ w'.cell? ⟨w.heap.size, 2, none⟩ = some (.slice A x.f2.length ca) ∧ w'.cell? ⟨w.heap.size + 1, 0, none⟩ = some (.int .i64 y.f0) ∧ w'.cell? ⟨w.heap.size + 1, 1, none⟩ = some (.int .i64 y.f1) ∧ w'.cell? ⟨w.heap.size + 1, 2, none⟩ = some (.slice B y.f2.length cb) :=
    fun w' h => ⟨pw_cell_below h ((blk_cell b0 0).trans rfl), pw_cell_below h ((blk_cell b0 1).trans rfl), pw_cell_below h ((blk_cell b0 2).trans rfl), pw_cell_below h ((blk_cell b1 0).trans rfl), pw_cell_below h ((blk_cell b1 1).trans rfl), pw_cell_below h ((blk_cell b1 2).trans rfl)⟩
  have k0 := fun w2 => min_any x.f0 y.f0 w2
  have k1 := fun w2 => max_any x.f1 y.f1 w2
  have hn0 : w.heap.size ≠ w.heap.size + 1 + 1 := by omega
  have hn1 : w.heap.size + 1 ≠ w.heap.size + 1 + 1 := by omega
  go_region_held3 (fun w' => w'.cell? ⟨w.heap.size, 0, none⟩ = some (.int .i64 x.f0) ∧ w'.cell? ⟨w.heap.size, 1, none⟩ = some (.int .i64 x.f1) ∧ w'.cell? ⟨w.heap.size, 2, none⟩ = some (.slice A x.f2.length ca) ∧ w'.cell? ⟨w.heap.size + 1, 0, none⟩ = some (.int .i64 y.f0) ∧ w'.cell? ⟨w.heap.size + 1, 1, none⟩ = some (.int .i64 y.f1) ∧ w'.cell? ⟨w.heap.size + 1, 2, none⟩ = some (.slice B y.f2.length cb))
    (first | (with_reducible exact F _ (Below.refl _ _)) | (with_reducible exact F _ (below_drew (Below.refl _ _))) | (with_reducible exact F _ HB5) | (with_reducible exact G5 _ _ _))
    (first
      | (go_at_call 112; refine (k0 _).mono ?_; rintro e w' ⟨rfl, rfl⟩)
      | (go_at_call 137; refine (k1 _).mono ?_; rintro e w' ⟨rfl, rfl⟩)
      | (go_at_call 138; refine (sUni_any A B ca cb x.f2 y.f2 _ lx ly (HX.out.below (below_drew (Below.refl _ _))).2 (HY.out.below (below_drew (Below.refl _ _))).2).mono ?_; rintro e w5 ⟨v5, rfl, hr5, hb5⟩; obtain ⟨A5, c5, rfl⟩ := Kd.R_slice hr5; have HB5 : Below W.heap.size W w5 := keepD hb5; have HR5 := Aside0.mk hr5; have b25 := blk_below b2 HB5; have q0 := (blk_cell b25 0).trans rfl; have q1 := (blk_cell b25 1).trans rfl; have q2 := (blk_cell b25 2).trans rfl; have z0 := blk_frozen b25 0; have z1 := blk_frozen b25 1; have z2 := blk_frozen b25 2; have b05 := blk_below b0 HB5; have b15 := blk_below b1 HB5; have G5 : ∀ u0 u1 u2, (((w5.setCell ⟨w.heap.size + 1 + 1, 0, none⟩ u0).setCell ⟨w.heap.size + 1 + 1, 1, none⟩ u1).setCell ⟨w.heap.size + 1 + 1, 2, none⟩ u2).cell? ⟨w.heap.size, 0, none⟩ = some (.int .i64 x.f0) ∧ (((w5.setCell ⟨w.heap.size + 1 + 1, 0, none⟩ u0).setCell ⟨w.heap.size + 1 + 1, 1, none⟩ u1).setCell ⟨w.heap.size + 1 + 1, 2, none⟩ u2).cell? ⟨w.heap.size, 1, none⟩ = some (.int .i64 x.f1) ∧ (((w5.setCell ⟨w.heap.size + 1 + 1, 0, none⟩ u0).setCell ⟨w.heap.size + 1 + 1, 1, none⟩ u1).setCell ⟨w.heap.size + 1 + 1, 2, none⟩ u2).cell? ⟨w.heap.size, 2, none⟩ = some (.slice A x.f2.length ca) ∧ (((w5.setCell ⟨w.heap.size + 1 + 1, 0, none⟩ u0).setCell ⟨w.heap.size + 1 + 1, 1, none⟩ u1).setCell ⟨w.heap.size + 1 + 1, 2, none⟩ u2).cell? ⟨w.heap.size + 1, 0, none⟩ = some (.int .i64 y.f0) ∧ (((w5.setCell ⟨w.heap.size + 1 + 1, 0, none⟩ u0).setCell ⟨w.heap.size + 1 + 1, 1, none⟩ u1).setCell ⟨w.heap.size + 1 + 1, 2, none⟩ u2).cell? ⟨w.heap.size + 1, 1, none⟩ = some (.int .i64 y.f1) ∧ (((w5.setCell ⟨w.heap.size + 1 + 1, 0, none⟩ u0).setCell ⟨w.heap.size + 1 + 1, 1, none⟩ u1).setCell ⟨w.heap.size + 1 + 1, 2, none⟩ u2).cell? ⟨w.heap.size + 1, 2, none⟩ = some (.slice B y.f2.length cb) := fun u0 u1 u2 => ⟨(far3 hn0).trans ((blk_cell b05 0).trans rfl), (far3 hn0).trans ((blk_cell b05 1).trans rfl), (far3 hn0).trans ((blk_cell b05 2).trans rfl), (far3 hn1).trans ((blk_cell b15 0).trans rfl), (far3 hn1).trans ((blk_cell b15 1).trans rfl), (far3 hn1).trans ((blk_cell b15 2).trans rfl)⟩; clear hr5 hb5))
  all_goals
    go_wp2
    refine bodyPost_ret (results_cell_row rfl _ _ (w.heap.size + 1 + 1) 25 #[.int .i64 (min x.f0 y.f0), .int .i64 (max x.f1 y.f1), .slice A5 (uni x.f2 y.f2).length c5] (0, 0) _ rfl (set3_blk _ _ _ b25) Try.underlying25 rfl (by kernel_rfl)) rfl ?_
    exact ⟨_, rfl, Kd.R_lower (set3_R HR5.out b25 (by decide) _ _ _) HB.out.size, set3_below (below_then HB.out HB.out.size HB5) (by omega) _ _ _⟩
end Go.Proofs.Ytjeojdbfpncnkaa.Rb
