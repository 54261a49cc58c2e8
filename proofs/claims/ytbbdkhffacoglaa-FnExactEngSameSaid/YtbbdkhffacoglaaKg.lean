
/- The order of occurrences, and the program's compare. Out of this proof's own texts. -/
import Derived.Test.YtbbdkhffacoglaaKe
set_option linter.unusedVariables false
set_option linter.unusedSimpArgs false
namespace Go.Proofs.Ytbbdkhffacoglaa.Kg
open Go.RowKit Go.Proofs.YtbbdkhffacoglaaW.PrintWords Go.Proofs.Ytbbdkhffacoglaa.Ja Go.Proofs.Ytbbdkhffacoglaa.Jb Go.Proofs.Ytbbdkhffacoglaa.Jc Go.Proofs.Ytbbdkhffacoglaa.Jd Go.Proofs.Ytbbdkhffacoglaa.Ka Go.Proofs.Ytbbdkhffacoglaa.Ke
abbrev Occ := TOcc
abbrev IsO (w : World) (x : Occ) (A : Option Addr) (c : Nat) : Prop := IsS (Kd.int .i64) w x.f2 A c
theorem box3 (w : World) (u0 u1 u2 : Value) (t : TypeId) : Below w.heap.size w (w.alloc (.cells #[u0, u1, u2] t)) ∧ (w.alloc (.cells #[u0, u1, u2] t)).cell? ⟨w.heap.size, 0, none⟩ = some u0 ∧
    (w.alloc (.cells #[u0, u1, u2] t)).cell? ⟨w.heap.size, 1, none⟩ = some u1 ∧ (w.alloc (.cells #[u0, u1, u2] t)).cell? ⟨w.heap.size, 2, none⟩ = some u2 := ⟨below_alloc (Below.refl _ _) _, by simp, by simp, by simp⟩
def cmpIds : List Int → List Int → Int
  | [], [] => 0
  | [], _ :: _ => -1
  | _ :: _, [] => 1
  | a :: as'', b :: bs => if a < b then -1 else if b < a then 1 else cmpIds as'' bs
theorem cmpIds_swap : ∀ a b, cmpIds b a = -(cmpIds a b)
  | [], [] => rfl
  | [], _ :: _ => rfl
  | _ :: _, [] => rfl
  | a :: as'', b :: bs => by
    simp only [cmpIds]
    have := cmpIds_swap as'' bs
    split <;> split <;> (first | omega | skip) <;> split <;> omega
theorem cmpIds_eq : ∀ a b, cmpIds a b = 0 ↔ a = b
  | [], [] => by simp [cmpIds]
  | [], _ :: _ => by simp [cmpIds]
  | _ :: _, [] => by simp [cmpIds]
  | a :: as'', b :: bs => by
    simp only [cmpIds, List.cons.injEq]
    have := cmpIds_eq as'' bs
    by_cases h1 : a < b
    · simp [h1]; omega
    · by_cases h2 : b < a
      · simp [h1, h2]; omega
      · simp only [h1, h2, if_false, this]
        constructor
        · intro h; exact ⟨by omega, h⟩
        · intro h; exact h.2
def cmpO (x y : Occ) : Int := if x.f1 = y.f1 then (if x.f0 = y.f0 then cmpIds x.f2 y.f2 else if x.f0 < y.f0 then -1 else 1) else if x.f1 < y.f1 then -1 else 1
theorem cmpO_swap (x y : Occ) : cmpO y x = -(cmpO x y) := by
  unfold cmpO
  have := cmpIds_swap x.f2 y.f2
  by_cases h : x.f1 = y.f1
  · rw [if_pos h, if_pos h.symm]
    by_cases g : x.f0 = y.f0
    · rw [if_pos g, if_pos g.symm]; exact this
    · rw [if_neg g, if_neg (fun e => g e.symm)]
      split <;> split <;> omega
  · rw [if_neg h, if_neg (fun e => h e.symm)]
    split <;> split <;> omega
theorem cmpO_eq (x y : Occ) : cmpO x y = 0 ↔ x = y := by
  obtain ⟨a, b, c⟩ := x
  obtain ⟨d, e, g⟩ := y
  unfold cmpO
  simp only [Ka.TOcc.mk.injEq]
  have := cmpIds_eq c g
  by_cases h : b = e
  · by_cases k : a = d
    · simp [h, k, this]
    · simp only [h, k, if_true, if_false]
      constructor
      · intro q; split at q <;> omega
      · intro q; exact absurd q.1 (by simp)
  · simp only [h, if_false]
    constructor
    · intro q; split at q <;> omega
    · intro q; exact absurd q.2.1 (by simp)
theorem nan_any (n : Int) (w : World) : Calls Try.prog 83 #[.int .i64 n] w fun e w' => e = .returned (.bool false) ∧ w' = w := by
  go_enter Try.func83, Try.ntmps83
  go_wp2
  go_ret
  exact ⟨by simp, rfl⟩

def cmpI (x y : Int) : Int := if x < y then -1 else if y < x then 1 else 0
theorem cmpI_any (x y : Int) (w : World) : Calls Try.prog 75 #[.int .i64 x, .int .i64 y] w fun e w' => e = .returned (.int .i64 (cmpI x y)) ∧ w' = w := by
  by_cases h : x < y
  · have HC := Aside0.mk (show cmpI x y = -1 by unfold cmpI; rw [if_pos h])
    go_enter Try.func75, Try.ntmps75
    go_wp2_with (go_at_call 83; refine (nan_any _ _).mono ?_; rintro e w' ⟨rfl, rfl⟩)
    go_ret
    exact ⟨by rw [HC.out]; rfl, rfl⟩
  · have h1 : decide (x < y) = false := decide_eq_false h
    by_cases g : y < x
    · have h2 : decide (x > y) = true := decide_eq_true g
      have HC := Aside0.mk (show cmpI x y = 1 by unfold cmpI; rw [if_neg h, if_pos g])
      go_enter Try.func75, Try.ntmps75
      go_wp2_with (go_at_call 83; refine (nan_any _ _).mono ?_; rintro e w' ⟨rfl, rfl⟩)
      go_ret
      exact ⟨by rw [HC.out]; rfl, rfl⟩
    · have h2 : decide (x > y) = false := decide_eq_false g
      have HC := Aside0.mk (show cmpI x y = 0 by unfold cmpI; rw [if_neg h, if_neg g])
      go_enter Try.func75, Try.ntmps75
      go_wp2_with (go_at_call 83; refine (nan_any _ _).mono ?_; rintro e w' ⟨rfl, rfl⟩)
      go_ret
      exact ⟨by rw [HC.out]; rfl, rfl⟩

theorem cmpIds_at (a b : List Int) (k : Nat) (ha : k < a.length) (hb : k < b.length) : cmpIds (a.drop k) (b.drop k) = if cmpI (a.getD k 0) (b.getD k 0) = 0 then cmpIds (a.drop (k + 1)) (b.drop (k + 1)) else cmpI (a.getD k 0) (b.getD k 0) := by
  rw [drop_at a 0 k ha, drop_at b 0 k hb, cmpIds]
  unfold cmpI
  split
  · simp
  · split <;> simp

theorem cmpIds_any (A B : Option Addr) (c c2 : Nat) (a b : List Int) (w : World) (ha : (Kd.int .i64).C w A a.length a) (hb : (Kd.int .i64).C w B b.length b) :
    Calls Try.prog 56 #[.slice A a.length c, .slice B b.length c2] w fun e w' => e = .returned (.int .i64 (cmpIds a b)) ∧ w' = w := by
  have hn := (C_len ha).2
  have hn2 := (C_len hb).2
  go_enter Try.func56, Try.ntmps56
  go_wp2
  go_loop [11] (fun i => ∃ k : Nat, k ≤ a.length ∧ k ≤ b.length ∧ i = .int .i64 k ∧ Aside0 (cmpIds a b = cmpIds (a.drop k) (b.drop k))) (fun i => a.length - (intOf i).toNat)
  case atStart => exact ⟨0, Nat.zero_le _, Nat.zero_le _, rfl, ⟨rfl⟩⟩
  case round =>
    obtain ⟨k, hk, hk2, rfl, HH⟩ := hrel
    by_cases hlt : k < a.length
    · obtain ⟨ad, rfl, hc⟩ := at1 ha k hlt
      by_cases hlt2 : k < b.length
      · obtain ⟨ad2, rfl, hc2⟩ := at1 hb k hlt2
        have hg : decide ((k : Int) ≥ b.length) = false := by simp; omega
        have HS := Aside0.mk (cmpIds_at a b k hlt hlt2)
        have hcl := cmpI_any (a.getD k 0) (b.getD k 0)
        generalize a.getD k 0 = x at hc HS hcl
        generalize b.getD k 0 = y at hc2 HS hcl
        by_cases hz : cmpI x y = 0
        · have HS2 := Aside0.mk (show cmpIds a b = cmpIds (a.drop (k + 1)) (b.drop (k + 1)) by rw [HH.out, HS.out, if_pos hz])
          rw [hz] at hcl
          clear hz
          go_wp2_with (go_at_call 75; refine (hcl _).mono ?_; rintro e w' ⟨rfl, rfl⟩)
          go_round
          case rel => exact ⟨k + 1, by omega, by omega, by go_num, HS2⟩
          case measure => simp [intOf]; omega
        · have HS2 := Aside0.mk (show cmpIds a b = cmpI x y by rw [HH.out, HS.out, if_neg hz])
          have hz2 : (cmpI x y != 0) = true := by simpa using hz
          clear hz
          go_wp2_with (go_at_call 75; refine (hcl _).mono ?_; rintro e w' ⟨rfl, rfl⟩)
          go_ret
          exact ⟨by rw [HS2.out]; rfl, rfl⟩
      · have hg : decide ((k : Int) ≥ b.length) = true := by simp; omega
        have HS2 := Aside0.mk (show cmpIds a b = 1 by rw [HH.out, List.drop_of_length_le (l := b) (by omega), drop_at a 0 k hlt, cmpIds])
        go_wp2
        go_ret
        exact ⟨by rw [HS2.out]; rfl, rfl⟩
    · have hke : k = a.length := by omega
      by_cases hl : a.length < b.length
      · have hl2 : decide (a.length < b.length) = true := decide_eq_true hl
        have HS2 := Aside0.mk (show cmpIds a b = -1 by rw [HH.out, List.drop_of_length_le (l := a) (by omega), drop_at b 0 k (by omega), cmpIds])
        clear hke
        go_wp2
        go_ret
        exact ⟨by rw [HS2.out]; rfl, rfl⟩
      · have hl2 : decide (a.length < b.length) = false := decide_eq_false hl
        have HS2 := Aside0.mk (show cmpIds a b = 0 by rw [HH.out, List.drop_of_length_le (l := a) (by omega), List.drop_of_length_le (l := b) (by omega), cmpIds])
        clear hke
        go_wp2
        go_ret
        exact ⟨by rw [HS2.out]; rfl, rfl⟩

def sgn (b : Bool) : Int := if b = true then -1 else 1
theorem sign_any (b : Bool) (w : World) : Calls Try.prog 55 #[.bool b] w fun e w' => e = .returned (.int .i64 (sgn b)) ∧ w' = w := by
  cases b with
  | true =>
    go_enter Try.func55, Try.ntmps55
    go_wp2
    go_ret
    exact ⟨rfl, rfl⟩
  | false =>
    go_enter Try.func55, Try.ntmps55
    go_wp2
    go_ret
    exact ⟨rfl, rfl⟩

theorem compare_any (x y : Occ) (A B : Option Addr) (c c2 : Nat) (w : World) (hx : IsO w x A c) (hy : IsO w y B c2) :
    Calls Try.prog 30 #[.agg #[.int .i64 x.f0, .int .i64 x.f1, .slice A x.f2.length c], .agg #[.int .i64 y.f0, .int .i64 y.f1, .slice B y.f2.length c2]] w fun e w' => e = .returned (.int .i64 (cmpO x y)) ∧ Below w.heap.size w w' := by
  by_cases h : x.f1 = y.f1
  · by_cases g : x.f0 = y.f0
    · have HC := Aside0.mk (show cmpO x y = cmpIds x.f2 y.f2 by unfold cmpO; rw [if_pos h, if_pos g])
      have h1 : (x.f1 != y.f1) = false := by simpa using h
      have g1 : (x.f0 != y.f0) = false := by simpa using g
      have hb : Below w.heap.size w ((w.alloc (.cells #[.int .i64 x.f0, .int .i64 x.f1, .slice A x.f2.length c] 60)).alloc (.cells #[.int .i64 y.f0, .int .i64 y.f1, .slice B y.f2.length c2] 60)) := by repeat (first | exact Below.refl _ _ | apply below_alloc)
      have hcl := cmpIds_any A B c c2 x.f2 y.f2 _ (Kd.C_below hx.2 hb) (Kd.C_below hy.2 hb)
      clear h g
      have HB := Aside0.mk hb
      clear hb
      go_enter Try.func30, Try.ntmps30
      go_wp2_with (go_at_call 56; refine hcl.mono ?_; rintro e w' ⟨rfl, rfl⟩)
      go_ret
      exact ⟨by rw [HC.out]; rfl, HB.out⟩
    · have h1 : (x.f1 != y.f1) = false := by simpa using h
      have g1 : (x.f0 != y.f0) = true := by simpa using g
      have HC := Aside0.mk (show cmpO x y = sgn (decide (x.f0 < y.f0)) by unfold cmpO sgn; rw [if_pos h, if_neg g]; simp)
      clear h g
      go_enter Try.func30, Try.ntmps30
      go_wp2_with (go_at_call 55; refine (sign_any _ _).mono ?_; rintro e w' ⟨rfl, rfl⟩)
      go_ret
      exact ⟨by rw [HC.out]; rfl, by repeat (first | exact Below.refl _ _ | apply below_alloc)⟩
  · have h1 : (x.f1 != y.f1) = true := by simpa using h
    have HC := Aside0.mk (show cmpO x y = sgn (decide (x.f1 < y.f1)) by unfold cmpO sgn; rw [if_neg h]; simp)
    clear h
    go_enter Try.func30, Try.ntmps30
    go_wp2_with (go_at_call 55; refine (sign_any _ _).mono ?_; rintro e w' ⟨rfl, rfl⟩)
    go_ret
    exact ⟨by rw [HC.out]; rfl, by repeat (first | exact Below.refl _ _ | apply below_alloc)⟩

end Go.Proofs.Ytbbdkhffacoglaa.Kg
