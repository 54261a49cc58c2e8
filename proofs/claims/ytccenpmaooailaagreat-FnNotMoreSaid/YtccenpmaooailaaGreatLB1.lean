
import Derived.Test.YtccenpmaooailaaGreatLB0
import Derived.Test.YtccenpmaooailaaGreatProg
import Derived.Deep.RegionHeld3
import Derived.Test.YtccenpmaooailaaGreatWZeros
import Derived.Test.YtccenpmaooailaaGreatLays
import Derived.Laws.CopyOwn
import Derived.Lib.Overlaps
import Derived.Laws.Externs
import Derived.Lib.BufferMore
import Derived.Lib.AppendZerosOnto
/- What the program's small functions on occurrences come to: is one right, which is ahead. One walk each. -/
set_option linter.unusedVariables false
set_option linter.unusedSimpArgs false
namespace Go.Proofs.YtccenpmaooailaaGreat.Ca
open Go.RowKit Go.Proofs.YtccenpmaooailaaGreatW.PrintWords Go.Proofs.YtccenpmaooailaaGreat.Wd Go.Proofs.YtccenpmaooailaaGreat.Pu

theorem in_any (n a b : Int) (w : World) : Calls Tryz.prog 102 #[.int .i64 n, .int .i64 a, .int .i64 b] w fun e w' => e = .returned (.bool (inb n a b)) ∧ w' = w := by
  unfold inb
  by_cases h : a ≤ n
  · have h' : decide (a ≤ n) = true := decide_eq_true h
    go_enter Tryz.func102, Tryz.ntmps102
    go_wp2
    go_ret
    exact ⟨by simp [h], rfl⟩
  · have h' : decide (a ≤ n) = false := decide_eq_false h
    go_enter Tryz.func102, Tryz.ntmps102
    go_wp2
    go_ret
    exact ⟨by simp [h], rfl⟩

theorem nan_any (n : Int) (w : World) : Calls Tryz.prog 132 #[.int .i64 n] w fun e w' => e = .returned (.bool false) ∧ w' = w := by
  go_enter Tryz.func132, Tryz.ntmps132
  go_wp2
  go_ret
  exact ⟨by simp, rfl⟩

def cmpI (x y : Int) : Int := if x < y then -1 else if y < x then 1 else 0
theorem cmpI_any (x y : Int) (w : World) : Calls Tryz.prog 121 #[.int .i64 x, .int .i64 y] w fun e w' => e = .returned (.int .i64 (cmpI x y)) ∧ w' = w := by
  by_cases h : x < y
  · have HC := Aside0.mk (show cmpI x y = -1 by unfold cmpI; rw [if_pos h])
    go_enter Tryz.func121, Tryz.ntmps121
    go_wp2_with (go_at_call 132; refine (nan_any _ _).mono ?_; rintro e w' ⟨rfl, rfl⟩)
    go_ret
    exact ⟨by rw [HC.out]; rfl, rfl⟩
  · have h1 : decide (x < y) = false := decide_eq_false h
    by_cases g : y < x
    · have h2 : decide (x > y) = true := decide_eq_true g
      have HC := Aside0.mk (show cmpI x y = 1 by unfold cmpI; rw [if_neg h, if_pos g])
      go_enter Tryz.func121, Tryz.ntmps121
      go_wp2_with (go_at_call 132; refine (nan_any _ _).mono ?_; rintro e w' ⟨rfl, rfl⟩)
      go_ret
      exact ⟨by rw [HC.out]; rfl, rfl⟩
    · have h2 : decide (x > y) = false := decide_eq_false g
      have HC := Aside0.mk (show cmpI x y = 0 by unfold cmpI; rw [if_neg h, if_neg g])
      go_enter Tryz.func121, Tryz.ntmps121
      go_wp2_with (go_at_call 132; refine (nan_any _ _).mono ?_; rintro e w' ⟨rfl, rfl⟩)
      go_ret
      exact ⟨by rw [HC.out]; rfl, rfl⟩

theorem cmpIds_at (a b : List Int) (k : Nat) (ha : k < a.length) (hb : k < b.length) : cmpIds (a.drop k) (b.drop k) = if cmpI (a.getD k 0) (b.getD k 0) = 0 then cmpIds (a.drop (k + 1)) (b.drop (k + 1)) else cmpI (a.getD k 0) (b.getD k 0) := by
  rw [drop_at a 0 k ha, drop_at b 0 k hb, cmpIds]
  unfold cmpI
  split
  · simp
  · split <;> simp

theorem cmpIds_any (A B : Option Addr) (c c2 : Nat) (a b : List Int) (w : World) (ha : (Kd.int .i64).C w A a.length a) (hb : (Kd.int .i64).C w B b.length b) :
    Calls Tryz.prog 94 #[.slice A a.length c, .slice B b.length c2] w fun e w' => e = .returned (.int .i64 (cmpIds a b)) ∧ w' = w := by
  have hn := (C_len ha).2
  have hn2 := (C_len hb).2
  go_enter Tryz.func94, Tryz.ntmps94
  go_wp2
  go_loop [11] (fun i => ∃ k : Nat, k ≤ a.length ∧ k ≤ b.length ∧ i = .int .i64 k ∧ Aside0 (cmpIds a b = cmpIds (a.drop k) (b.drop k))) (fun i => a.length - (intOf i).toNat)
  case atStart => exact ⟨0, Nat.zero_le _, Nat.zero_le _, rfl, ⟨rfl⟩⟩
  case round =>
    obtain ⟨k, hk, hk2, rfl, HH⟩ := hrel
    by_cases hlt : k < a.length
    · obtain ⟨ad, rfl, hc⟩ := at1 ha k hlt
      by_cases hlt2 : k < b.length
      · obtain ⟨ad2, rfl, hc2⟩ := at1 hb k hlt2
        have hg : decide ((k : Int) ≥ b.length) = false := by simp; omega
        have HS := Aside0.mk (cmpIds_at a b k hlt hlt2)
        have hcl := cmpI_any (a.getD k 0) (b.getD k 0)
        generalize a.getD k 0 = x at hc HS hcl
        generalize b.getD k 0 = y at hc2 HS hcl
        by_cases hz : cmpI x y = 0
        · have HS2 := Aside0.mk (show cmpIds a b = cmpIds (a.drop (k + 1)) (b.drop (k + 1)) by rw [HH.out, HS.out, if_pos hz])
          rw [hz] at hcl
          clear hz
          go_wp2_with (go_at_call 121; refine (hcl _).mono ?_; rintro e w' ⟨rfl, rfl⟩)
          go_round
          case rel => exact ⟨k + 1, by omega, by omega, by go_num, HS2⟩
          case measure => simp [intOf]; omega
        · have HS2 := Aside0.mk (show cmpIds a b = cmpI x y by rw [HH.out, HS.out, if_neg hz])
          have hz2 : (cmpI x y != 0) = true := by simpa using hz
          clear hz
          go_wp2_with (go_at_call 121; refine (hcl _).mono ?_; rintro e w' ⟨rfl, rfl⟩)
          go_ret
          exact ⟨by rw [HS2.out]; rfl, rfl⟩
      · have hg : decide ((k : Int) ≥ b.length) = true := by simp; omega
        have HS2 := Aside0.mk (show cmpIds a b = 1 by rw [HH.out, List.drop_of_length_le (l := b) (by omega), drop_at a 0 k hlt, cmpIds])
        go_wp2
        go_ret
        exact ⟨by rw [HS2.out]; rfl, rfl⟩
    · have hke : k = a.length := by omega
      by_cases hl : a.length < b.length
      · have hl2 : decide (a.length < b.length) = true := decide_eq_true hl
        have HS2 := Aside0.mk (show cmpIds a b = -1 by rw [HH.out, List.drop_of_length_le (l := a) (by omega), drop_at b 0 k (by omega), cmpIds])
        clear hke
        go_wp2
        go_ret
        exact ⟨by rw [HS2.out]; rfl, rfl⟩
      · have hl2 : decide (a.length < b.length) = false := decide_eq_false hl
        have HS2 := Aside0.mk (show cmpIds a b = 0 by rw [HH.out, List.drop_of_length_le (l := a) (by omega), List.drop_of_length_le (l := b) (by omega), cmpIds])
        clear hke
        go_wp2
        go_ret
        exact ⟨by rw [HS2.out]; rfl, rfl⟩

def sgn (b : Bool) : Int := if b = true then -1 else 1
theorem sign_any (b : Bool) (w : World) : Calls Tryz.prog 93 #[.bool b] w fun e w' => e = .returned (.int .i64 (sgn b)) ∧ w' = w := by
  cases b with
  | true =>
    go_enter Tryz.func93, Tryz.ntmps93
    go_wp2
    go_ret
    exact ⟨rfl, rfl⟩
  | false =>
    go_enter Tryz.func93, Tryz.ntmps93
    go_wp2
    go_ret
    exact ⟨rfl, rfl⟩

theorem compare_any (x y : Occ) (A B : Option Addr) (c c2 : Nat) (w : World) (hx : IsO w x A c) (hy : IsO w y B c2) :
    Calls Tryz.prog 55 #[.agg #[.int .i64 x.f0, .int .i64 x.f1, .slice A x.f2.length c], .agg #[.int .i64 y.f0, .int .i64 y.f1, .slice B y.f2.length c2]] w fun e w' => e = .returned (.int .i64 (cmpO x y)) ∧ Below w.heap.size w w' := by
  by_cases h : x.f1 = y.f1
  · by_cases g : x.f0 = y.f0
    · have HC := Aside0.mk (show cmpO x y = cmpIds x.f2 y.f2 by unfold cmpO; rw [if_pos h, if_pos g])
      have h1 : (x.f1 != y.f1) = false := by simpa using h
      have g1 : (x.f0 != y.f0) = false := by simpa using g
      have hb : Below w.heap.size w ((w.alloc (.cells #[.int .i64 x.f0, .int .i64 x.f1, .slice A x.f2.length c] 43)).alloc (.cells #[.int .i64 y.f0, .int .i64 y.f1, .slice B y.f2.length c2] 43)) := by repeat (first | exact Below.refl _ _ | apply below_alloc)
      have hcl := cmpIds_any A B c c2 x.f2 y.f2 _ (Kd.C_below hx.2 hb) (Kd.C_below hy.2 hb)
      clear h g
      have HB := Aside0.mk hb
      clear hb
      go_enter Tryz.func55, Tryz.ntmps55
      go_wp2_with (go_at_call 94; refine hcl.mono ?_; rintro e w' ⟨rfl, rfl⟩)
      go_ret
      exact ⟨by rw [HC.out]; rfl, HB.out⟩
    · have h1 : (x.f1 != y.f1) = false := by simpa using h
      have g1 : (x.f0 != y.f0) = true := by simpa using g
      have HC := Aside0.mk (show cmpO x y = sgn (decide (x.f0 < y.f0)) by unfold cmpO sgn; rw [if_pos h, if_neg g]; simp)
      clear h g
      go_enter Tryz.func55, Tryz.ntmps55
      go_wp2_with (go_at_call 93; refine (sign_any _ _).mono ?_; rintro e w' ⟨rfl, rfl⟩)
      go_ret
      exact ⟨by rw [HC.out]; rfl, by repeat (first | exact Below.refl _ _ | apply below_alloc)⟩
  · have h1 : (x.f1 != y.f1) = true := by simpa using h
    have HC := Aside0.mk (show cmpO x y = sgn (decide (x.f1 < y.f1)) by unfold cmpO sgn; rw [if_neg h]; simp)
    clear h
    go_enter Tryz.func55, Tryz.ntmps55
    go_wp2_with (go_at_call 93; refine (sign_any _ _).mono ?_; rintro e w' ⟨rfl, rfl⟩)
    go_ret
    exact ⟨by rw [HC.out]; rfl, by repeat (first | exact Below.refl _ _ | apply below_alloc)⟩

theorem occLess_any (x y : Occ) (A B : Option Addr) (c c2 : Nat) (w : World) (hx : IsO w x A c) (hy : IsO w y B c2) :
    Calls Tryz.prog 96 #[.agg #[.int .i64 x.f0, .int .i64 x.f1, .slice A x.f2.length c], .agg #[.int .i64 y.f0, .int .i64 y.f1, .slice B y.f2.length c2]] w fun e w' => e = .returned (.bool (decide (cmpO x y < 0))) ∧ Below w.heap.size w w' := by
  have hb : Below w.heap.size w ((w.alloc (.cells #[.int .i64 x.f0, .int .i64 x.f1, .slice A x.f2.length c] 43)).alloc (.cells #[.int .i64 y.f0, .int .i64 y.f1, .slice B y.f2.length c2] 43)) := by repeat (first | exact Below.refl _ _ | apply below_alloc)
  have hcl := compare_any x y A B c c2 _ (hx.below hb) (hy.below hb)
  have HB := Aside0.mk hb
  clear hb
  go_enter Tryz.func96, Tryz.ntmps96
  go_wp2_with (go_at_call 55; refine hcl.mono ?_; rintro e w' ⟨rfl, hb'⟩)
  go_ret
  exact ⟨rfl, below_then HB.out HB.out.size hb'⟩

theorem occOk_any (x : Occ) (A : Option Addr) (c : Nat) (w : World) (hx : IsO w x A c) :
    Calls Tryz.prog 64 #[.agg #[.int .i64 x.f0, .int .i64 x.f1, .slice A x.f2.length c]] w fun e w' => e = .returned (.bool (okO x)) ∧ Below w.heap.size w w' := by
  have hn := (C_len hx.2).2
  have hb : Below w.heap.size w (w.alloc (.cells #[.int .i64 x.f0, .int .i64 x.f1, .slice A x.f2.length c] 43)) := by repeat (first | exact Below.refl _ _ | apply below_alloc)
  have hC := Kd.C_below hx.2 hb
  have HB := Aside0.mk hb
  clear hb
  have HK0 : ∀ b, okIds (-1) x.f2 = b → okO x = (b && (decide (1 ≤ x.f0) && inb x.f1 x.f0 2000 && decide (1 ≤ x.f2.length))) := fun b h => by unfold okO; rw [h]
  have HK := Aside0.mk HK0
  clear HK0
  go_enter Tryz.func64, Tryz.ntmps64
  go_wp2
  go_loop [3, 9] (fun l i => ∃ (k : Nat) (last : Int), k ≤ x.f2.length ∧ -1 ≤ last ∧ last ≤ 23 ∧ i = .int .i64 k ∧ l = .int .i64 last ∧ Aside0 (okIds (-1) x.f2 = okIds last (x.f2.drop k))) (fun _ i => x.f2.length - (intOf i).toNat)
  case atStart => exact ⟨0, -1, Nat.zero_le _, by omega, by omega, rfl, rfl, ⟨rfl⟩⟩
  case round =>
    obtain ⟨k, last, hk, hl1, hl2, rfl, rfl, HH⟩ := hrel
    by_cases hlt : k < x.f2.length
    · obtain ⟨ad, rfl, hc⟩ := at1 hC k hlt
      have HD := Aside0.mk (drop_at x.f2 0 k hlt)
      generalize x.f2.getD k 0 = i at hc HD
      cases hq : inb i (last + 1) 23 with
      | true =>
        have HS := Aside0.mk (show okIds (-1) x.f2 = okIds i (x.f2.drop (k + 1)) by rw [HH.out, HD.out, okIds, hq]; rfl)
        have hi : -1 ≤ i ∧ i ≤ 23 := by unfold inb at hq; simp at hq; omega
        obtain ⟨hi1, hi2⟩ := hi
        have hin := in_any i (last + 1) 23
        rw [hq] at hin
        clear hq
        go_wp2_with (go_at_call 102; refine (hin _).mono ?_; rintro e w' ⟨rfl, rfl⟩)
        go_round
        case rel => exact ⟨k + 1, i, by omega, hi1, hi2, by go_num, rfl, HS⟩
        case measure => simp [intOf]; omega
      | false =>
        have HS := Aside0.mk (show okO x = false by rw [HK.out false (by rw [HH.out, HD.out, okIds, hq]; rfl)]; rfl)
        have hin := in_any i (last + 1) 23
        rw [hq] at hin
        clear hq
        go_wp2_with (go_at_call 102; refine (hin _).mono ?_; rintro e w' ⟨rfl, rfl⟩)
        go_ret
        exact ⟨by rw [HS.out]; rfl, HB.out⟩
    · have HS := Aside0.mk (HK.out true (by rw [HH.out, List.drop_of_length_le (by omega), okIds]))
      by_cases hf : 1 ≤ x.f0
      · cases hq : inb x.f1 x.f0 2000 with
        | true =>
          have HS2 := Aside0.mk (show okO x = decide (1 ≤ x.f2.length) by rw [HS.out, hq]; simp [hf])
          have hin := in_any x.f1 x.f0 2000
          rw [hq] at hin
          clear hq
          go_wp2_with (go_at_call 102; refine (hin _).mono ?_; rintro e w' ⟨rfl, rfl⟩)
          go_ret
          refine ⟨?_, HB.out⟩
          rw [HS2.out]
          refine ret_bool ?_
          by_cases h1 : 1 ≤ x.f2.length
          · rw [decide_eq_true h1]; simp; omega
          · rw [decide_eq_false h1]; simp; omega
        | false =>
          have HS2 := Aside0.mk (show okO x = false by rw [HS.out, hq]; simp)
          have hin := in_any x.f1 x.f0 2000
          rw [hq] at hin
          clear hq
          go_wp2_with (go_at_call 102; refine (hin _).mono ?_; rintro e w' ⟨rfl, rfl⟩)
          go_ret
          exact ⟨by rw [HS2.out]; rfl, HB.out⟩
      · have hf2 : decide (1 ≤ x.f0) = false := decide_eq_false hf
        have HS2 := Aside0.mk (show okO x = false by rw [HS.out, hf2]; simp)
        clear hf
        go_wp2
        go_ret
        exact ⟨by rw [HS2.out]; rfl, HB.out⟩
end Go.Proofs.YtccenpmaooailaaGreat.Ca

/- What the program's functions on lists of occurrences come to: are they right, in new memory. One walk each. -/
set_option linter.unusedVariables false
set_option linter.unusedSimpArgs false
namespace Go.Proofs.YtccenpmaooailaaGreat.Cb
open Go.RowKit Go.Proofs.YtccenpmaooailaaGreatW.PrintWords Go.Proofs.YtccenpmaooailaaGreat.Wd Go.Proofs.YtccenpmaooailaaGreat.Pu Go.Proofs.YtccenpmaooailaaGreat.Ca

def prev (l : List Occ) (k : Nat) : Option Occ := if k = 0 then none else some (l.getD (k - 1) zO)
theorem prev_succ (l : List Occ) (k : Nat) : prev l (k + 1) = some (l.getD k zO) := by simp [prev]

set_option maxRecDepth 100000 in
theorem occsOk_any (A : Option Addr) (c : Nat) (l : List Occ) (w : World) (hr : kO.C w A l.length l) :
    Calls Tryz.prog 57 #[.slice A l.length c] w fun e w' => e = .returned (.bool (okOs l)) ∧ Below w.heap.size w w' := by
  have hn := (C_len hr).2
  go_enter Tryz.func57, Tryz.ntmps57
  go_wp2
  go_loopw [7] (fun i wr => ∃ k : Nat, k ≤ l.length ∧ i = .int .i64 k ∧ Aside0 (chain none l = chain (prev l k) (l.drop k)) ∧ Aside0 (Below w.heap.size w wr)) (fun i _ => l.length - (intOf i).toNat)
  case atStart => exact ⟨0, Nat.zero_le _, rfl, ⟨rfl⟩, ⟨Below.refl _ _⟩⟩
  case round =>
    obtain ⟨k, hk, rfl, HH, HB⟩ := hrel
    by_cases hlt : k < l.length
    · have hrr := Kd.C_below hr HB.out
      obtain ⟨ad, A2, c2, rfl, ha, hb, hc, hl2, hC2⟩ := atO hrr k hlt
      have HD := Aside0.mk (drop_at l zO k hlt)
      have HP := Aside0.mk (prev_succ l k)
      have hIs : IsO wr (l.getD k zO) A2 c2 := ⟨hl2, hC2⟩
      clear hl2 hC2
      by_cases hk0 : k = 0
      · have HZ := Aside0.mk (show prev l k = none by simp [prev, hk0])
        have hg : decide ((k : Int) > 0) = false := by simp; omega
        have hg2 : decide (0 < k) = false := by simp; omega
        clear hk0
        generalize l.getD k zO = o at ha hb hc hIs HD HP
        cases hq : okO o with
        | true =>
          have HS := Aside0.mk (show chain none l = chain (prev l (k + 1)) (l.drop (k + 1)) by rw [HH.out, HD.out, HP.out, HZ.out, chain, hq]; rfl)
          go_wp2
          have hbW := below_alloc (Below.refl wr.heap.size wr) (.cells #[.int .i64 o.f0, .int .i64 o.f1, .slice A2 o.f2.length c2] 43)
          have k0 : (wr.alloc (.cells #[.int .i64 o.f0, .int .i64 o.f1, .slice A2 o.f2.length c2] 43)).cell? ⟨wr.heap.size, 0, none⟩ = some (.int .i64 o.f0) := by simp
          have k1 : (wr.alloc (.cells #[.int .i64 o.f0, .int .i64 o.f1, .slice A2 o.f2.length c2] 43)).cell? ⟨wr.heap.size, 1, none⟩ = some (.int .i64 o.f1) := by simp
          have k2 : (wr.alloc (.cells #[.int .i64 o.f0, .int .i64 o.f1, .slice A2 o.f2.length c2] 43)).cell? ⟨wr.heap.size, 2, none⟩ = some (.slice A2 o.f2.length c2) := by simp
          generalize wr.alloc (.cells #[.int .i64 o.f0, .int .i64 o.f1, .slice A2 o.f2.length c2] 43) = W at hbW k0 k1 k2 ⊢
          replace k0 := cellE k0
          replace k1 := cellE k1
          replace k2 := cellE k2
          have hI2 := hIs.below hbW
          have HB2 := Aside0.mk (below_then HB.out HB.out.size hbW)
          have hcl := fun s : Ext W => occOk_any o A2 c2 s.1 (hI2.ext s)
          rw [hq] at hcl
          clear hq hbW ha hb hc
          refine region_ext (W := W) (Below.refl _ _) (by kernel_rfl) (by kernel_rfl) ?_
          repeat (first | go_big_quiet_step ((first | (go_at_call 64; exact calls_ext (hcl _)))) | quiet_step ((first | (go_at_call 64; exact calls_ext (hcl _)))))
          refine wpQuiet_nil ?_
          rintro _ ⟨s, rfl⟩
          have HB3 := Aside0.mk (below_then HB2.out HB2.out.size s.2)
          generalize s.1 = W2 at HB3
          go_wp2
          go_roundw
          case rel => exact ⟨k + 1, by omega, by go_num, HS, HB3⟩
          case measure => simp [intOf]; omega
        | false =>
          have HS := Aside0.mk (show okOs l = false by unfold okOs; rw [HH.out, HD.out]; simp [chain, hq])
          go_wp2
          have hbW := below_alloc (Below.refl wr.heap.size wr) (.cells #[.int .i64 o.f0, .int .i64 o.f1, .slice A2 o.f2.length c2] 43)
          have k0 : (wr.alloc (.cells #[.int .i64 o.f0, .int .i64 o.f1, .slice A2 o.f2.length c2] 43)).cell? ⟨wr.heap.size, 0, none⟩ = some (.int .i64 o.f0) := by simp
          have k1 : (wr.alloc (.cells #[.int .i64 o.f0, .int .i64 o.f1, .slice A2 o.f2.length c2] 43)).cell? ⟨wr.heap.size, 1, none⟩ = some (.int .i64 o.f1) := by simp
          have k2 : (wr.alloc (.cells #[.int .i64 o.f0, .int .i64 o.f1, .slice A2 o.f2.length c2] 43)).cell? ⟨wr.heap.size, 2, none⟩ = some (.slice A2 o.f2.length c2) := by simp
          generalize wr.alloc (.cells #[.int .i64 o.f0, .int .i64 o.f1, .slice A2 o.f2.length c2] 43) = W at hbW k0 k1 k2 ⊢
          replace k0 := cellE k0
          replace k1 := cellE k1
          replace k2 := cellE k2
          have hI2 := hIs.below hbW
          have HB2 := Aside0.mk (below_then HB.out HB.out.size hbW)
          have hcl := fun s : Ext W => occOk_any o A2 c2 s.1 (hI2.ext s)
          rw [hq] at hcl
          clear hq hbW ha hb hc
          refine region_ext (W := W) (Below.refl _ _) (by kernel_rfl) (by kernel_rfl) ?_
          repeat (first | go_big_quiet_step ((first | (go_at_call 64; exact calls_ext (hcl _)))) | quiet_step ((first | (go_at_call 64; exact calls_ext (hcl _)))))
          refine wpQuiet_nil ?_
          rintro _ ⟨s, rfl⟩
          have HB3 := Aside0.mk (below_then HB2.out HB2.out.size s.2)
          generalize s.1 = W2 at HB3
          go_wp2
          go_ret
          exact ⟨by rw [HS.out]; rfl, HB3.out⟩
      · have hg : decide ((k : Int) > 0) = true := by simp; omega
        have hg2 : decide (0 < k) = true := by simp; omega
        have HZ := Aside0.mk (show prev l k = some (l.getD (k - 1) zO) by simp [prev, hk0])
        have hk1 : 0 < k := by omega
        have hk2 : 0 ≤ (k : Int) - 1 := by omega
        have hk3 : ((k : Int) - 1).toNat = k - 1 := by omega
        have hk4 : (k : Int) - 1 < l.length := by omega
        clear hk0
        obtain ⟨_, A3, c3, e, pa, pb, pc, pl2, pC2⟩ := atO hrr (k - 1) (by omega)
        cases e
        have hIp : IsO wr (l.getD (k - 1) zO) A3 c3 := ⟨pl2, pC2⟩
        clear pl2 pC2
        generalize l.getD (k - 1) zO = p at pa pb pc hIp HZ
        generalize l.getD k zO = o at ha hb hc hIs HD HP
        cases hq : okO o with
        | true =>
          cases hd : decide (cmpO p o < 0) with
          | true =>
            have HS := Aside0.mk (show chain none l = chain (prev l (k + 1)) (l.drop (k + 1)) by rw [HH.out, HD.out, HP.out, HZ.out, chain, hq]; simp only [hd]; rfl)
            go_wp2
            have hbW := below_alloc (Below.refl wr.heap.size wr) (.cells #[.int .i64 o.f0, .int .i64 o.f1, .slice A2 o.f2.length c2] 43)
            have k0 : (wr.alloc (.cells #[.int .i64 o.f0, .int .i64 o.f1, .slice A2 o.f2.length c2] 43)).cell? ⟨wr.heap.size, 0, none⟩ = some (.int .i64 o.f0) := by simp
            have k1 : (wr.alloc (.cells #[.int .i64 o.f0, .int .i64 o.f1, .slice A2 o.f2.length c2] 43)).cell? ⟨wr.heap.size, 1, none⟩ = some (.int .i64 o.f1) := by simp
            have k2 : (wr.alloc (.cells #[.int .i64 o.f0, .int .i64 o.f1, .slice A2 o.f2.length c2] 43)).cell? ⟨wr.heap.size, 2, none⟩ = some (.slice A2 o.f2.length c2) := by simp
            generalize wr.alloc (.cells #[.int .i64 o.f0, .int .i64 o.f1, .slice A2 o.f2.length c2] 43) = W at hbW k0 k1 k2 ⊢
            replace k0 := cellE k0
            replace k1 := cellE k1
            replace k2 := cellE k2
            have hI2 := hIs.below hbW
            have HB2 := Aside0.mk (below_then HB.out HB.out.size hbW)
            have hcl := fun s : Ext W => occOk_any o A2 c2 s.1 (hI2.ext s)
            rw [hq] at hcl
            have hIp2 := hIp.below hbW
            replace pa := cellE (pw_cell_below hbW pa)
            replace pb := cellE (pw_cell_below hbW pb)
            replace pc := cellE (pw_cell_below hbW pc)
            have hcl2 := fun s : Ext W => occLess_any p o A3 A2 c3 c2 s.1 (hIp2.ext s) (hI2.ext s)
            rw [hd] at hcl2
            clear hd
            clear hq hbW ha hb hc
            refine region_ext (W := W) (Below.refl _ _) (by kernel_rfl) (by kernel_rfl) ?_
            repeat (first | go_big_quiet_step ((first | (go_at_call 64; exact calls_ext (hcl _)) | (go_at_call 96; exact calls_ext (hcl2 _)))) | quiet_step ((first | (go_at_call 64; exact calls_ext (hcl _)) | (go_at_call 96; exact calls_ext (hcl2 _)))))
            refine wpQuiet_nil ?_
            rintro _ ⟨s, rfl⟩
            have HB3 := Aside0.mk (below_then HB2.out HB2.out.size s.2)
            generalize s.1 = W2 at HB3
            go_wp2
            go_roundw
            case rel => exact ⟨k + 1, by omega, by go_num, HS, HB3⟩
            case measure => simp [intOf]; omega
          | false =>
            have HS := Aside0.mk (show okOs l = false by unfold okOs; rw [HH.out, HD.out, HZ.out, chain, hq]; simp only [hd]; rfl)
            go_wp2
            have hbW := below_alloc (Below.refl wr.heap.size wr) (.cells #[.int .i64 o.f0, .int .i64 o.f1, .slice A2 o.f2.length c2] 43)
            have k0 : (wr.alloc (.cells #[.int .i64 o.f0, .int .i64 o.f1, .slice A2 o.f2.length c2] 43)).cell? ⟨wr.heap.size, 0, none⟩ = some (.int .i64 o.f0) := by simp
            have k1 : (wr.alloc (.cells #[.int .i64 o.f0, .int .i64 o.f1, .slice A2 o.f2.length c2] 43)).cell? ⟨wr.heap.size, 1, none⟩ = some (.int .i64 o.f1) := by simp
            have k2 : (wr.alloc (.cells #[.int .i64 o.f0, .int .i64 o.f1, .slice A2 o.f2.length c2] 43)).cell? ⟨wr.heap.size, 2, none⟩ = some (.slice A2 o.f2.length c2) := by simp
            generalize wr.alloc (.cells #[.int .i64 o.f0, .int .i64 o.f1, .slice A2 o.f2.length c2] 43) = W at hbW k0 k1 k2 ⊢
            replace k0 := cellE k0
            replace k1 := cellE k1
            replace k2 := cellE k2
            have hI2 := hIs.below hbW
            have HB2 := Aside0.mk (below_then HB.out HB.out.size hbW)
            have hcl := fun s : Ext W => occOk_any o A2 c2 s.1 (hI2.ext s)
            rw [hq] at hcl
            have hIp2 := hIp.below hbW
            replace pa := cellE (pw_cell_below hbW pa)
            replace pb := cellE (pw_cell_below hbW pb)
            replace pc := cellE (pw_cell_below hbW pc)
            have hcl2 := fun s : Ext W => occLess_any p o A3 A2 c3 c2 s.1 (hIp2.ext s) (hI2.ext s)
            rw [hd] at hcl2
            clear hd
            clear hq hbW ha hb hc
            refine region_ext (W := W) (Below.refl _ _) (by kernel_rfl) (by kernel_rfl) ?_
            repeat (first | go_big_quiet_step ((first | (go_at_call 64; exact calls_ext (hcl _)) | (go_at_call 96; exact calls_ext (hcl2 _)))) | quiet_step ((first | (go_at_call 64; exact calls_ext (hcl _)) | (go_at_call 96; exact calls_ext (hcl2 _)))))
            refine wpQuiet_nil ?_
            rintro _ ⟨s, rfl⟩
            have HB3 := Aside0.mk (below_then HB2.out HB2.out.size s.2)
            generalize s.1 = W2 at HB3
            go_wp2
            go_ret
            exact ⟨by rw [HS.out]; rfl, HB3.out⟩
        | false =>
          have HS := Aside0.mk (show okOs l = false by unfold okOs; rw [HH.out, HD.out]; simp [chain, hq])
          go_wp2
          have hbW := below_alloc (Below.refl wr.heap.size wr) (.cells #[.int .i64 o.f0, .int .i64 o.f1, .slice A2 o.f2.length c2] 43)
          have k0 : (wr.alloc (.cells #[.int .i64 o.f0, .int .i64 o.f1, .slice A2 o.f2.length c2] 43)).cell? ⟨wr.heap.size, 0, none⟩ = some (.int .i64 o.f0) := by simp
          have k1 : (wr.alloc (.cells #[.int .i64 o.f0, .int .i64 o.f1, .slice A2 o.f2.length c2] 43)).cell? ⟨wr.heap.size, 1, none⟩ = some (.int .i64 o.f1) := by simp
          have k2 : (wr.alloc (.cells #[.int .i64 o.f0, .int .i64 o.f1, .slice A2 o.f2.length c2] 43)).cell? ⟨wr.heap.size, 2, none⟩ = some (.slice A2 o.f2.length c2) := by simp
          generalize wr.alloc (.cells #[.int .i64 o.f0, .int .i64 o.f1, .slice A2 o.f2.length c2] 43) = W at hbW k0 k1 k2 ⊢
          replace k0 := cellE k0
          replace k1 := cellE k1
          replace k2 := cellE k2
          have hI2 := hIs.below hbW
          have HB2 := Aside0.mk (below_then HB.out HB.out.size hbW)
          have hcl := fun s : Ext W => occOk_any o A2 c2 s.1 (hI2.ext s)
          rw [hq] at hcl
          clear hq hbW ha hb hc
          refine region_ext (W := W) (Below.refl _ _) (by kernel_rfl) (by kernel_rfl) ?_
          repeat (first | go_big_quiet_step ((first | (go_at_call 64; exact calls_ext (hcl _)))) | quiet_step ((first | (go_at_call 64; exact calls_ext (hcl _)))))
          refine wpQuiet_nil ?_
          rintro _ ⟨s, rfl⟩
          have HB3 := Aside0.mk (below_then HB2.out HB2.out.size s.2)
          generalize s.1 = W2 at HB3
          go_wp2
          go_ret
          exact ⟨by rw [HS.out]; rfl, HB3.out⟩
    · have HS := Aside0.mk (show okOs l = decide (l.length ≤ 40) by unfold okOs; rw [HH.out, List.drop_of_length_le (by omega)]; simp [chain])
      go_wp2
      go_ret
      refine ⟨?_, HB.out⟩
      rw [HS.out]
      refine ret_bool ?_
      by_cases h1 : l.length ≤ 40
      · rw [decide_eq_true h1]; simp; omega
      · rw [decide_eq_false h1]; simp; omega
end Go.Proofs.YtccenpmaooailaaGreat.Cb

/- What the program's functions that make new occurrences come to: two in one, in new memory. One walk each. -/
set_option linter.unusedVariables false
set_option linter.unusedSimpArgs false
namespace Go.Proofs.YtccenpmaooailaaGreat.Cc
open Go.RowKit Go.Proofs.YtccenpmaooailaaGreatW.PrintWords Go.Proofs.YtccenpmaooailaaGreat.Wd Go.Proofs.YtccenpmaooailaaGreat.Pu Go.Proofs.YtccenpmaooailaaGreat.Ca

theorem infoI : (Tryz.prog.info? 3).map (fun i => (i.zero, i.size, i.bytes)) = some (some (.int .i64 0), 1, 8) := by kernel_rfl

theorem grow_any (n : Nat) (hn : n ≤ 4194304) (w : World) : Calls Tryz.prog 125 #[.slice none 0 0, .int .i64 n] w fun e w' => ∃ v, e = .returned v ∧ (Kd.int .i64).R 3 w' w.heap.size (fun _ => True) v [] ∧ Below w.heap.size w w' := by
  by_cases h0 : n = 0
  · subst h0
    go_enter Tryz.func125, Tryz.ntmps125
    go_wp2
    go_ret
    exact ⟨_, rfl, Kd.R_nil _ _ _ _ _, Below.refl _ _⟩
  · have h1 : decide ((n : Int) < 0) = false := by simp
    have h2 : decide ((n : Int) > 0) = true := by simp; omega
    have h3 : decide (0 < n) = true := by simp; omega
    have h4 : (0 : Int) ≤ n := by omega
    have hp : 0 < n := by omega
    clear h0
    go_enter Tryz.func125, Tryz.ntmps125
    go_wp2_with (first | ((with_reducible refine gate_dst (N := 22) rfl ?_); refine Kd.R_append_zeros (Kd.int .i64) (w0 := w) w.heap.size rfl _ _ 41 3 3 (.int .i64 0) 8 rfl Tryz.underlying41 Tryz.underlying3 infoI rfl (by decide) (by omega) (.slice none 0 0) [] 0 (n : Int) (fun _ => True) rfl rfl rfl (fun _ _ => trivial) (Kd.R_nil _ _ _ _ _) h4 (Below.refl _ _) (Nat.le_refl _) (by simp; omega) ?_; intro v1 w1 ho hb _ _; obtain ⟨g, cap, eo, _, _, _⟩ := Kd.R_form ho (by simp; omega); have HO := Aside0.mk ho; have HB := Aside0.mk hb; clear ho hb; simp only [List.nil_append, List.length_replicate, Int.toNat_natCast] at eo HO; cases eo))
    go_ret
    exact ⟨_, rfl, Kd.R_take (m := 0) HO.out (by simp), HB.out⟩

/-- numbers behind one another, in new memory -/
theorem concat_any (g : Nat) (A B : Option Addr) (c c2 : Nat) (a b : List Int) (w : World) (k0 : w.cell? ⟨g, 0, none⟩ = some (.slice A a.length c)) (k1 : w.cell? ⟨g, 1, none⟩ = some (.slice B b.length c2))
    (ha : (Kd.int .i64).C w A a.length a) (hb : (Kd.int .i64).C w B b.length b) (la : a.length ≤ 1048576) (lb : b.length ≤ 1048576) :
    Calls Tryz.prog 106 #[.slice (some ⟨g, 0, none⟩) 2 2] w fun e w' => ∃ v, e = .returned v ∧ (Kd.int .i64).R 3 w' w.heap.size (fun _ => True) v (a ++ b) ∧ Below w.heap.size w w' := by
  go_enter Tryz.func106, Tryz.ntmps106
  go_wp2
  go_loop [3, 11] (fun n i => ∃ (k m : Nat), k ≤ 2 ∧ i = .int .i64 k ∧ n = .int .i64 m ∧ m ≤ 2097152 ∧ Aside0 (m = if k = 0 then 0 else if k = 1 then a.length else a.length + b.length)) (fun _ i => 2 - (intOf i).toNat)
  case atStart => exact ⟨0, 0, by omega, rfl, rfl, by omega, ⟨rfl⟩⟩
  case round =>
    obtain ⟨k, m, hk, rfl, rfl, hm, HM⟩ := hrel
    obtain rfl | rfl | rfl : k = 0 ∨ k = 1 ∨ k = 2 := by omega
    · have h0 : (0 : Int) ≤ (m : Int) + a.length := by omega
      have h1 : decide ((m : Int) + a.length < 0) = false := by simp; omega
      have hme := HM.out
      simp at hme
      subst hme
      go_wp2
      go_round
      case rel => exact ⟨1, a.length, by omega, by go_num, by go_num, by omega, ⟨by simp⟩⟩
      case measure => simp [intOf]
    · have h0 : (0 : Int) ≤ (m : Int) + b.length := by omega
      have h1 : decide ((m : Int) + b.length < 0) = false := by simp; omega
      have hme := HM.out
      simp at hme
      subst hme
      go_wp2
      go_round
      case rel => exact ⟨2, a.length + b.length, by omega, by go_num, by go_num, by omega, ⟨by simp⟩⟩
      case measure => simp [intOf]
    · clear HM
      go_wp2_with fail
      refine (grow_any m (by omega) _).mono ?_
      rintro e w1 ⟨v, rfl, ho, hb1⟩
      have HO := Aside0.mk ho
      have HB := Aside0.mk hb1
      clear ho hb1
      go_wp2
      go_loopw [6, 27] (fun v i wr => ∃ (k : Nat), k ≤ 2 ∧ i = .int .i64 k ∧ Aside0 ((Kd.int .i64).R 3 wr w.heap.size (fun _ => True) v (if k = 0 then [] else if k = 1 then a else a ++ b)) ∧ Aside0 (Below w.heap.size w wr)) (fun _ i _ => 2 - (intOf i).toNat)
      case atStart => exact ⟨0, by omega, rfl, HO, HB⟩
      case round =>
        clear HO HB
        obtain ⟨k, hk, rfl, HO, HB⟩ := hrel
        have kk0 := (HB.out.cell (World.block_lt_of_cell? w _ k0)).trans k0
        have kk1 := (HB.out.cell (World.block_lt_of_cell? w _ k1)).trans k1
        obtain rfl | rfl | rfl : k = 0 ∨ k = 1 ∨ k = 2 := by omega
        · go_wp2_with (first | ((with_reducible refine gate_dst (N := 33) rfl ?_); refine Kd.R_append_row (Value.int .i64) 0 (h1 := fun _ => rfl) (w0 := w) w.heap.size rfl _ _ 41 3 (.int .i64 0) 8 rfl Tryz.underlying41 infoI rfl (by omega) _ _ a A a.length c (fun _ => True) rfl rfl (fun _ _ => trivial) HO.out (Kd.C_below ha HB.out) HB.out HB.out.size (by simp; omega) ?_; intro v1 w1 ho hb _ _; have HO1 := Aside0.mk ho; have HB1 := Aside0.mk hb; clear ho hb))
          go_roundw
          case rel => exact ⟨1, by omega, by go_num, ⟨by have h := HO1.out; simp at h; exact h⟩, HB1⟩
          case measure => simp [intOf]
        · go_wp2_with (first | ((with_reducible refine gate_dst (N := 33) rfl ?_); refine Kd.R_append_row (Value.int .i64) 0 (h1 := fun _ => rfl) (w0 := w) w.heap.size rfl _ _ 41 3 (.int .i64 0) 8 rfl Tryz.underlying41 infoI rfl (by omega) _ _ b B b.length c2 (fun _ => True) rfl rfl (fun _ _ => trivial) HO.out (Kd.C_below hb HB.out) HB.out HB.out.size (by simp; omega) ?_; intro v1 w1 ho hb _ _; have HO1 := Aside0.mk ho; have HB1 := Aside0.mk hb; clear ho hb))
          go_roundw
          case rel => exact ⟨2, by omega, by go_num, ⟨by have h := HO1.out; simp at h; exact h⟩, HB1⟩
          case measure => simp [intOf]
        · go_wp2
          go_ret
          exact ⟨_, rfl, by simpa using HO.out, HB.out⟩

/-! sorted, each once: of both -/
theorem comp_upto (d : Array Int) (hs : ∀ i j, i ≤ j → j < d.size → d[i]! ≤ d[j]!) : ∀ m, m ≤ d.size → Asc (Lib.compactUpTo d m) ∧ (∀ z, z ∈ Lib.compactUpTo d m ↔ ∃ j, j < m ∧ z = d[j]!)
  | 0, _ => ⟨by simp [Lib.compactUpTo], by simp [Lib.compactUpTo]⟩
  | m + 1, hm => by
    obtain ⟨h1, h2⟩ := comp_upto d hs m (by omega)
    rw [Lib.compactUpTo_succ]
    by_cases hk : Lib.keeps d m = true
    · rw [if_pos hk]
      have hk2 : m = 0 ∨ d[m]! ≠ d[m - 1]! := by simpa [Lib.keeps] using hk
      refine ⟨List.pairwise_append.2 ⟨h1, List.pairwise_singleton _ _, fun a ha b hb => ?_⟩, fun z => ?_⟩
      · obtain ⟨j, hj, rfl⟩ := (h2 a).1 ha
        obtain rfl : b = d[m]! := by simpa using hb
        rcases hk2 with e | e
        · omega
        · have := hs j (m - 1) (by omega) (by omega)
          have := hs (m - 1) m (by omega) (by omega)
          omega
      · rw [List.mem_append, h2, List.mem_singleton]
        constructor
        · rintro (⟨j, hj, e⟩ | e)
          · exact ⟨j, by omega, e⟩
          · exact ⟨m, by omega, e⟩
        · rintro ⟨j, hj, e⟩
          by_cases hjm : j < m
          · exact .inl ⟨j, hjm, e⟩
          · obtain rfl : j = m := by omega
            exact .inr e
    · rw [if_neg hk, List.append_nil]
      have hk2 : m ≠ 0 ∧ d[m]! = d[m - 1]! := by simpa [Lib.keeps] using hk
      refine ⟨h1, fun z => ?_⟩
      rw [h2]
      constructor
      · rintro ⟨j, hj, e⟩
        exact ⟨j, by omega, e⟩
      · rintro ⟨j, hj, e⟩
        by_cases hjm : j < m
        · exact ⟨j, hjm, e⟩
        · obtain rfl : j = m := by omega
          exact ⟨j - 1, by omega, by rw [e, hk2.2]⟩
theorem comp_sorted (zs : List Int) (hs : zs.Pairwise (· ≤ ·)) : Asc (Lib.compact zs) ∧ ∀ z, z ∈ Lib.compact zs ↔ z ∈ zs := by
  have key := comp_upto zs.toArray (fun i j hij hj => by
    have hj' : j < zs.length := by simpa using hj
    have hi' : i < zs.toArray.size := by simp; omega
    rw [getElem!_pos zs.toArray i hi', getElem!_pos zs.toArray j hj]
    simp only [List.getElem_toArray]
    rcases Nat.lt_or_eq_of_le hij with h | h
    · exact (List.pairwise_iff_getElem.1 hs) i j (by omega) hj' h
    · subst h; exact Int.le_refl _) zs.length (by simp)
  refine ⟨key.1, fun z => ?_⟩
  show z ∈ Lib.compactUpTo zs.toArray zs.length ↔ _
  rw [key.2, List.mem_iff_getElem]
  constructor
  · rintro ⟨j, hj, e⟩
    refine ⟨j, hj, ?_⟩
    rw [e, getElem!_pos zs.toArray j (by simpa using hj)]
    simp
  · rintro ⟨j, hj, e⟩
    refine ⟨j, hj, ?_⟩
    rw [← e, getElem!_pos zs.toArray j (by simpa using hj)]
    simp
theorem sorted_merge (l : List Int) : (l.mergeSort Lays.leb).Pairwise (· ≤ ·) := by
  have h := List.pairwise_mergeSort (le := Lays.leb) (fun a b c hab hbc => by simp [Lays.leb] at *; omega) (fun a b => by simp [Lays.leb]; omega) l
  exact h.imp (fun h => by simpa [Lays.leb] using h)
theorem comp_uni {a b : List Int} (ha : Asc a) (hb : Asc b) : Lib.compact ((a ++ b).mergeSort Lays.leb) = uni a b := by
  obtain ⟨h1, h2⟩ := comp_sorted _ (sorted_merge (a ++ b))
  refine asc_ext h1 (asc_uni ha hb) (fun z => ?_)
  rw [h2, mem_uni, List.mem_mergeSort, List.mem_append]
theorem far3 {W : World} {g b o : Nat} {u0 u1 u2 : Value} (h : g ≠ b) : (((W.setCell ⟨b, 0, none⟩ u0).setCell ⟨b, 1, none⟩ u1).setCell ⟨b, 2, none⟩ u2).cell? ⟨g, o, none⟩ = W.cell? ⟨g, o, none⟩ :=
  (cell_far (p := ⟨b, 2, none⟩) (a := ⟨g, o, none⟩) h _).trans ((cell_far (p := ⟨b, 1, none⟩) (a := ⟨g, o, none⟩) h _).trans (cell_far (p := ⟨b, 0, none⟩) (a := ⟨g, o, none⟩) h _))

set_option maxRecDepth 100000 in
set_option maxHeartbeats 2000000 in
theorem join_any (x y : Occ) (A B : Option Addr) (c c2 : Nat) (w : World) (hx : IsO w x A c) (hy : IsO w y B c2) (ax : Asc x.f2) (ay : Asc y.f2) (lx : x.f2.length ≤ 1048576) (ly : y.f2.length ≤ 1048576) :
    Calls Tryz.prog 66 #[.agg #[.int .i64 x.f0, .int .i64 x.f1, .slice A x.f2.length c], .agg #[.int .i64 y.f0, .int .i64 y.f1, .slice B y.f2.length c2]] w fun e w' =>
      ∃ v, e = .returned (.agg #[.int .i64 (join x y).f0, .int .i64 (join x y).f1, v]) ∧ (Kd.int .i64).R 3 w' w.heap.size (fun _ => True) v (join x y).f2 ∧ Below w.heap.size w w' := by
  go_enter Tryz.func66, Tryz.ntmps66
  go_wp2_with fail
  have h0 := Below.refl w.heap.size w
  have hb0 : Below w.heap.size w ((((w.alloc (.cells #[.int .i64 x.f0, .int .i64 x.f1, .slice A x.f2.length c] 43)).alloc (.cells #[.int .i64 y.f0, .int .i64 y.f1, .slice B y.f2.length c2] 43)).alloc (.cells #[.int .i64 0, .int .i64 0, .slice none 0 0] 43)).alloc (.cells #[.slice A x.f2.length c, .slice B y.f2.length c2] 41)) := below_alloc (below_alloc (below_alloc (below_alloc h0 _) _) _) _
  have bx := blk_alloc (blk_alloc (blk_alloc (blk_new w (.cells #[.int .i64 x.f0, .int .i64 x.f1, .slice A x.f2.length c] 43)) (.cells #[.int .i64 y.f0, .int .i64 y.f1, .slice B y.f2.length c2] 43)) (.cells #[.int .i64 0, .int .i64 0, .slice none 0 0] 43)) (.cells #[.slice A x.f2.length c, .slice B y.f2.length c2] 41)
  have byy := blk_alloc (blk_alloc (blk_new (w.alloc (.cells #[.int .i64 x.f0, .int .i64 x.f1, .slice A x.f2.length c] 43)) (.cells #[.int .i64 y.f0, .int .i64 y.f1, .slice B y.f2.length c2] 43)) (.cells #[.int .i64 0, .int .i64 0, .slice none 0 0] 43)) (.cells #[.slice A x.f2.length c, .slice B y.f2.length c2] 41)
  have br := blk_alloc (blk_new ((w.alloc (.cells #[.int .i64 x.f0, .int .i64 x.f1, .slice A x.f2.length c] 43)).alloc (.cells #[.int .i64 y.f0, .int .i64 y.f1, .slice B y.f2.length c2] 43)) (.cells #[.int .i64 0, .int .i64 0, .slice none 0 0] 43)) (.cells #[.slice A x.f2.length c, .slice B y.f2.length c2] 41)
  have bp := blk_new (((w.alloc (.cells #[.int .i64 x.f0, .int .i64 x.f1, .slice A x.f2.length c] 43)).alloc (.cells #[.int .i64 y.f0, .int .i64 y.f1, .slice B y.f2.length c2] 43)).alloc (.cells #[.int .i64 0, .int .i64 0, .slice none 0 0] 43)) (.cells #[.slice A x.f2.length c, .slice B y.f2.length c2] 41)
  have hz : ((((w.alloc (.cells #[.int .i64 x.f0, .int .i64 x.f1, .slice A x.f2.length c] 43)).alloc (.cells #[.int .i64 y.f0, .int .i64 y.f1, .slice B y.f2.length c2] 43)).alloc (.cells #[.int .i64 0, .int .i64 0, .slice none 0 0] 43)).alloc (.cells #[.slice A x.f2.length c, .slice B y.f2.length c2] 41)).heap.size = w.heap.size + 1 + 1 + 1 + 1 := by simp
  simp only [World.size_alloc] at byy br bp
  generalize (((w.alloc (.cells #[.int .i64 x.f0, .int .i64 x.f1, .slice A x.f2.length c] 43)).alloc (.cells #[.int .i64 y.f0, .int .i64 y.f1, .slice B y.f2.length c2] 43)).alloc (.cells #[.int .i64 0, .int .i64 0, .slice none 0 0] 43)).alloc (.cells #[.slice A x.f2.length c, .slice B y.f2.length c2] 41) = W at hb0 bx byy br bp hz ⊢
  refine (concat_any _ A B c c2 x.f2 y.f2 W ((blk_cell bp 0).trans rfl) ((blk_cell bp 1).trans rfl) (Kd.C_below hx.2 hb0) (Kd.C_below hy.2 hb0) lx ly).mono ?_
  rintro e w1 ⟨v1, rfl, ho1, hb1⟩
  have bx1 := blk_below bx hb1
  have by1 := blk_below byy hb1
  have br1 := blk_below br hb1
  have hb2 := below_then hb0 hb0.size hb1
  clear bx byy br bp hb1
  go_wp2_with fail
  refine (Lays.sort_any v1 _ _ _ _ ho1 (by rw [List.length_append]; omega)).mono ?_
  rintro e w2 ⟨rfl, ho2, hg2⟩
  have hnb : ∀ k, v1.ownBlock = some k → w.heap.size + 1 + 1 < k := fun k hk => by have := Kd.R_base ho1 k hk; omega
  have bx2 := blk_grown bx1 hg2 (fun e => by have := hnb _ e.symm; omega)
  have by2 := blk_grown by1 hg2 (fun e => by have := hnb _ e.symm; omega)
  have br2 := blk_grown br1 hg2 (fun e => by have := hnb _ e.symm; omega)
  have hb3 := pw_below_grown hb2 v1.ownBlock hb2.size hg2 (fun k hk => by have := hnb k hk; omega)
  clear bx1 by1 br1 ho1 hg2 hb2 hb0
  have HO := Aside0.mk ho2
  have HN := Aside0.mk hnb
  have HB := Aside0.mk hb3
  have cx0 : w2.cell? ⟨w.heap.size, 0, none⟩ = some (.int .i64 x.f0) := (blk_cell bx2 0).trans rfl
  have cx1 : w2.cell? ⟨w.heap.size, 1, none⟩ = some (.int .i64 x.f1) := (blk_cell bx2 1).trans rfl
  have cy0 : w2.cell? ⟨w.heap.size + 1, 0, none⟩ = some (.int .i64 y.f0) := (blk_cell by2 0).trans rfl
  have cy1 : w2.cell? ⟨w.heap.size + 1, 1, none⟩ = some (.int .i64 y.f1) := (blk_cell by2 1).trans rfl
  have BR := Aside0.mk br2
  have KC : ∀ (w' : World) (row : Option Nat), w2.grownBy w' row → (∀ k, row = some k → w.heap.size + 1 + 1 < k) → w'.cell? ⟨w.heap.size, 0, none⟩ = some (.int .i64 x.f0) ∧ w'.cell? ⟨w.heap.size, 1, none⟩ = some (.int .i64 x.f1) ∧ w'.cell? ⟨w.heap.size + 1, 0, none⟩ = some (.int .i64 y.f0) ∧ w'.cell? ⟨w.heap.size + 1, 1, none⟩ = some (.int .i64 y.f1) ∧ w'.heap[w.heap.size + 1 + 1]? = some (.cells #[.int .i64 0, .int .i64 0, .slice none 0 0] 43 (0, 0)) := by
    intro w' row hg hr
    have b1 := blk_grown bx2 hg (fun e => by have := hr _ e.symm; omega)
    have b2 := blk_grown by2 hg (fun e => by have := hr _ e.symm; omega)
    exact ⟨(blk_cell b1 0).trans rfl, (blk_cell b1 1).trans rfl, (blk_cell b2 0).trans rfl, (blk_cell b2 1).trans rfl, blk_grown br2 hg (fun e => by have := hr _ e.symm; omega)⟩
  have KC2 := Aside0.mk KC
  clear KC
  clear ho2 hnb hb3 bx2 by2 br2
  have kx0 : w2.drew.cell? ⟨w.heap.size, 0, none⟩ = some (.int .i64 x.f0) := cx0
  have kx1 : w2.drew.cell? ⟨w.heap.size, 1, none⟩ = some (.int .i64 x.f1) := cx1
  have ky0 : w2.drew.cell? ⟨w.heap.size + 1, 0, none⟩ = some (.int .i64 y.f0) := cy0
  have ky1 : w2.drew.cell? ⟨w.heap.size + 1, 1, none⟩ = some (.int .i64 y.f1) := cy1
  have hn1 : w.heap.size ≠ w.heap.size + 1 + 1 := by omega
  have hn2 : w.heap.size + 1 ≠ w.heap.size + 1 + 1 := by omega
  go_wp2
  go_region_held3 (fun w' => w'.cell? ⟨w.heap.size, 0, none⟩ = some (.int .i64 x.f0) ∧ w'.cell? ⟨w.heap.size, 1, none⟩ = some (.int .i64 x.f1) ∧ w'.cell? ⟨w.heap.size + 1, 0, none⟩ = some (.int .i64 y.f0) ∧ w'.cell? ⟨w.heap.size + 1, 1, none⟩ = some (.int .i64 y.f1)) (first | (with_reducible exact ⟨kx0, kx1, ky0, ky1⟩) | (with_reducible exact ⟨dx0, dx1, dy0, dy1⟩) | (with_reducible exact ⟨ex0, ex1, ey0, ey1⟩) | (with_reducible exact ⟨(far3 hn1).trans ex0, (far3 hn1).trans ex1, (far3 hn2).trans ey0, (far3 hn2).trans ey1⟩))
    (first | (go_at_call 108; refine (Lays.compact_any v1 _ _ _ _ (Kd.R_drew HO.out) (by rw [List.length_mergeSort, List.length_append]; omega)).mono ?_; rintro e w3 ⟨v3, rfl, ho3, hv3, hg3⟩; obtain ⟨dx0, dx1, dy0, dy1, br3⟩ := KC2.out w3 _ ⟨hg3.os, hg3.tape, hg3.output, hg3.size, hg3.block⟩ HN.out; obtain ⟨A3, c3, rfl, hl3, hC3⟩ := Kd.R_reads ho3; have hb4 := pw_below_grown (below_drew HB.out) v1.ownBlock HB.out.size hg3 (fun k hk => by have := HN.out k hk; omega)) | (refine Kd.R_append_rows_step (Kd.int .i64) (w0 := w) w.heap.size (by rfl) _ _ 41 3 (.int .i64 0) 8 rfl Tryz.underlying41 infoI rfl (by decide) (by omega) (.slice none 0 0) [] _ _ _ _ (fun _ => True) (fun _ => False) rfl rfl (Kd.R_nil _ _ _ _ _) hC3 (fun _ _ h => h) (fun _ h => h.elim) (fun _ _ => trivial) hb4 hb4.size ?_ ?_; (have := Lib.compact_length_le ((x.f2 ++ y.f2).mergeSort Lays.leb); rw [List.length_mergeSort, List.length_append] at this; simp; omega); intro v4 w4 ho4 hb5 hg4 _; have hb34 : Below w3.heap.size w3 w4 := ⟨hg4.os, hg4.tape, hg4.output, hg4.size, fun k hk => hg4.block k hk (by simp [Value.ownBlock])⟩; have ex0 := pw_cell_below hb34 dx0; have ex1 := pw_cell_below hb34 dx1; have ey0 := pw_cell_below hb34 dy0; have ey1 := pw_cell_below hb34 dy1; have br4 := blk_below br3 hb34; obtain ⟨A4, c4, rfl⟩ := Kd.R_slice ho4; have hs0 : w4.cell? ⟨w.heap.size + 1 + 1, 0, none⟩ = some (.int .i64 0) := (blk_cell br4 0).trans rfl; have hs1 : w4.cell? ⟨w.heap.size + 1 + 1, 1, none⟩ = some (.int .i64 0) := (blk_cell br4 1).trans rfl; have hs2 : w4.cell? ⟨w.heap.size + 1 + 1, 2, none⟩ = some (.slice none 0 0) := (blk_cell br4 2).trans rfl; have hf0 := blk_frozen br4 0; have hf1 := blk_frozen br4 1; have hf2 := blk_frozen br4 2))
  all_goals
    go_wp2
    refine bodyPost_ret (results_cell_row rfl _ _ (w.heap.size + 1 + 1) 43 #[.int .i64 (min x.f0 y.f0), .int .i64 (max x.f1 y.f1), .slice A4 _ c4] (0, 0) _ rfl (blk_put (cs := #[.int .i64 (min x.f0 y.f0), .int .i64 (max x.f1 y.f1), .slice none 0 0]) (blk_put (cs := #[.int .i64 (min x.f0 y.f0), .int .i64 0, .slice none 0 0]) (blk_put br4 0 _ rfl) 1 _ rfl) 2 _ rfl) Tryz.underlying43 rfl (by kernel_rfl)) rfl ?_
    have r1 := Kd.R_set ho4 br4 (by decide) 0 (.int .i64 (min x.f0 y.f0))
    have b1 := blk_set br4 0 (.int .i64 (min x.f0 y.f0))
    have r2 := Kd.R_set r1 b1 (by decide) 1 (.int .i64 (max x.f1 y.f1))
    have b2 := blk_set b1 1 (.int .i64 (max x.f1 y.f1))
    have r3 := Kd.R_set r2 b2 (by decide) 2 (.slice A4 (Lib.compact ((x.f2 ++ y.f2).mergeSort Lays.leb)).length c4)
    refine ⟨_, rfl, ?_, ((hb5.setCell (p := ⟨w.heap.size + 1 + 1, 0, none⟩) (by simp; omega) _).setCell (p := ⟨w.heap.size + 1 + 1, 1, none⟩) (by simp; omega) _).setCell (p := ⟨w.heap.size + 1 + 1, 2, none⟩) (by simp; omega) _⟩
    simp only [List.nil_append, comp_uni ax ay] at r3
    simp only [comp_uni ax ay]
    exact r3
end Go.Proofs.YtccenpmaooailaaGreat.Cc

/- What a search in a list of occurrences comes to, and what is put into one. One walk each. -/
set_option linter.unusedVariables false
set_option linter.unusedSimpArgs false
namespace Go.Proofs.YtccenpmaooailaaGreat.Cd
open Go.RowKit Go.Proofs.YtccenpmaooailaaGreatW.PrintWords Go.Proofs.YtccenpmaooailaaGreat.Wd Go.Proofs.YtccenpmaooailaaGreat.Pu Go.Proofs.YtccenpmaooailaaGreat.Ca

/-- where o is, or would be -/
structure At (l : List Occ) (o : Occ) (p : Nat) : Prop where
  le : p ≤ l.length
  lo : ∀ j, j < p → lt (l.getD j zO) o
  hi : ∀ j, p ≤ j → j < l.length → ¬ lt (l.getD j zO) o
theorem sorted_getD {l : List Occ} (h : Sorted l) {i j : Nat} (hij : i < j) (hj : j < l.length) : lt (l.getD i zO) (l.getD j zO) := by
  rw [List.getD_eq_getElem?_getD, List.getD_eq_getElem?_getD, List.getElem?_eq_getElem (by omega), List.getElem?_eq_getElem hj]
  exact List.pairwise_iff_getElem.1 h i j (by omega) hj hij
def hit (l : List Occ) (o : Occ) (p : Nat) : Bool := decide (p < l.length) && decide (cmpO (l.getD p zO) o = 0)

set_option maxRecDepth 100000 in
theorem bs_any (A B : Option Addr) (c c2 : Nat) (l : List Occ) (o : Occ) (w : World) (hs : Sorted l) (hl : l.length ≤ 1048576) (hr : kO.C w A l.length l) (ho : IsO w o B c2) :
    Calls Tryz.prog 103 #[.slice A l.length c, .agg #[.int .i64 o.f0, .int .i64 o.f1, .slice B o.f2.length c2], .func (.func 55) #[] #[]] w fun e w' =>
      ∃ p : Nat, At l o p ∧ e = .returned (.tuple #[.int .i64 p, .bool (hit l o p)]) ∧ Below w.heap.size w w' := by
  have k0 : (w.alloc (.cells #[.int .i64 o.f0, .int .i64 o.f1, .slice B o.f2.length c2] 43)).cell? ⟨w.heap.size, 0, none⟩ = some (.int .i64 o.f0) := by simp
  have k1 : (w.alloc (.cells #[.int .i64 o.f0, .int .i64 o.f1, .slice B o.f2.length c2] 43)).cell? ⟨w.heap.size, 1, none⟩ = some (.int .i64 o.f1) := by simp
  have k2 : (w.alloc (.cells #[.int .i64 o.f0, .int .i64 o.f1, .slice B o.f2.length c2] 43)).cell? ⟨w.heap.size, 2, none⟩ = some (.slice B o.f2.length c2) := by simp
  have hb0 := below_alloc (Below.refl w.heap.size w) (.cells #[.int .i64 o.f0, .int .i64 o.f1, .slice B o.f2.length c2] 43)
  go_enter Tryz.func103, Tryz.ntmps103
  go_wp2
  generalize w.alloc (.cells #[.int .i64 o.f0, .int .i64 o.f1, .slice B o.f2.length c2] 43) = W at k0 k1 k2 hb0 ⊢
  replace hr := Kd.C_below hr hb0
  replace ho := ho.below hb0
  have HB0 := Aside0.mk hb0
  clear hb0
  go_loopw [9, 10] (fun vi vj wr => ∃ (i j : Nat), i ≤ j ∧ j ≤ l.length ∧ vi = .int .i64 i ∧ vj = .int .i64 j ∧ Aside0 ((∀ k, k < i → lt (l.getD k zO) o) ∧ (∀ k, j ≤ k → k < l.length → ¬ lt (l.getD k zO) o)) ∧ Aside0 (Below W.heap.size W wr)) (fun vi vj _ => (intOf vj).toNat - (intOf vi).toNat)
  case atStart => exact ⟨0, l.length, by omega, by omega, rfl, rfl, ⟨⟨fun k h => by omega, fun k h1 h2 => by omega⟩⟩, ⟨Below.refl _ _⟩⟩
  case round =>
    obtain ⟨i, j, hij, hj, rfl, rfl, HI, HB⟩ := hrel
    by_cases hlt : i < j
    · obtain ⟨m, hm⟩ : ∃ m : Nat, m = (i + j) / 2 := ⟨_, rfl⟩
      have hme : ((i : Int) + j) / 2 = (m : Int) := by omega
      have hm1 : i ≤ m := by omega
      have hm2 : m < j := by omega
      have HME := Aside0.mk hme
      clear hme hm
      have hrr := Kd.C_below hr HB.out
      obtain ⟨ad, A2, c3, rfl, ha, hb, hc, hl2, hC2⟩ := atO hrr m (by omega)
      have hIs : IsO wr (l.getD m zO) A2 c3 := ⟨hl2, hC2⟩
      have hIo := ho.below HB.out
      have q0 := cellE (pw_cell_below HB.out k0)
      have q1 := cellE (pw_cell_below HB.out k1)
      have q2 := cellE (pw_cell_below HB.out k2)
      replace ha := cellE ha
      replace hb := cellE hb
      replace hc := cellE hc
      have hmj : (m : Int) < l.length := by omega
      clear hrr hl2 hC2
      have HG : Aside0 (l.getD m zO = l.getD m zO) := ⟨rfl⟩
      generalize hy : l.getD m zO = y at ha hb hc hIs
      have HY := Aside0.mk hy
      clear hy HG
      have hcl := fun s : Ext wr => compare_any y o A2 B c3 c2 s.1 (hIs.ext s) (hIo.ext s)
      by_cases hcm : cmpO y o < 0
      · have hd : decide (cmpO y o < 0) = true := decide_eq_true hcm
        have HI2 := Aside0.mk (show (∀ k, k < m + 1 → lt (l.getD k zO) o) ∧ (∀ k, j ≤ k → k < l.length → ¬ lt (l.getD k zO) o) from ⟨fun k hk => by
          by_cases e : k = m
          · subst e; rw [HY.out]; exact hcm
          · exact lt_trans (sorted_getD hs (by omega : k < m) (by omega)) (by rw [HY.out]; exact hcm), HI.out.2⟩)
        clear hcm
        go_wp2
        rw [HME.out]
        refine region_ext (W := wr) (Below.refl _ _) (by kernel_rfl) (by kernel_rfl) ?_
        repeat (first | go_big_quiet_step ((go_at_call 55; exact calls_ext (hcl _))) | quiet_step ((go_at_call 55; exact calls_ext (hcl _))))
        refine wpQuiet_nil ?_
        rintro _ ⟨s, rfl⟩
        have HB3 := Aside0.mk (below_then HB.out HB.out.size s.2)
        generalize s.1 = W2 at HB3
        go_wp2
        go_roundw
        case rel => exact ⟨m + 1, j, by omega, by omega, by go_num, rfl, HI2, HB3⟩
        case measure => simp [intOf]; omega
      · have hd : decide (cmpO y o < 0) = false := decide_eq_false hcm
        have HI2 := Aside0.mk (show (∀ k, k < i → lt (l.getD k zO) o) ∧ (∀ k, m ≤ k → k < l.length → ¬ lt (l.getD k zO) o) from ⟨HI.out.1, fun k hk hkl => by
          by_cases e : k = m
          · subst e; rw [HY.out]; exact hcm
          · intro hlt2
            exact hcm (by rw [← HY.out]; exact lt_trans (sorted_getD hs (by omega : m < k) hkl) hlt2)⟩)
        clear hcm
        go_wp2
        rw [HME.out]
        refine region_ext (W := wr) (Below.refl _ _) (by kernel_rfl) (by kernel_rfl) ?_
        repeat (first | go_big_quiet_step ((go_at_call 55; exact calls_ext (hcl _))) | quiet_step ((go_at_call 55; exact calls_ext (hcl _))))
        refine wpQuiet_nil ?_
        rintro _ ⟨s, rfl⟩
        have HB3 := Aside0.mk (below_then HB.out HB.out.size s.2)
        generalize s.1 = W2 at HB3
        go_wp2
        go_roundw
        case rel => exact ⟨i, m, by omega, by omega, rfl, rfl, HI2, HB3⟩
        case measure => simp [intOf]; omega
    · obtain rfl : i = j := by omega
      have HA := Aside0.mk (show At l o i from ⟨hj, HI.out.1, HI.out.2⟩)
      have q0 := cellE (pw_cell_below HB.out k0)
      have q1 := cellE (pw_cell_below HB.out k1)
      have q2 := cellE (pw_cell_below HB.out k2)
      by_cases hil : i < l.length
      · have hdl : decide (i < l.length) = true := decide_eq_true hil
        have hrr := Kd.C_below hr HB.out
        obtain ⟨ad, A2, c3, rfl, ha, hb, hc, hl2, hC2⟩ := atO hrr i hil
        have hIs : IsO wr (l.getD i zO) A2 c3 := ⟨hl2, hC2⟩
        have hIo := ho.below HB.out
        replace ha := cellE ha
        replace hb := cellE hb
        replace hc := cellE hc
        have HH := Aside0.mk (show hit l o i = (cmpO (l.getD i zO) o == 0) by unfold hit; simp [hil]; rw [Bool.eq_iff_iff]; simp)
        clear hrr hl2 hC2
        generalize l.getD i zO = y at ha hb hc hIs HH
        have hcl := fun s : Ext wr => compare_any y o A2 B c3 c2 s.1 (hIs.ext s) (hIo.ext s)
        go_wp2
        refine region_ext (W := wr) (Below.refl _ _) (by kernel_rfl) (by kernel_rfl) ?_
        repeat (first | go_big_quiet_step ((go_at_call 55; exact calls_ext (hcl _))) | quiet_step ((go_at_call 55; exact calls_ext (hcl _))))
        refine wpQuiet_nil ?_
        rintro _ ⟨s, rfl⟩
        have HB3 := Aside0.mk (below_then HB0.out HB0.out.size (below_then HB.out HB.out.size s.2))
        generalize s.1 = W2 at HB3
        go_wp2
        go_ret2
        exact ⟨i, HA.out, by rw [HH.out]; rfl, HB3.out⟩
      · have hdl : decide (i < l.length) = false := decide_eq_false hil
        have HH := Aside0.mk (show hit l o i = false by unfold hit; simp [hil])
        go_wp2
        refine region_ext (W := wr) (Below.refl _ _) (by kernel_rfl) (by kernel_rfl) ?_
        repeat (first | go_big_quiet_step (fail) | quiet_step (fail))
        refine wpQuiet_nil ?_
        rintro _ ⟨s, rfl⟩
        have HB3 := Aside0.mk (below_then HB0.out HB0.out.size (below_then HB.out HB.out.size s.2))
        generalize s.1 = W2 at HB3
        go_wp2
        go_ret2
        exact ⟨i, HA.out, by rw [HH.out]; rfl, HB3.out⟩
end Go.Proofs.YtccenpmaooailaaGreat.Cd

/- copy of elements of several cells, all read in one memory that does not change. -/
set_option linter.unusedVariables false
set_option linter.unusedSimpArgs false
namespace Go.Proofs.YtccenpmaooailaaGreat.Cp
open Go.RowKit Go.Proofs.YtccenpmaooailaaGreatW.PrintWords Go.Proofs.YtccenpmaooailaaGreat.Wd Go.Proofs.YtccenpmaooailaaGreat.Pu Go.Proofs.YtccenpmaooailaaGreat.Ca
section
variable {P : Program} {α : Type} (d : Kd α) (wf : World)

theorem reps_one {W : World} {ys : List α} {cs : List Value} (hs0 : 0 < d.sz) (h : Reps (d.K W) d.sz ys cs) : ∀ u ∈ cs, u.oneCell' = true := by
  intro u hu
  obtain ⟨q, hq, rfl⟩ := List.mem_iff_getElem.1 hu
  have hql : q / d.sz < ys.length := by
    rw [Nat.div_lt_iff_lt_mul hs0, ← h.1]
    exact hq
  refine d.K_one (h.2 (q / d.sz) _ (List.getElem?_eq_getElem hql)) _ ?_
  rw [List.mem_iff_getElem?]
  refine ⟨q % d.sz, ?_⟩
  rw [List.getElem?_take, if_pos (Nat.mod_lt _ hs0), List.getElem?_drop, Nat.mul_comm, Nat.div_add_mod, List.getElem?_eq_getElem hq]

theorem run_copy_fixed {W : World} {base : Nat} {t e ty : TypeId} (ht : P.underlying t = some (.slice e)) (hsz : (P.info? e).map (·.size) = some d.sz) (hs0 : 0 < d.sz) {ok : Nat → Prop} {g n cap : Nat} {xs ys : List α}
    (HO : (Kd.fixed d wf).R e W base ok (.slice (some ⟨g, 0, none⟩) n cap) xs) (off dLen dCap : Nat) (ad : Addr) (sLen sCap : Nat) (hy : ys.length = Nat.min sLen dLen)
    (HR : (Kd.fixed d wf).C W (some ad) ys.length ys) (hfit : off + ys.length ≤ xs.length) (q : Nat) (hq : q = off * d.sz) :
    ∃ w1, (Builtin.copy_ #[t, t] ty #[.slice (some ⟨g, q, none⟩) dLen dCap, .slice (some ad) sLen sCap]).run P W = .ok (goInt ys.length) w1 ∧
      (Kd.fixed d wf).R e w1 base ok (.slice (some ⟨g, 0, none⟩) n cap) (xs.take off ++ ys ++ xs.drop (off + ys.length)) ∧ W.grownBy w1 (some g) := by
  subst hq
  obtain ⟨hok, inner, hown, hr⟩ := HO
  obtain ⟨news, hnr, hnc⟩ := ReadsRow.inner_ HR
  have hone := reps_one d hs0 (show Reps (d.K wf) d.sz ys news from hnr)
  have hxl : inner.length = xs.length * d.sz := hr.1
  have hnl : news.length = ys.length * d.sz := hnr.1
  have hfit2 : off * d.sz + news.length ≤ inner.length := by rw [hnl, hxl, ← Nat.add_mul]; exact Nat.mul_le_mul_right _ hfit
  rcases hown.2 with ⟨hv, _⟩ | ⟨g', cap', cur, hv, hbg, hg, hnc2, hmx, hcs, hin⟩
  · cases hv
  · obtain ⟨rfl, rfl, rfl⟩ : g = g' ∧ n = xs.length ∧ cap = cap' := by simpa using hv
    replace hin : cur.toList.take (xs.length * d.sz) = inner := hin
    have hle : xs.length * d.sz ≤ cur.size := by rw [hcs]; exact Nat.mul_le_mul_right _ hnc2
    have hst := run_storeCells_at P g (off * d.sz) e news 0 cur W hg (by omega) hone
    have hl := run_loadCells_list (P := P) W ad news hnc
    refine ⟨W.setRow g (cur.toList.take (off * d.sz) ++ news ++ cur.toList.drop (off * d.sz + news.length)).toArray, ?_, ⟨hok, inner.take (off * d.sz) ++ news ++ inner.drop (off * d.sz + news.length), ?_, ?_⟩, ?_⟩
    · obtain ⟨i, hi, hi2⟩ := Option.map_eq_some_iff.1 hsz
      rw [hnl] at hl
      simp [Builtin.copy_, run_underlying ht, Builtin.lenOf, Builtin.firstCells, sizeOf, typeInfo, hi, hi2, ← hy, hl]
      simp at hst
      simp [hst, Result.andThen]
    · have hnn : (xs.take off ++ ys ++ xs.drop (off + ys.length)).length = xs.length := by simp; omega
      rw [hnn]
      refine ⟨?_, .inr ⟨g, cap, _, rfl, hbg, setRow_heap W g cur _ e _ hg, hnc2, hmx, ?_, ?_⟩⟩
      · simp; rw [hxl] at *; simp only [Kd.fixed]; omega
      · simp only [List.size_toArray, List.length_append, List.length_take, List.length_drop, Array.length_toList]
        have : (Kd.fixed d wf).sz = d.sz := rfl
        omega
      · show List.take (xs.length * d.sz) _ = _
        rw [List.take_append, List.take_append]
        have e1 : (cur.toList.take (off * d.sz)).length = off * d.sz := by rw [List.length_take, Array.length_toList]; omega
        have e2 : List.take (xs.length * d.sz) (cur.toList.take (off * d.sz)) = inner.take (off * d.sz) := by
          rw [← hin, List.take_take, List.take_take]; congr 1; omega
        have e3 : List.take (xs.length * d.sz - (cur.toList.take (off * d.sz)).length) news = news := List.take_of_length_le (by rw [e1]; omega)
        have e4 : List.take (xs.length * d.sz - (cur.toList.take (off * d.sz) ++ news).length) (cur.toList.drop (off * d.sz + news.length)) = inner.drop (off * d.sz + news.length) := by
          rw [← hin, List.drop_take]; congr 1; rw [List.length_append, e1]
        rw [e2, e3, e4]
    · have h1 := Kd.reps_take (m := off) hr (by omega)
      have h3 := Kd.reps_drop (m := off + ys.length) hr
      rw [Nat.add_mul] at h3
      have hn3 : (Kd.fixed d wf).sz = d.sz := rfl
      rw [hnl]
      exact Kd.reps_append (Kd.reps_append h1 hnr) h3
    · exact ⟨rfl, rfl, rfl, by simp [World.setRow], fun k hk hne => setRow_other W g k _ (fun e => hne (by rw [e]))⟩

/-- .. into the spare cells behind the elements. -/
theorem run_copy_ext {W : World} {base : Nat} {t e ty : TypeId} (ht : P.underlying t = some (.slice e)) (hsz : (P.info? e).map (·.size) = some d.sz) (hs0 : 0 < d.sz) {ok : Nat → Prop} {g n cap : Nat} {xs ys : List α}
    (HO : (Kd.fixed d wf).R e W base ok (.slice (some ⟨g, 0, none⟩) n cap) xs) (off dLen dCap : Nat) (ad : Addr) (sLen sCap : Nat) (hy : ys.length = Nat.min sLen dLen)
    (HR : (Kd.fixed d wf).C W (some ad) ys.length ys) (hoff : off ≤ xs.length) (hfit : off + ys.length ≤ cap) (q : Nat) (hq : q = off * d.sz) :
    ∃ w1, (Builtin.copy_ #[t, t] ty #[.slice (some ⟨g, q, none⟩) dLen dCap, .slice (some ad) sLen sCap]).run P W = .ok (goInt ys.length) w1 ∧
      (Kd.fixed d wf).R e w1 base ok (.slice (some ⟨g, 0, none⟩) (off + ys.length) cap) (xs.take off ++ ys) ∧ W.grownBy w1 (some g) := by
  subst hq
  obtain ⟨hok, inner, hown, hr⟩ := HO
  obtain ⟨news, hnr, hnc⟩ := ReadsRow.inner_ HR
  have hone := reps_one d hs0 (show Reps (d.K wf) d.sz ys news from hnr)
  have hxl : inner.length = xs.length * d.sz := hr.1
  have hnl : news.length = ys.length * d.sz := hnr.1
  have ho2 : off * d.sz ≤ inner.length := by rw [hxl]; exact Nat.mul_le_mul_right _ hoff
  rcases hown.2 with ⟨hv, _⟩ | ⟨g', cap', cur, hv, hbg, hg, hnc2, hmx, hcs, hin⟩
  · cases hv
  · obtain ⟨rfl, rfl, rfl⟩ : g = g' ∧ n = xs.length ∧ cap = cap' := by simpa using hv
    replace hin : cur.toList.take (xs.length * d.sz) = inner := hin
    replace hcs : cur.size = cap * d.sz := hcs
    have hfit2 : off * d.sz + news.length ≤ cur.size := by rw [hnl, hcs, ← Nat.add_mul]; exact Nat.mul_le_mul_right _ hfit
    have hle : xs.length * d.sz ≤ cur.size := by rw [hcs]; exact Nat.mul_le_mul_right _ hnc2
    have hst := run_storeCells_at P g (off * d.sz) e news 0 cur W hg (by omega) hone
    have hl := run_loadCells_list (P := P) W ad news hnc
    refine ⟨W.setRow g (cur.toList.take (off * d.sz) ++ news ++ cur.toList.drop (off * d.sz + news.length)).toArray, ?_, ⟨hok, inner.take (off * d.sz) ++ news, ?_, ?_⟩, ?_⟩
    · obtain ⟨i, hi, hi2⟩ := Option.map_eq_some_iff.1 hsz
      rw [hnl] at hl
      simp [Builtin.copy_, run_underlying ht, Builtin.lenOf, Builtin.firstCells, sizeOf, typeInfo, hi, hi2, ← hy, hl]
      simp at hst
      simp [hst, Result.andThen]
    · have hnn : (xs.take off ++ ys).length = off + ys.length := by simp; omega
      rw [hnn]
      have e1 : (cur.toList.take (off * d.sz)).length = off * d.sz := by rw [List.length_take, Array.length_toList]; omega
      refine ⟨?_, .inr ⟨g, cap, _, rfl, hbg, setRow_heap W g cur _ e _ hg, hfit, hmx, ?_, ?_⟩⟩
      · rw [List.length_append, List.length_take, hnl, Nat.add_mul]
        show min (off * d.sz) inner.length + _ = off * d.sz + ys.length * d.sz
        omega
      · simp only [List.size_toArray, List.length_append, List.length_take, List.length_drop, Array.length_toList]
        show _ = cap * d.sz
        omega
      · show List.take ((off + ys.length) * d.sz) _ = _
        have e2 : cur.toList.take (off * d.sz) = inner.take (off * d.sz) := by
          rw [← hin, List.take_take]; congr 1; omega
        have e3 : (off + ys.length) * d.sz = (cur.toList.take (off * d.sz) ++ news).length := by rw [List.length_append, e1, hnl, Nat.add_mul]
        rw [e3]
        simp only []
        rw [List.take_left, e2]
    · exact Kd.reps_append (Kd.reps_take (m := off) hr (by omega)) hnr
    · exact ⟨rfl, rfl, rfl, by simp [World.setRow], fun k hk hne => setRow_other W g k _ (fun e => hne (by rw [e]))⟩
theorem C_dropF {w : World} {dd : Kd α} {ad : Addr} {n : Nat} {xs : List α} (h : dd.C w (some ad) n xs) (m : Nat) (hm : m ≤ n) : dd.C w (some (ad.add (m * dd.sz))) (n - m) (xs.drop m) := by
  refine ⟨by rw [List.length_drop, h.1], by have := h.2.1; omega, fun h0 => ⟨_, rfl, fun j q hj => ?_⟩⟩
  obtain ⟨ad', e, hc⟩ := h.2.2 (by omega)
  cases e
  rw [List.getElem?_drop] at hj
  obtain ⟨c, h1, h2, h3⟩ := hc _ _ hj
  exact ⟨c, h1, h2, fun i u hi => by rw [add_add, show m * dd.sz + (j * dd.sz + i) = (m + j) * dd.sz + i by rw [Nat.add_mul]; omega]; exact h3 i u hi⟩

variable {ops : Array Oper} {rest : List Oper} {o : Oper} {a : Act} {K : Act → World → Prop} {Q : Exit → Act → World → Prop} {E : Prop}
theorem wpList_copy_run {W : World} (hgd : o.guard = none) (x y : Operand) (t t' : TypeId) (ho : o.op = .call { callee := .builtin .copy, args := #[x, y], argTypes := #[t, t'] }) (v u : Value) (hx : a.eval x = v) (hy : a.eval y = u) {v' : Value} {w' : World}
    (hr : (Builtin.copy_ #[t, t'] o.type #[v, u]).run P W = .ok v' w') (h : wpList P ops Q rest (a.put o.dst v') w') : wpList P ops Q (o :: rest) a W := by
  refine wpList_plain hgd fun _ hK => ?_
  unfold Oper.wp execOp
  simp only [ho, resolve, invoke, builtin, Sem.run_bind, Sem.run_pure, Result.andThen_ok, List.map_toArray, List.map_cons, List.map_nil, hx, hy, hr]
  exact hK _ _ h
theorem step_copy_run {W : World} (hg : o.guard = none) (x y : Operand) (t t' : TypeId) (ho : o.op = .call { callee := .builtin .copy, args := #[x, y], argTypes := #[t, t'] }) (v u : Value) (hx : a.eval x = v) (hy : a.eval y = u) {v' : Value} {w' : World}
    (hr : (Builtin.copy_ #[t, t'] o.type #[v, u]).run P W = .ok v' w') (hK : K (a.put o.dst v') w') :
    if Region.wanted o (yielded ops a.tmps) = true then Oper.wp P o a W K Q else E := by
  have hw : Region.wanted o (yielded ops a.tmps) = true := by simp [Region.wanted, hg]
  rw [if_pos hw]
  unfold Oper.wp execOp
  simp only [ho, resolve, invoke, builtin, Sem.run_bind, Sem.run_pure, Result.andThen_ok, List.map_toArray, List.map_cons, List.map_nil, hx, hy, hr]
  exact hK
end

theorem szO (wf : World) : 0 < (Kd.fixed kO wf).sz := (by decide : 0 < 3)
theorem infoO : (Tryz.prog.info? 43).map (fun i => (i.zero, i.size, i.bytes)) = some (some (.agg #[.int .i64 0, .int .i64 0, .slice none 0 0]), 3, 40) := by kernel_rfl
theorem sizeO : (Tryz.prog.info? 43).map (·.size) = some 3 := by kernel_rfl
theorem zero_fixed (wf : World) : kO.K wf zO [.int .i64 0, .int .i64 0, .slice none 0 0] := kO_mk wf zO (A := none) (c := 0) (Nat.le_refl _) ⟨rfl, by decide, fun h => by simp [zO] at h⟩

set_option maxRecDepth 100000 in
/-- slices.Clone -/
theorem cloneS_any (A : Option Addr) (c : Nat) (l : List Occ) (w : World) (hl : l.length ≤ 1048576) (hc : l.length ≤ c) (hr : kO.C w A l.length l) :
    Calls Tryz.prog 105 #[.slice A l.length c] w fun e w' =>
      ∃ v, e = .returned v ∧ (Kd.fixed kO w).R 43 w' w.heap.size (fun _ => True) v l ∧ Below w.heap.size w w' := by
  rcases A with _ | ad
  · have h0 : l = [] := by
      rcases Nat.eq_zero_or_pos l.length with h | h
      · exact List.eq_nil_of_length_eq_zero h
      · obtain ⟨_, e, _⟩ := hr.2.2 h
        cases e
    subst h0
    have hnil : ∀ W, (binOp .eql 23 (.slice none 0 c) (.slice none 0 0)).run Tryz.prog W = .ok (.bool true) W := fun W => Lib.run_eql_slice_nil_nil W _ _ Tryz.underlying23
    go_enter Tryz.func105, Tryz.ntmps105
    go_wp2
    go_ret
    exact ⟨_, rfl, Kd.R_nil _ _ _ _ _, Below.refl _ _⟩
  · have hr2 : (Kd.fixed kO w).C w (some ad) l.length l := hr
    have hnil : ∀ W, (binOp .eql 23 (.slice (some ad) l.length c) (.slice none 0 0)).run Tryz.prog W = .ok (.bool false) W := fun W => Lib.run_eql_slice_some_nil W _ _ _ Tryz.underlying23
    go_enter Tryz.func105, Tryz.ntmps105
    go_wp2_with (first
      | ((with_reducible refine gate_dst (N := 5) rfl ?_); refine Kd.R_lit (Kd.fixed kO w) (w0 := w) w.heap.size 43 rfl (N := 5) rfl (xs := ([] : List Occ)) (inner := []) (ok := fun _ => True) (okp := fun _ => True) ?hr (Reps.none _ _) (fun _ hk => hk) trivial (Below.refl _ _) (Nat.le_refl _) (by simp) ?_; (case hr => first | (go_simp; done) | (go_simp; rfl)); intro v1 w1 ho hb hg _; obtain ⟨A1, c1, rfl⟩ := Kd.R_slice ho; have HO := Aside0.mk ho; have HB := Aside0.mk hb; have HG := Aside0.mk hg; clear ho hb hg)
      | ((with_reducible refine gate_dst (N := 7) rfl ?_); refine Kd.R_append_rows (Kd.fixed kO w) (w0 := w) w.heap.size rfl _ _ 23 43 (.agg #[.int .i64 0, .int .i64 0, .slice none 0 0]) 40 rfl Tryz.underlying23 infoO rfl (szO w) (by decide) _ [] l (some ad) l.length c (fun _ => True) (fun _ => False) rfl rfl HO.out (Kd.C_below hr2 ⟨HG.out.os, HG.out.tape, HG.out.output, HG.out.size, fun k hk => HG.out.block k hk (by simp)⟩) (fun _ _ h => h) (fun _ h => h.elim) (fun _ _ => trivial) HB.out HB.out.size (by simp; omega) ?_; intro v2 w2 ho hb hg _; have HO2 := Aside0.mk ho; have HB2 := Aside0.mk hb; clear ho hb hg))
    go_ret
    exact ⟨_, rfl, HO2.out, HB2.out⟩
end Go.Proofs.YtccenpmaooailaaGreat.Cp

/- slices.Insert of one occurrence. -/
set_option linter.unusedVariables false
set_option linter.unusedSimpArgs false
namespace Go.Proofs.YtccenpmaooailaaGreat.Ci
open Go.RowKit Go.Proofs.YtccenpmaooailaaGreatW.PrintWords Go.Proofs.YtccenpmaooailaaGreat.Wd Go.Proofs.YtccenpmaooailaaGreat.Pu Go.Proofs.YtccenpmaooailaaGreat.Ca Go.Proofs.YtccenpmaooailaaGreat.Cp
section
variable {P : Program} {α : Type} (d : Kd α) (wf : World)
theorem run_zeros_grow {W : World} {base : Nat} {t ti ty e : TypeId} {z : Value} {bytes : Nat} (ht : P.underlying t = some (.slice e)) {ki : IntKind} (hti : P.underlying ti = some (.int ki))
    (hinfo : (P.info? e).map (fun i => (i.zero, i.size, i.bytes)) = some (some z, d.sz, bytes)) (hz : z.cells.size = d.sz) (hs0 : 0 < d.sz) (hb0 : 0 < bytes) {ok : Nat → Prop} {g c : Nat} {xs : List α}
    (HO : (Kd.fixed d wf).R e W base ok (.slice (some ⟨g, 0, none⟩) xs.length c) xs) (k : Nat) (hk : 0 < k) (hg : c < xs.length + k) (z0 : α) (hzero : d.K wf z0 z.cells.toList) (hl : (xs.length + k) * bytes ≤ 140737488355328) :
    ∃ c1 w1, (Builtin.append_ #[t, ti] ty #[.slice (some ⟨g, 0, none⟩) xs.length c, .int .i64 k]).run P W = .ok (.slice (some ⟨W.heap.size, 0, none⟩) (xs.length + k) c1) w1 ∧
      (Kd.fixed d wf).R e w1 W.heap.size (fun _ => True) (.slice (some ⟨W.heap.size, 0, none⟩) (xs.length + k) c1) (xs ++ List.replicate k z0) ∧ Below W.heap.size W w1 := by
  obtain ⟨i0, hi, hzz⟩ := Option.map_eq_some_iff.1 hinfo
  simp only [Prod.mk.injEq] at hzz
  obtain ⟨hz0, hz1, hz2⟩ := hzz
  have hlen : xs.length + k ≤ 140737488355328 := Nat.le_trans (Nat.le_mul_of_pos_right _ hb0) hl
  have hcx : xs.length ≤ c := by obtain ⟨A, c', e, hle, _⟩ := Kd.R_reads HO; cases e; exact hle
  obtain ⟨hok, inner, hown, hr⟩ := HO
  have hil : inner.length = xs.length * d.sz := hr.1
  have holds : ∀ j u, inner[j]? = some u → W.cell? ((⟨g, 0, none⟩ : Addr).add j) = some u := World.ownsRow.cells (g := g) hown rfl
  have hold : (Builtin.firstCells i0.size xs.length (.slice (some ⟨g, 0, none⟩) xs.length c)).run P W.drew = .ok inner.toArray W.drew := by
    rw [hz1]
    exact run_firstCells_some (P := P) W.drew d.sz xs.length _ _ _ inner hil (fun j u h => by rw [← holds j u h]; rfl)
  have hrz := Lib.run_append_grow_zeros W t ti ty e i0 z .i64 ki ht hti hi hz0 (some ⟨g, 0, none⟩) xs.length c inner hold k hk (by omega) hg (by omega) (by rw [hz2]; have := Nat.mul_le_mul_right bytes (show k ≤ xs.length + k by omega); omega) (by rw [hz2]; exact growslice_fits hg hl)
  refine ⟨_, _, hrz, ⟨fun _ _ => trivial, inner ++ (Builtin.zeroCells z.cells k).toList, ?_, ?_⟩, ?_⟩
  · have hzl : (Builtin.zeroCells z.cells k).size = k * d.sz := by simp [Builtin.zeroCells, hz]
    have hge := grownCap_ge W (xs.length + k) c e
    have hmx := grownCap_le_maxLen W (xs.length + k) c e (by unfold maxLen; omega)
    refine ⟨?_, .inr ⟨W.heap.size, _, _, ?_, Nat.le_refl _, heap_alloc_new _ _, ?_, hmx, ?_, ?_⟩⟩
    · simp [hil, hzl, Nat.add_mul]; rfl
    · simp
    · simpa using hge
    · show Array.size _ = _ * d.sz
      simp [Builtin.zeroCells, hil, hz, ← Nat.add_mul]
      congr 1
      omega
    · show List.take (_ * d.sz) _ = _
      have : (xs ++ List.replicate k z0).length * d.sz = (inner ++ (Builtin.zeroCells z.cells k).toList).length := by simp [hil, hzl, Nat.add_mul]
      rw [this, List.length_append]
      simp only [Array.toList_append, List.append_assoc]
      rw [← List.append_assoc, ← List.length_append]
      exact List.take_left
  · exact Kd.reps_append hr (Kd.reps_zeros hz hs0 hzero k)
  · exact ⟨rfl, rfl, rfl, by simp, fun j hj => Below.heap_alloc W.drew _ j hj⟩
end

def insO (l : List Occ) (p : Nat) (o : Occ) : List Occ := l.take p ++ o :: l.drop p
theorem cutO (A : Option Addr) (n c m : Nat) (hm : m ≤ n) : ∃ A', (∀ W, (Instr.slice 23 (.slice A n c) (some (.int .i64 (m : Int))) none none).run Tryz.prog W = .ok (.slice A' (n - m) (c - m)) W) ∧ (m < c → A' = A.map (·.add (m * 3))) := by
  refine ⟨if c = m then A else A.map (·.add (m * 3)), fun W => ?_, fun h => by rw [if_neg (by omega)]⟩
  have hel : Tryz.prog.elem 23 = 43 := by simp [Program.elem, Tryz.underlying23]
  have hu : Tryz.prog.underlying 23 = some (.slice (Tryz.prog.elem 23)) := by rw [hel]; exact Tryz.underlying23
  obtain ⟨i, hi, hi2⟩ := Option.map_eq_some_iff.1 sizeO
  rw [run_slice_l W _ A n c hu .i64 (m : Int) (Int.natCast_nonneg _) (by omega), hel]
  simp [sizeOf, typeInfo, hi, hi2, sliced, Result.andThen]
theorem takeO (g n c m : Nat) (hm : m ≤ c) (W : World) : (Instr.slice 23 (.slice (some ⟨g, 0, none⟩) n c) none (some (.int .i64 (m : Int))) none).run Tryz.prog W = .ok (.slice (some ⟨g, 0, none⟩) m c) W := by
  have hel : Tryz.prog.elem 23 = 43 := by simp [Program.elem, Tryz.underlying23]
  have hu : Tryz.prog.underlying 23 = some (.slice (Tryz.prog.elem 23)) := by rw [hel]; exact Tryz.underlying23
  obtain ⟨i, hi, hi2⟩ := Option.map_eq_some_iff.1 sizeO
  rw [run_slice_h W _ (some ⟨g, 0, none⟩) n c hu .i64 (m : Int) (Int.natCast_nonneg _) (by omega), hel]
  simp [sizeOf, typeInfo, hi, hi2, sliced, Result.andThen, add_plain]
theorem insO_room (l : List Occ) (p : Nat) (o : Occ) (hp : p < l.length) :
    (List.take p (List.take (p + 1) l ++ List.drop p l) ++ [o] ++ List.drop (p + [o].length) (List.take (p + 1) l ++ List.drop p l)) = insO l p o := by
  have h1 : (List.take (p + 1) l).length = p + 1 := by rw [List.length_take]; omega
  have e1 : List.take p (List.take (p + 1) l ++ List.drop p l) = List.take p l := by
    rw [List.take_append_of_le_length (by omega), List.take_take]; congr 1; omega
  have e2 : List.drop (p + [o].length) (List.take (p + 1) l ++ List.drop p l) = List.drop p l := by
    rw [show p + [o].length = (List.take (p + 1) l).length by rw [h1]; rfl]; exact List.drop_left
  rw [e1, e2]
  simp [insO]
theorem insO_two (l : List Occ) (p : Nat) (o z : Occ) (hp : p < l.length) :
    (List.take (p + 1) (List.take p (List.take p l ++ List.replicate (l.length + 1 - p) z) ++ [o] ++ List.drop (p + [o].length) (List.take p l ++ List.replicate (l.length + 1 - p) z)) ++ List.drop p l ++
      List.drop (p + 1 + (List.drop p l).length) (List.take p (List.take p l ++ List.replicate (l.length + 1 - p) z) ++ [o] ++ List.drop (p + [o].length) (List.take p l ++ List.replicate (l.length + 1 - p) z))) = insO l p o := by
  have h1 : (List.take p l).length = p := by rw [List.length_take]; omega
  have e1 : List.take p (List.take p l ++ List.replicate (l.length + 1 - p) z) = List.take p l := by
    rw [List.take_append_of_le_length (by omega), List.take_take, Nat.min_self]
  rw [e1]
  have h2 : (List.take p l ++ [o]).length = p + 1 := by simp [h1]
  have e2 : List.take (p + 1) (List.take p l ++ [o] ++ List.drop (p + [o].length) (List.take p l ++ List.replicate (l.length + 1 - p) z)) = List.take p l ++ [o] := by
    rw [← h2]; exact List.take_left
  rw [e2]
  have e3 : List.drop (p + 1 + (List.drop p l).length) (List.take p l ++ [o] ++ List.drop (p + [o].length) (List.take p l ++ List.replicate (l.length + 1 - p) z)) = [] := by
    apply List.drop_eq_nil_of_le
    simp only [List.length_append, List.length_drop, h1, List.length_replicate, List.length_singleton]
    omega
  rw [e3]
  simp [insO]
set_option maxRecDepth 100000 in
theorem insert_any (wf : World) (base : Nat) (ok : Nat → Prop) (v : Value) (l : List Occ) (p : Nat) (o : Occ) (B : Nat) (cs : List Value) (w : World) (hl : l.length ≤ 1048576) (hp : p ≤ l.length) (hR : (Kd.fixed kO wf).R 43 w base ok v l)
    (hB : w.heap[B]? = some (.cells cs.toArray 43 (0, 0))) (ho : kO.K wf o cs) (hBv : some B ≠ v.ownBlock) (hbase : base ≤ w.heap.size) (hfresh : ∀ k, w.heap.size ≤ k → ok k) :
    Calls Tryz.prog 104 #[v, .int .i64 p, .slice (some ⟨B, 0, none⟩) 1 1] w fun e w' =>
      ∃ v', e = .returned v' ∧ (Kd.fixed kO wf).R 43 w' base ok v' (insO l p o) ∧ w.grownBy w' v.ownBlock := by
  obtain ⟨A, c, rfl, hlc, _⟩ := Kd.R_reads hR
  by_cases hpe : p = l.length
  · subst hpe
    have HC : (Kd.fixed kO wf).C w (some ⟨B, 0, none⟩) 1 [o] := by
      refine ⟨rfl, by decide, fun _ => ⟨_, rfl, fun j q hj => ?_⟩⟩
      obtain ⟨rfl, rfl⟩ : j = 0 ∧ q = o := by
        rcases j with _ | j
        · exact ⟨rfl, by simpa using hj.symm⟩
        · simp at hj
      refine ⟨cs, kO.K_len ho, ho, fun i u hi => ?_⟩
      rw [add_plain, Nat.zero_mul, Nat.zero_add, blk_cell hB i]
      simpa using hi
    obtain ⟨A', hcut, _⟩ := cutO A l.length c l.length (Nat.le_refl _)
    rw [Nat.sub_self] at hcut
    go_enter Tryz.func104, Tryz.ntmps104
    go_wp2_with (first
      | ((with_reducible refine gate_dst (N := 25) rfl ?_); refine Kd.R_append_rows (Kd.fixed kO wf) (w0 := w) base rfl _ _ 23 43 (.agg #[.int .i64 0, .int .i64 0, .slice none 0 0]) 40 rfl Tryz.underlying23 infoO rfl (szO wf) (by decide) _ l [o] _ 1 1 ok (fun _ => False) rfl rfl hR HC (fun _ _ h => h) (fun _ h => h.elim) hfresh (Below.refl _ _) hbase (by omega) ?_; intro v2 w2 hr2 hb2 hg2 _; have HR := Aside0.mk hr2; have HG := Aside0.mk (show w.grownBy w2 (Value.slice A l.length c).ownBlock from hg2); clear hr2 hb2 hg2; obtain ⟨A2, c2, rfl⟩ := Kd.R_slice HR.out))
    go_ret
    exact ⟨_, rfl, by simpa [insO] using HR.out, HG.out⟩
  · have hp2 : p < l.length := by omega
    obtain ⟨g, c', hv, hbg, hgw, cells, hcells⟩ := Kd.R_form hR (by omega)
    obtain ⟨rfl, rfl⟩ : A = some ⟨g, 0, none⟩ ∧ c = c' := by simpa using hv
    clear hv
    have hgB : g ≠ B := fun h => hBv (by rw [← h]; rfl)
    have HC : ∀ W, W.heap[B]? = some (.cells cs.toArray 43 (0, 0)) → (Kd.fixed kO wf).C W (some ⟨B, 0, none⟩) 1 [o] := fun W hB => by
      refine ⟨rfl, by decide, fun _ => ⟨_, rfl, fun j q hj => ?_⟩⟩
      obtain ⟨rfl, rfl⟩ : j = 0 ∧ q = o := by
        rcases j with _ | j
        · exact ⟨rfl, by simpa using hj.symm⟩
        · simp at hj
      refine ⟨cs, kO.K_len ho, ho, fun i u hi => ?_⟩
      rw [add_plain, Nat.zero_mul, Nat.zero_add, blk_cell hB i]
      simpa using hi
    obtain ⟨A', hcut, hA'⟩ := cutO (some ⟨g, 0, none⟩) l.length c p hp
    obtain rfl := hA' (by omega)
    simp only [Option.map_some, add_plain] at hcut
    have hpe1 : decide ((p : Int) = l.length) = false := by simp; omega
    have hpe2 : ¬ ((p : Int) = l.length) := by omega
    have HRc : (Kd.fixed kO wf).C w (some ⟨g, 0, none⟩) l.length l := by obtain ⟨A, c1, e, _, h⟩ := Kd.R_reads hR; cases e; exact h
    have HRd := C_dropF HRc p hp
    rw [add_plain] at HRd
    have hld : (l.drop p).length = l.length - p := List.length_drop
    by_cases hroom : l.length + 1 ≤ c
    · have hr1 : decide ((l.length : Int) + 1 > c) = false := by simp; omega
      have hr2 : ¬ ((c : Int) < l.length + 1) := by omega
      have hr3 : ¬ ((l.length : Int) + 1 > c) := by omega
      have hfull := takeO g l.length c (l.length + 1) hroom
      rw [show ((l.length + 1 : Nat) : Int) = (l.length : Int) + 1 from rfl] at hfull
      obtain ⟨A1, hcut1, hA1⟩ := cutO (some ⟨g, 0, none⟩) (l.length + 1) c p (by omega)
      obtain rfl := hA1 (by omega)
      obtain ⟨A2, hcut2, hA2⟩ := cutO (some ⟨g, 0, none⟩) (l.length + 1) c (p + 1) (by omega)
      obtain rfl := hA2 (by omega)
      simp only [Option.map_some, add_plain] at hcut1 hcut2
      rw [show ((p + 1 : Nat) : Int) = (p : Int) + 1 from rfl] at hcut2
      have hcz : cells.size ≠ 0 := by
        obtain ⟨inner, hown⟩ := Kd.R_own hR
        rcases hown.2 with ⟨e, _⟩ | ⟨g', cap', cur, e, _, hh, hn', _, hsz', _⟩
        · cases e
        · obtain ⟨rfl, _, rfl⟩ : g = g' ∧ l.length = l.length ∧ c = cap' := by simpa using e
          rw [hcells] at hh
          obtain rfl : cells = cur := by simpa using hh
          replace hsz' : cells.size = c * 3 := hsz'
          omega
      have hsz : ∀ w, (Go.sizeOf 43).run Tryz.prog w = .ok 3 w := fun w => by
        obtain ⟨i, hi, hi2⟩ := Option.map_eq_some_iff.1 sizeO
        simp [sizeOf, typeInfo, hi, hi2]
      have hov : ∀ lb cb, (callFunc 123 #[.slice (some ⟨B, 0, none⟩) 1 1, .slice (some ⟨g, (p + 1) * 3, none⟩) lb cb]).run Tryz.prog w = .ok (.value (.bool false)) w := fun lb cb => by
        rw [run_callFunc_extern Tryz.func123 (by kernel_rfl) (by kernel_rfl) (by kernel_rfl) (e := Extern.SlicesOverlaps.overlaps #[23, 23] #[4]) (by kernel_rfl),
          Lib.run_overlaps_apart w 23 4 43 Tryz.underlying23 3 hsz ⟨B, 0, none⟩ ⟨g, (p + 1) * 3, none⟩ 1 1 lb cb (fun h => hgB h.symm) _ _ _ _ (by unfold World.shape?; rw [hB]) (by unfold World.shape?; rw [hcells]) hcz (blk_frozen hB _) (blk_frozen hB _)]
        rfl
      obtain ⟨w1, hcp1, hR1, hg1⟩ := run_copy_ext (P := Tryz.prog) (ty := 3) kO wf Tryz.underlying23 sizeO (by decide) (Kd.R_drew hR) (p + 1) (l.length + 1 - (p + 1)) (c - (p + 1)) ⟨g, p * 3, none⟩ (l.length + 1 - p) (c - p) (by rw [hld]; simp only [Nat.min_def]; split <;> omega) (by rw [hld]; exact Kd.C_drew HRd) (by omega) (by rw [hld]; omega) ((p + 1) * 3) rfl
      rw [hld, show p + 1 + (l.length - p) = l.length + 1 by omega] at hR1
      obtain ⟨w2, hcp2, hR2, hg2⟩ := run_copy_fixed (P := Tryz.prog) (ty := 3) kO wf Tryz.underlying23 sizeO (by decide) hR1 p (l.length + 1 - p) (c - p) ⟨B, 0, none⟩ 1 1 (by simp only [Nat.min_def]; split <;> simp; omega) (HC w1 (blk_grown (blk_drew hB) hg1 (fun h => hgB (by injection h with h; exact h.symm)))) (by simp; omega) (p * 3) rfl
      have hgg : w.grownBy w2 (some g) := World.grownBy.trans ⟨hg1.os, hg1.tape, hg1.output, hg1.size, hg1.block⟩ hg2
      have mixed : Tryz.prog.follows .mixedOrders = true := by kernel_rfl
      have hw1 : IntKind.i64.wrap ((p : Int) + 1) = (p : Int) + 1 := by rw [IntKind.wrap_i64]; omega
      have b1 : (0 : Int) ≤ (p : Int) + 1 := by omega
      have b2 : (p : Int) + 1 ≤ (l.length : Int) + 1 := by omega
      have b3 : ((p : Int) + 1).toNat = p + 1 := by omega
      have b4 : ¬ (c = p + 1) := by omega
      have b5 : ¬ (c = p) := by omega
      have b6 : (p : Int) ≤ l.length + 1 := by omega
      clear hA' hA1 hA2 hR1
      go_enter Tryz.func104, Tryz.ntmps104
      go_wp2_with (simp only [hov])
      go_region_law_o (refine step_copy_run rfl _ _ 23 23 rfl (.slice (some ⟨g, (p + 1) * 3, none⟩) (l.length + 1 - (p + 1)) (c - (p + 1))) (.slice (some ⟨g, p * 3, none⟩) (l.length + 1 - p) (c - p)) (by simp [Act.eval, Act.put]) (by simp [Act.eval, Act.put]) hcp1 ?_)
      go_wp2_with (at_builtin; refine wpList_copy_run rfl _ _ _ _ rfl _ _ rfl rfl hcp2 ?_)
      go_ret
      refine ⟨_, rfl, ?_, hgg⟩
      rw [insO_room l p o hp2] at hR2
      exact hR2
    · have hr1 : decide ((l.length : Int) + 1 > c) = true := by simp; omega
      have hr2 : (c : Int) < l.length + 1 := by omega
      have hr3 : (l.length : Int) + 1 > c := by omega
      have HT := Kd.R_take (m := p) hR hp
      obtain ⟨k, hk⟩ : ∃ k, k = l.length + 1 - p := ⟨_, rfl⟩
      have hki : (l.length : Int) + 1 - p = k := by omega
      have hpl : (l.take p).length = p := by rw [List.length_take]; omega
      obtain ⟨c1, w1, hz, hR1, hb1⟩ := run_zeros_grow (P := Tryz.prog) kO wf (t := 23) (ti := 3) (ty := 23) Tryz.underlying23 Tryz.underlying3 infoO rfl (by decide) (by decide) (by rw [hpl]; exact HT) k (by omega) (by omega) zO (zero_fixed wf) (by omega)
      rw [hpl, show p + k = l.length + 1 by omega] at hz hR1
      have hc1 : l.length + 1 ≤ c1 := by have h := (Kd.R_reads' hR1).2.1; exact h
      have htake : ∀ W, (Instr.slice 23 (.slice (some ⟨g, 0, none⟩) l.length c) none (some (.int .i64 (p : Int))) none).run Tryz.prog W = .ok (.slice (some ⟨g, 0, none⟩) p c) W := fun W => takeO g l.length c p (by omega) W
      obtain ⟨A1, hcut1, hA1⟩ := cutO (some ⟨w.heap.size, 0, none⟩) (l.length + 1) c1 p (by omega)
      obtain rfl := hA1 (by omega)
      obtain ⟨A2, hcut2, hA2⟩ := cutO (some ⟨w.heap.size, 0, none⟩) (l.length + 1) c1 (p + 1) (by omega)
      rw [show ((p + 1 : Nat) : Int) = (p : Int) + 1 from rfl] at hcut2
      obtain rfl := hA2 (by omega)
      simp only [Option.map_some, add_plain] at hcut1 hcut2
      obtain ⟨w2, hcp1, hR2, hg2⟩ := run_copy_fixed (P := Tryz.prog) (ty := 3) kO wf Tryz.underlying23 sizeO (by decide) hR1 p (l.length + 1 - p) (c1 - p) ⟨B, 0, none⟩ 1 1 (by simp only [Nat.min_def]; split <;> simp; omega) (HC w1 (blk_below hB hb1)) (by simp [hpl]; omega) (p * 3) rfl
      have hb2 : Below w.heap.size w w2 := hb1.grown hg2 hb1.size (by simp)
      have hd2 : Below w.heap.size w w2.drew := below_drew hb2
      obtain ⟨w3, hcp2, hR3, hg3⟩ := run_copy_fixed (P := Tryz.prog) (ty := 3) kO wf Tryz.underlying23 sizeO (by decide) (Kd.R_drew hR2) (p + 1) (l.length + 1 - (p + 1)) (c1 - (p + 1)) ⟨g, p * 3, none⟩ (l.length - p) (c - p) (by rw [hld]; simp only [Nat.min_def]; split <;> omega) (by rw [hld]; exact Kd.C_below HRd hd2) (by rw [hld]; simp [hpl]; omega) ((p + 1) * 3) rfl
      have hb3 : Below w.heap.size w w3 := hd2.grown hg3 hd2.size (by simp)
      have mixed : Tryz.prog.follows .mixedOrders = true := by kernel_rfl
      have hw1 : IntKind.i64.wrap ((p : Int) + 1) = (p : Int) + 1 := by rw [IntKind.wrap_i64]; omega
      have b1 : (0 : Int) ≤ (p : Int) + 1 := by omega
      have b2 : (p : Int) + 1 ≤ (l.length : Int) + 1 := by omega
      have b3 : ((p : Int) + 1).toNat = p + 1 := by omega
      have b4 : ¬ (c1 = p + 1) := by omega
      have b5 : ¬ (c = p) := by omega
      have b6 : (p : Int) ≤ l.length := by omega
      rw [← hki] at hz
      clear hA' hA1 hA2 hR1 HT hR2 hki
      subst hk
      go_enter Tryz.func104, Tryz.ntmps104
      go_wp2_with (first
        | (at_builtin; refine Lib.wpList_append_run _ rfl _ _ _ _ rfl _ _ rfl rfl _ _ hz ?_)
        | (at_builtin; refine wpList_copy_run rfl _ _ _ _ rfl _ _ rfl rfl hcp1 ?_))
      go_region_law_o (refine step_copy_run rfl _ _ 23 23 rfl (.slice (some ⟨w.heap.size, (p + 1) * 3, none⟩) (l.length + 1 - (p + 1)) (c1 - (p + 1))) (.slice (some ⟨g, p * 3, none⟩) (l.length - p) (c - p)) (by simp [Act.eval, Act.put]) (by simp [Act.eval, Act.put]) hcp2 ?_)
      go_wp2
      go_ret
      refine ⟨_, rfl, ?_, ⟨hb3.os, hb3.tape, hb3.output, hb3.size, fun k hk _ => hb3.block k hk⟩⟩
      rw [insO_two l p o zO hp2] at hR3
      exact ⟨fun k hk => hfresh k (by simp [Value.ownBlock] at hk; omega), (Kd.R_lower hR3 hbase).2⟩
end Go.Proofs.YtccenpmaooailaaGreat.Ci

/- What is put into a list of occurrences comes to. -/
set_option linter.unusedVariables false
set_option linter.unusedSimpArgs false
namespace Go.Proofs.YtccenpmaooailaaGreat.Ce
open Go.RowKit Go.Proofs.YtccenpmaooailaaGreatW.PrintWords Go.Proofs.YtccenpmaooailaaGreat.Wd Go.Proofs.YtccenpmaooailaaGreat.Pu Go.Proofs.YtccenpmaooailaaGreat.Ca Go.Proofs.YtccenpmaooailaaGreat.Cp Go.Proofs.YtccenpmaooailaaGreat.Cd Go.Proofs.YtccenpmaooailaaGreat.Ci

theorem at_hit {l : List Occ} {o : Occ} {p : Nat} (hs : Sorted l) (h : At l o p) (hh : hit l o p = true) : put l o = l := by
  unfold hit at hh
  simp only [Bool.and_eq_true, decide_eq_true_eq] at hh
  have e := (cmpO_eq _ _).1 hh.2
  exact put_mem hs (by rw [← e, List.getD_eq_getElem?_getD, List.getElem?_eq_getElem hh.1]; exact List.getElem_mem _)
theorem at_ins {l : List Occ} {o : Occ} {p : Nat} (hs : Sorted l) (h : At l o p) (hh : hit l o p = false) : insO l p o = put l o := by
  have hi : ∀ j, p ≤ j → j < l.length → lt o (l.getD j zO) := by
    intro j hj hjl
    have hp : p < l.length := by omega
    have hne : cmpO (l.getD p zO) o ≠ 0 := by
      intro e
      have ht : hit l o p = true := by
        unfold hit
        rw [e]
        simp [hp]
      rw [ht] at hh
      cases hh
    have h1 : lt o (l.getD p zO) := by
      rcases lt_tri (l.getD p zO) o with e | e | e
      · exact absurd e (h.hi p (Nat.le_refl _) hp)
      · exact absurd ((cmpO_eq _ _).2 e) hne
      · exact e
    by_cases e : j = p
    · rw [e]; exact h1
    · exact lt_trans h1 (sorted_getD hs (by omega) hjl)
  refine sorted_ext ?_ (sorted_put hs) (fun z => ?_)
  · unfold insO Sorted
    refine List.pairwise_append.2 ⟨hs.sublist (List.take_sublist _ _), List.pairwise_cons.2 ⟨?_, hs.sublist (List.drop_sublist _ _)⟩, ?_⟩
    · intro x hx
      obtain ⟨j, hj, rfl⟩ := List.mem_iff_getElem.1 hx
      rw [List.length_drop] at hj
      have := hi (p + j) (by omega) (by omega)
      rw [List.getD_eq_getElem?_getD, List.getElem?_eq_getElem (by omega)] at this
      simpa using this
    · intro x hx y hy
      obtain ⟨j, hj, rfl⟩ := List.mem_iff_getElem.1 hx
      rw [List.length_take] at hj
      have h1 := h.lo j (by omega)
      rw [List.getD_eq_getElem?_getD, List.getElem?_eq_getElem (by omega)] at h1
      replace h1 : lt (List.take p l)[j] o := by simpa using h1
      rcases List.mem_cons.1 hy with rfl | hy
      · exact h1
      · obtain ⟨k, hk, rfl⟩ := List.mem_iff_getElem.1 hy
        rw [List.length_drop] at hk
        have h2 := hi (p + k) (by omega) (by omega)
        rw [List.getD_eq_getElem?_getD, List.getElem?_eq_getElem (by omega)] at h2
        exact lt_trans h1 (by simpa using h2)
  · rw [mem_put]
    unfold insO
    rw [List.mem_append, List.mem_cons]
    conv => rhs; rw [← List.take_append_drop p l, List.mem_append]
    constructor
    · rintro (h | h | h)
      · exact .inr (.inl h)
      · exact .inl h
      · exact .inr (.inr h)
    · rintro (h | h | h)
      · exact .inr (.inl h)
      · exact .inl h
      · exact .inr (.inr h)
theorem len_put (l : List Occ) (o : Occ) : (put l o).length ≤ l.length + 1 := by
  induction l with
  | nil => simp [put]
  | cons x l ih => unfold put; repeat' split
                   all_goals simp; try omega
/-- a list that was read by a memory is read by a later one -/
theorem C_fixed {α : Type} {d : Kd α} {w w' : World} {A : Option Addr} {n : Nat} {xs : List α} (h : (Kd.fixed d w).C w' A n xs) (hb : Below w.heap.size w w') : d.C w' A n xs :=
  ⟨h.1, h.2.1, fun h0 => by obtain ⟨ad, e, hc⟩ := h.2.2 h0; exact ⟨ad, e, fun j p hj => by obtain ⟨c, h1, h2, h3⟩ := hc j p hj; exact ⟨c, h1, d.K_below hb h2, h3⟩⟩⟩
theorem keepD {W w3 : World} (h : Below W.drew.heap.size W.drew w3) : Below W.heap.size W w3 := ⟨h.os, h.tape, h.output, h.size, h.block⟩
theorem keepA {W w3 : World} {ob : Obj} (h : Below (W.alloc ob).drew.heap.size (W.alloc ob).drew w3) : Below W.heap.size W w3 := below_then (below_alloc (Below.refl _ _) ob) (by simp) (keepD h)

set_option maxHeartbeats 2000000 in
set_option maxRecDepth 100000 in
theorem put_any (A B : Option Addr) (c c2 : Nat) (l : List Occ) (o : Occ) (w : World) (hs : Sorted l) (hl : l.length ≤ 1048576) (hlc : l.length ≤ c) (hr : kO.C w A l.length l) (ho : IsO w o B c2) :
    Calls Tryz.prog 65 #[.slice A l.length c, .agg #[.int .i64 o.f0, .int .i64 o.f1, .slice B o.f2.length c2]] w fun e w' =>
      ∃ A' c', e = .returned (.slice A' (put l o).length c') ∧ (put l o).length ≤ c' ∧ kO.C w' A' (put l o).length (put l o) ∧ Below w.heap.size w w' := by
  have k0 : (w.alloc (.cells #[.int .i64 o.f0, .int .i64 o.f1, .slice B o.f2.length c2] 43)).cell? ⟨w.heap.size, 0, none⟩ = some (.int .i64 o.f0) := by simp
  have k1 : (w.alloc (.cells #[.int .i64 o.f0, .int .i64 o.f1, .slice B o.f2.length c2] 43)).cell? ⟨w.heap.size, 1, none⟩ = some (.int .i64 o.f1) := by simp
  have k2 : (w.alloc (.cells #[.int .i64 o.f0, .int .i64 o.f1, .slice B o.f2.length c2] 43)).cell? ⟨w.heap.size, 2, none⟩ = some (.slice B o.f2.length c2) := by simp
  have hb0 := below_alloc (Below.refl w.heap.size w) (.cells #[.int .i64 o.f0, .int .i64 o.f1, .slice B o.f2.length c2] 43)
  go_enter Tryz.func65, Tryz.ntmps65
  go_wp2_with ((go_at_call 103; refine (bs_any A B c c2 l o _ hs hl (Kd.C_below hr hb0) (ho.below hb0)).mono ?_; rintro e w1 ⟨p, hAt, rfl, hb1⟩; have q0 := pw_cell_below hb1 k0; have q1 := pw_cell_below hb1 k1; have q2 := pw_cell_below hb1 k2; have HB := Aside0.mk (below_then hb0 hb0.size hb1); have HA := Aside0.mk hAt; clear hb1 hAt; cases hhit : hit l o p))
  all_goals have HH := Aside0.mk hhit; clear hhit
  · have hE := at_ins hs HA.out HH.out
    have hple := HA.out.le
    have hrW := Kd.C_below hr HB.out
    have hoW := ho.below HB.out
    have hHW : w.heap.size < w1.heap.size := World.block_lt_of_cell? w1 _ q0
    clear k0 k1 k2 hb0 hr ho
    have hn1 : w.heap.size ≠ w1.heap.size := by omega
    have d0 : w1.drew.cell? ⟨w.heap.size, 0, none⟩ = some (.int .i64 o.f0) := q0
    have d1 : w1.drew.cell? ⟨w.heap.size, 1, none⟩ = some (.int .i64 o.f1) := q1
    have d2 : w1.drew.cell? ⟨w.heap.size, 2, none⟩ = some (.slice B o.f2.length c2) := q2
    have a0 := fun ob => pw_cell_below (below_alloc (Below.refl w1.heap.size w1) ob) q0
    have a1 := fun ob => pw_cell_below (below_alloc (Below.refl w1.heap.size w1) ob) q1
    have a2 := fun ob => pw_cell_below (below_alloc (Below.refl w1.heap.size w1) ob) q2
    have g0 := fun ob => pw_cell_below (below_drew (below_alloc (Below.refl w1.heap.size w1) ob)) q0
    have g1 := fun ob => pw_cell_below (below_drew (below_alloc (Below.refl w1.heap.size w1) ob)) q1
    have g2 := fun ob => pw_cell_below (below_drew (below_alloc (Below.refl w1.heap.size w1) ob)) q2
    go_wp2
    go_region_held3 (fun w' => w'.cell? ⟨w.heap.size, 0, none⟩ = some (.int .i64 o.f0) ∧ w'.cell? ⟨w.heap.size, 1, none⟩ = some (.int .i64 o.f1) ∧ w'.cell? ⟨w.heap.size, 2, none⟩ = some (.slice B o.f2.length c2)) (first | (with_reducible exact ⟨d0, d1, d2⟩) | (with_reducible exact ⟨f0, f1, f2⟩) | (with_reducible exact ⟨e0, e1, e2⟩) | (with_reducible exact ⟨a0 _, a1 _, a2 _⟩) | (with_reducible exact ⟨g0 _, g1 _, g2 _⟩) | (with_reducible exact ⟨pw_cell_below (below_alloc (Below.refl _ _) _) e0, pw_cell_below (below_alloc (Below.refl _ _) _) e1, pw_cell_below (below_alloc (Below.refl _ _) _) e2⟩))
      (first
        | (go_at_call 105; refine (cloneS_any A c l _ hl hlc (by first | exact Kd.C_drew hrW | exact Kd.C_drew (Kd.C_below hrW (below_alloc (Below.refl _ _) _)))).mono ?_; rintro e w3 ⟨v3, rfl, hR3, hb3⟩; have hk3 : Below w1.heap.size w1 w3 := by { first | exact keepD hb3 | exact keepA hb3 }; have e0 := pw_cell_below hk3 q0; have e1 := pw_cell_below hk3 q1; have e2 := pw_cell_below hk3 q2)
        | (go_at_call 104; refine (insert_any w1.drew w1.heap.size (fun _ => True) v3 l p o w3.heap.size [.int .i64 o.f0, .int .i64 o.f1, .slice B o.f2.length c2] _ hl hple (Kd.R_alloc hR3 _) (blk_new _ _) (kO_mk w1.drew o hoW.1 hoW.2) (fun h => by have := Kd.R_lt hR3 _ h.symm; omega) (Nat.le_trans hk3.size (by simp)) (fun _ _ => trivial)).mono ?_; rintro e w4 ⟨v4, rfl, hR4, hg4⟩; obtain ⟨A4, c4, rfl⟩ := Kd.R_slice hR4; have hk4 : Below w1.heap.size w1 w4 := Below.grown (hk3.alloc hk3.size _) hg4 (Nat.le_trans hk3.size (by simp)) (fun k hk => Kd.R_base hR3 k hk); have hkf : Below w1.drew.heap.size w1.drew w4 := ⟨hk4.os, hk4.tape, hk4.output, hk4.size, hk4.block⟩; have f0 := pw_cell_below hk4 q0; have f1 := pw_cell_below hk4 q1; have f2 := pw_cell_below hk4 q2)
        | (go_at_call 104; refine (insert_any _ _ (fun _ => True) v3 l p o w1.heap.size [.int .i64 o.f0, .int .i64 o.f1, .slice B o.f2.length c2] _ hl hple hR3 (blk_below (blk_drew (blk_new _ _)) hb3) (kO_mk _ o hoW.1 (Kd.C_drew (Kd.C_below hoW.2 (below_alloc (Below.refl _ _) _)))) (fun h => by have h1 := Kd.R_base hR3 _ h.symm; have h2 : w1.heap.size + 1 ≤ w1.heap.size := by { simpa using h1 }; omega) hb3.size (fun _ _ => trivial)).mono ?_; rintro e w4 ⟨v4, rfl, hR4, hg4⟩; obtain ⟨A4, c4, rfl⟩ := Kd.R_slice hR4; have hk4 : Below w1.heap.size w1 w4 := Below.grown hk3 hg4 hk3.size (fun k hk => by have h1 := Kd.R_base hR3 k hk; have h2 : w1.heap.size + 1 ≤ k := by { simpa using h1 }; omega); have hkf := Below.grown hb3 hg4 hb3.size (fun k hk => Kd.R_base hR3 k hk); have f0 := pw_cell_below hk4 q0; have f1 := pw_cell_below hk4 q1; have f2 := pw_cell_below hk4 q2))
    all_goals
      go_wp2
      go_ret
      rw [← hE]
      have hq := Kd.R_reads' hR4
      exact ⟨A4, c4, rfl, hq.2.1, C_fixed hq.2.2 hkf, below_then HB.out HB.out.size hk4⟩
  · have hE := at_hit hs HA.out HH.out
    go_wp2
    go_ret
    exact ⟨A, c, by rw [hE]; rfl, by rw [hE]; exact hlc, by rw [hE]; exact Kd.C_below hr HB.out, HB.out⟩
end Go.Proofs.YtccenpmaooailaaGreat.Ce

/- What is put into a list of occurrences comes to: many. -/
set_option linter.unusedVariables false
set_option linter.unusedSimpArgs false
namespace Go.Proofs.YtccenpmaooailaaGreat.Cf
open Go.RowKit Go.Proofs.YtccenpmaooailaaGreatW.PrintWords Go.Proofs.YtccenpmaooailaaGreat.Wd Go.Proofs.YtccenpmaooailaaGreat.Pu Go.Proofs.YtccenpmaooailaaGreat.Ca Go.Proofs.YtccenpmaooailaaGreat.Cp Go.Proofs.YtccenpmaooailaaGreat.Cd Go.Proofs.YtccenpmaooailaaGreat.Ci Go.Proofs.YtccenpmaooailaaGreat.Ce

theorem box3 (w : World) (u0 u1 u2 : Value) (t : TypeId) : Below w.heap.size w (w.alloc (.cells #[u0, u1, u2] t)) ∧ (w.alloc (.cells #[u0, u1, u2] t)).cell? ⟨w.heap.size, 0, none⟩ = some u0 ∧
    (w.alloc (.cells #[u0, u1, u2] t)).cell? ⟨w.heap.size, 1, none⟩ = some u1 ∧ (w.alloc (.cells #[u0, u1, u2] t)).cell? ⟨w.heap.size, 2, none⟩ = some u2 := ⟨below_alloc (Below.refl _ _) _, by simp, by simp, by simp⟩
theorem take_succ_getD {α : Type} (l : List α) (k : Nat) (z : α) (h : k < l.length) : l.take (k + 1) = l.take k ++ [l.getD k z] := by
  rw [List.take_add_one, List.getD_eq_getElem?_getD, List.getElem?_eq_getElem h]; rfl
theorem len_putAll (l : List Occ) : ∀ os : List Occ, (putAll l os).length ≤ l.length + os.length := by
  intro os
  induction os generalizing l with
  | nil => simp [putAll]
  | cons x os ih =>
    rw [putAll]
    have := ih (put l x)
    have := len_put l x
    simp only [List.length_cons]
    omega

/-- a list in memory with its capacity -/
structure IsL (w : World) (l : List Occ) (A : Option Addr) (c : Nat) : Prop where
  cap : l.length ≤ c
  rd : kO.C w A l.length l
theorem IsL.below {w w' : World} {l : List Occ} {A : Option Addr} {c : Nat} (h : IsL w l A c) (hb : Below w.heap.size w w') : IsL w' l A c := ⟨h.cap, Kd.C_below h.rd hb⟩
set_option maxRecDepth 100000 in
theorem putAll_any (A B : Option Addr) (c c2 : Nat) (l m : List Occ) (w : World) (hs : Sorted l) (hl : l.length + m.length ≤ 1048576) (hL : IsL w l A c) (hM : IsL w m B c2) :
    Calls Tryz.prog 71 #[.slice A l.length c, .slice B m.length c2] w fun e w' =>
      ∃ A' c', e = .returned (.slice A' (putAll l m).length c') ∧ IsL w' (putAll l m) A' c' ∧ Below w.heap.size w w' := by
  go_enter Tryz.func71, Tryz.ntmps71
  go_wp2
  go_loopw [0, 9] (fun vl vi wr => ∃ (k : Nat) (A' : Option Addr) (n c' : Nat), k ≤ m.length ∧ vi = .int .i64 k ∧ vl = .slice A' n c' ∧ Aside0 (n = (putAll l (m.take k)).length ∧ IsL wr (putAll l (m.take k)) A' c') ∧ Aside0 (Below w.heap.size w wr)) (fun _ vi _ => m.length - (intOf vi).toNat)
  case atStart => exact ⟨0, A, l.length, c, by omega, rfl, rfl, ⟨by simp [putAll], by simpa [putAll] using hL⟩, ⟨Below.refl _ _⟩⟩
  case round =>
    obtain ⟨k, A1, n, c1, hk, rfl, rfl, HI, HB⟩ := hrel
    by_cases hlt : k < m.length
    · obtain ⟨ad, A2, c3, rfl, ha, hb, hc, hl2, hC2⟩ := atO (hM.below HB.out).rd k hlt
      have hT := take_succ_getD m k zO hlt
      have hIs : IsO wr (m.getD k zO) A2 c3 := ⟨hl2, hC2⟩
      have hln := len_putAll l (m.take k)
      rw [List.length_take] at hln
      clear hl2 hC2
      generalize m.getD k zO = o at ha hb hc hIs hT
      have HT := Aside0.mk hT
      obtain ⟨hn, hL1⟩ := HI.out
      have HL := Aside0.mk hL1
      have hsp : Sorted (putAll l (m.take k)) := sorted_putAll hs
      have HE := Aside0.mk (show putAll l (m.take (k + 1)) = put (putAll l (m.take k)) o by rw [hT, putAll_append]; rfl)
      clear hT HI hL1
      generalize putAll l (m.take k) = L at *
      subst hn
      go_wp2_with ((go_at_call 65; refine (put_any A1 A2 c1 c3 L o _ hsp (by omega) HL.out.cap (HL.out.below (box3 _ _ _ _ _).1).rd (hIs.below (box3 _ _ _ _ _).1)).mono ?_; rintro e w2 ⟨A3, c4, rfl, h1, h2, h3⟩; have HB2 := Aside0.mk (below_then HB.out HB.out.size (below_then (box3 _ _ _ _ _).1 (box3 _ _ _ _ _).1.size h3)); have HL2 := Aside0.mk (IsL.mk h1 h2); clear h1 h2 h3))
      go_roundw
      case rel => exact ⟨k + 1, A3, _, c4, by omega, by go_num, rfl, ⟨by rw [HE.out], by rw [HE.out]; exact HL2.out⟩, HB2⟩
      case measure => simp [intOf]; omega
    · have hke : k = m.length := by omega
      subst hke
      have HL := HI.out
      rw [List.take_length] at HL
      obtain ⟨hn, HL⟩ := HL
      go_wp2
      go_ret
      exact ⟨A1, c1, by rw [← hn]; rfl, HL, HB.out⟩

set_option maxRecDepth 100000 in
theorem clone_any (A : Option Addr) (c : Nat) (o : Occ) (w : World) (ho : IsO w o A c) (hl : o.f2.length ≤ 1048576) :
    Calls Tryz.prog 86 #[.agg #[.int .i64 o.f0, .int .i64 o.f1, .slice A o.f2.length c]] w fun e w' =>
      ∃ v, e = .returned (.agg #[.int .i64 o.f0, .int .i64 o.f1, v]) ∧ (Kd.int .i64).R 3 w' w.heap.size (fun _ => True) v o.f2 ∧ Below w.heap.size w w' := by
  have hb1 := below_alloc (below_alloc (Below.refl w.heap.size w) (.cells #[.int .i64 o.f0, .int .i64 o.f1, .slice A o.f2.length c] 43)) (.cells #[.int .i64 0, .int .i64 0, .slice none 0 0] 43)
  have hr := Kd.C_below ho.2 hb1
  have b1 : ((w.alloc (.cells #[.int .i64 o.f0, .int .i64 o.f1, .slice A o.f2.length c] 43)).alloc (.cells #[.int .i64 0, .int .i64 0, .slice none 0 0] 43)).heap[w.heap.size]? = some (.cells #[.int .i64 o.f0, .int .i64 o.f1, .slice A o.f2.length c] 43 (0, 0)) := blk_alloc (blk_new _ _) _
  have b2 : ((w.alloc (.cells #[.int .i64 o.f0, .int .i64 o.f1, .slice A o.f2.length c] 43)).alloc (.cells #[.int .i64 0, .int .i64 0, .slice none 0 0] 43)).heap[w.heap.size + 1]? = some (.cells #[.int .i64 0, .int .i64 0, .slice none 0 0] 43 (0, 0)) := by
    have := blk_new (w.alloc (.cells #[.int .i64 o.f0, .int .i64 o.f1, .slice A o.f2.length c] 43)) (.cells #[.int .i64 0, .int .i64 0, .slice none 0 0] 43)
    simpa using this
  have hn1 : w.heap.size ≠ w.heap.size + 1 := by omega
  go_enter Tryz.func86, Tryz.ntmps86
  go_wp2_with (first
      | ((with_reducible refine gate_dst (N := 5) rfl ?_); refine Kd.R_append_rows (Kd.int .i64) (w0 := w) w.heap.size rfl _ _ 41 3 (.int .i64 0) 8 rfl Tryz.underlying41 Cc.infoI rfl (by decide) (by decide) (.slice none 0 0) [] _ _ _ _ (fun _ => True) (fun _ => False) rfl rfl (Kd.R_nil _ _ _ _ _) hr (fun _ _ h => h) (fun _ h => h.elim) (fun _ _ => trivial) hb1 hb1.size (by simp; omega) ?_; intro v2 w2 ho2 hb2 hg2 _; obtain ⟨A2, c2, rfl⟩ := Kd.R_slice ho2; have br := blk_grown b1 hg2 (by simp [Value.ownBlock]); have br2 := blk_grown b2 hg2 (by simp [Value.ownBlock]); have s0 := (blk_cell br 0).trans rfl; have s1 := (blk_cell br 1).trans rfl; have s2 := (blk_cell br 2).trans rfl; have hf2 := blk_frozen br 2; have q0 := (blk_cell br2 0).trans rfl; have q1 := (blk_cell br2 1).trans rfl; have q2 := (blk_cell br2 2).trans rfl; have g0 := blk_frozen br2 0; have g1 := blk_frozen br2 1; have g2 := blk_frozen br2 2; have HO := Aside0.mk ho2; have HB := Aside0.mk hb2; have HG := Aside0.mk hg2; clear ho2 hb2 hg2))
  have e1 := blk_far br2 (p := ⟨w.heap.size, 2, none⟩) (by simp) (.slice A2 ([] ++ o.f2).length c2)
  refine bodyPost_ret (results_cell_row rfl _ _ (w.heap.size + 1) 43 #[.int .i64 o.f0, .int .i64 o.f1, .slice A2 ([] ++ o.f2).length c2] (0, 0) _ rfl (blk_put (cs := #[.int .i64 o.f0, .int .i64 o.f1, .slice none 0 0]) (blk_put (cs := #[.int .i64 o.f0, .int .i64 0, .slice none 0 0]) (blk_put e1 0 _ rfl) 1 _ rfl) 2 _ rfl) Tryz.underlying43 rfl (by kernel_rfl)) rfl ?_
  have r0 := Kd.R_set HO.out br (by decide) 2 (.slice A2 ([] ++ o.f2).length c2)
  have r1 := Kd.R_set r0 e1 (by decide) 0 (.int .i64 o.f0)
  have d1 := blk_set e1 0 (.int .i64 o.f0)
  have r2 := Kd.R_set r1 d1 (by decide) 1 (.int .i64 o.f1)
  have d2 := blk_set d1 1 (.int .i64 o.f1)
  have r3 := Kd.R_set r2 d2 (by decide) 2 (.slice A2 ([] ++ o.f2).length c2)
  exact ⟨_, rfl, r3, (((HB.out.setCell (p := ⟨w.heap.size, 2, none⟩) (by simp) _).setCell (p := ⟨w.heap.size + 1, 0, none⟩) (by simp) _).setCell (p := ⟨w.heap.size + 1, 1, none⟩) (by simp) _).setCell (p := ⟨w.heap.size + 1, 2, none⟩) (by simp) _⟩

set_option maxRecDepth 100000 in
theorem cloneOccs_any (A : Option Addr) (c : Nat) (l : List Occ) (w : World) (hl : l.length ≤ 1048576) (hi : ∀ x ∈ l, x.f2.length ≤ 1048576) (hL : IsL w l A c) :
    Calls Tryz.prog 46 #[.slice A l.length c] w fun e w' =>
      ∃ v, e = .returned v ∧ Kd.S kO 43 w' w.heap.size (fun _ => True) v l ∧ Below w.heap.size w w' := by
  go_enter Tryz.func46, Tryz.ntmps46
  go_wp2
  go_loopw [3, 8] (fun vl' vi wr => ∃ (k : Nat) (vl : Value), k ≤ l.length ∧ vi = .int .i64 k ∧ vl = vl' ∧ Aside0 (Kd.S kO 43 wr w.heap.size (fun _ => True) vl (l.take k)) ∧ Aside0 (Below w.heap.size w wr)) (fun _ vi _ => l.length - (intOf vi).toNat)
  case atStart => exact ⟨0, _, by omega, rfl, rfl, ⟨by simpa using Kd.S_nil kO 43 w w.heap.size (fun _ => True)⟩, ⟨Below.refl _ _⟩⟩
  case round =>
    obtain ⟨k, vl, hk, rfl, rfl, HS, HB⟩ := hrel
    by_cases hlt : k < l.length
    · obtain ⟨ad, A2, c3, rfl, ha, hb, hc, hl2, hC2⟩ := atO (hL.below HB.out).rd k hlt
      have hT := take_succ_getD l k zO hlt
      have hIs : IsO wr (l.getD k zO) A2 c3 := ⟨hl2, hC2⟩
      have hid : (l.getD k zO).f2.length ≤ 1048576 := hi _ (by rw [List.getD_eq_getElem?_getD, List.getElem?_eq_getElem hlt]; exact List.getElem_mem _)
      have htl : (l.take k).length = k := by rw [List.length_take]; omega
      clear hl2 hC2
      generalize l.getD k zO = o at ha hb hc hIs hT hid
      have HT := Aside0.mk hT
      clear hT
      have hown : ∀ j, vl.ownBlock = some j → j < wr.heap.size := Kd.S_lt HS.out
      go_wp2_with (first
        | (go_at_call 86; refine (clone_any A2 c3 o _ (hIs.below (box3 _ _ _ _ _).1) hid).mono ?_; rintro e w2 ⟨v2, rfl, hr2, hb2⟩; have HR2 := Aside0.mk hr2; have HB2 := Aside0.mk (below_then (box3 _ _ _ _ _).1 (box3 _ _ _ _ _).1.size hb2); clear hr2 hb2)
        | ((with_reducible refine gate_dst (N := 16) rfl ?_); refine Kd.S_append kO (w0 := w) w.heap.size rfl _ _ 23 43 (.agg #[.int .i64 0, .int .i64 0, .slice none 0 0]) 40 rfl Tryz.underlying23 infoO rfl (by decide) (by decide) vl (l.take k) o [.int .i64 o.f0, .int .i64 o.f1, v2] (fun _ => True) (fun j => wr.heap.size ≤ j) rfl rfl (kO_mkM _ _ _ o (Kd.R_lower (Kd.R_mono (Kd.R_bound HR2.out) (fun j hj => by have h1 := hj.2.1; simp at h1; omega)) (Nat.le_trans HB.out.size (box3 _ _ _ _ _).1.size))) (fun j hj => ⟨trivial, fun h => by have := hown j h.symm; omega⟩) (fun _ _ => trivial) (Kd.S_below (Kd.S_mono (Kd.S_bound HS.out) (fun j hj => ⟨trivial, by have := hj.2.2.1; omega⟩)) HB2.out) (below_then HB.out HB.out.size HB2.out) (Nat.le_trans HB.out.size HB2.out.size) (by rw [htl]; omega) ?_; intro v3 w3 hs3 hb3 _ _; have HS3 := Aside0.mk hs3; have HB3 := Aside0.mk hb3; clear hs3 hb3))
      go_roundw
      case rel => exact ⟨k + 1, _, by omega, by go_num, rfl, ⟨by rw [HT.out]; exact HS3.out⟩, HB3⟩
      case measure => simp [intOf]; omega
    · have hke : k = l.length := by omega
      subst hke
      have HL := HS.out
      rw [List.take_length] at HL
      go_wp2
      go_ret
      exact ⟨_, rfl, HL, HB.out⟩
end Go.Proofs.YtccenpmaooailaaGreat.Cf

/- OccsSame, OccsPut, OccJoin: the program's. -/
set_option linter.unusedVariables false
set_option linter.unusedSimpArgs false
namespace Go.Proofs.YtccenpmaooailaaGreat.Cg
open Go.RowKit Go.Proofs.YtccenpmaooailaaGreatW.PrintWords Go.Proofs.YtccenpmaooailaaGreat.Wd Go.Proofs.YtccenpmaooailaaGreat.Pu Go.Proofs.YtccenpmaooailaaGreat.Ca Go.Proofs.YtccenpmaooailaaGreat.Cb Go.Proofs.YtccenpmaooailaaGreat.Cc Go.Proofs.YtccenpmaooailaaGreat.Cp Go.Proofs.YtccenpmaooailaaGreat.Cd Go.Proofs.YtccenpmaooailaaGreat.Ci Go.Proofs.YtccenpmaooailaaGreat.Ce Go.Proofs.YtccenpmaooailaaGreat.Cf


theorem same1_any (x y : Occ) (A B : Option Addr) (c c2 : Nat) (w : World) (hx : IsO w x A c) (hy : IsO w y B c2) :
    Calls Tryz.prog 54 #[.agg #[.int .i64 x.f0, .int .i64 x.f1, .slice A x.f2.length c], .agg #[.int .i64 y.f0, .int .i64 y.f1, .slice B y.f2.length c2]] w fun e w' => e = .returned (.bool (decide (cmpO x y = 0))) ∧ Below w.heap.size w w' := by
  have hb : Below w.heap.size w ((w.alloc (.cells #[.int .i64 x.f0, .int .i64 x.f1, .slice A x.f2.length c] 43)).alloc (.cells #[.int .i64 y.f0, .int .i64 y.f1, .slice B y.f2.length c2] 43)) := by repeat (first | exact Below.refl _ _ | apply below_alloc)
  have hcl := compare_any x y A B c c2 _ (hx.below hb) (hy.below hb)
  go_enter Tryz.func54, Tryz.ntmps54
  go_wp2_with (go_at_call 55; refine hcl.mono ?_; rintro e w2 ⟨rfl, h2⟩; have HB := Aside0.mk (below_then hb hb.size h2))
  go_ret
  exact ⟨ret_bool (by rw [Bool.eq_iff_iff]; simp), HB.out⟩

set_option maxRecDepth 100000 in
theorem equalF_any (A B : Option Addr) (c c2 : Nat) (a b : List Occ) (w : World) (ha : kO.C w A a.length a) (hb : kO.C w B b.length b) :
    Calls Tryz.prog 53 #[.slice A a.length c, .slice B b.length c2, .func (.func 54) #[] #[]] w fun e w' => e = .returned (.bool (decide (a = b))) ∧ Below w.heap.size w w' := by
  have hna := (C_len ha).2
  by_cases hl : a.length = b.length
  · have hl2 : ((a.length : Int) == (b.length : Int)) = true := by simp; omega
    have hl3 : decide ((a.length : Int) = b.length) = true := by simp; omega
    have hl4 : (a.length : Int) = b.length := by omega
    have HL := Aside0.mk hl
    clear hl
    go_enter Tryz.func53, Tryz.ntmps53
    go_wp2
    go_loopw [17] (fun vi wr => ∃ (k : Nat), k ≤ a.length ∧ vi = .int .i64 k ∧ Aside0 (a.take k = b.take k) ∧ Aside0 (Below w.heap.size w wr)) (fun vi _ => a.length - (intOf vi).toNat)
    case atStart => exact ⟨0, by omega, rfl, ⟨rfl⟩, ⟨Below.refl _ _⟩⟩
    case round =>
      obtain ⟨k, hk, rfl, HT, HB⟩ := hrel
      by_cases hlt : k < a.length
      · have hlt2 : k < b.length := by have := HL.out; omega
        obtain ⟨ad, A2, c3, rfl, pa, pb, pc, hl2, hC2⟩ := atO (Kd.C_below ha HB.out) k hlt
        obtain ⟨bd, B2, c4, rfl, qa, qb, qc, hm2, hD2⟩ := atO (Kd.C_below hb HB.out) k hlt2
        have hx : IsO wr (a.getD k zO) A2 c3 := ⟨hl2, hC2⟩
        have hy : IsO wr (b.getD k zO) B2 c4 := ⟨hm2, hD2⟩
        have HE := Aside0.mk (And.intro (take_succ_getD a k zO hlt) (take_succ_getD b k zO hlt2))
        have HF := Aside0.mk (And.intro (drop_at a zO k hlt) (drop_at b zO k hlt2))
        clear hl2 hC2 hm2 hD2
        generalize a.getD k zO = x at pa pb pc hx HE HF
        generalize b.getD k zO = y at qa qb qc hy HE HF
        have h3 := hlt2
        have qa2 := pw_cell_below (box3 wr (.int .i64 x.f0) (.int .i64 x.f1) (.slice A2 x.f2.length c3) 43).1 qa
        have qb2 := pw_cell_below (box3 wr (.int .i64 x.f0) (.int .i64 x.f1) (.slice A2 x.f2.length c3) 43).1 qb
        have qc2 := pw_cell_below (box3 wr (.int .i64 x.f0) (.int .i64 x.f1) (.slice A2 x.f2.length c3) 43).1 qc
        have hbw : Below wr.heap.size wr ((wr.alloc (.cells #[.int .i64 x.f0, .int .i64 x.f1, .slice A2 x.f2.length c3] 43)).alloc (.cells #[.int .i64 y.f0, .int .i64 y.f1, .slice B2 y.f2.length c4] 43)) := by repeat (first | exact Below.refl _ _ | apply below_alloc)
        have hcl := same1_any x y A2 B2 c3 c4 _ (hx.below hbw) (hy.below hbw)
        cases hd : decide (cmpO x y = 0) with
        | true =>
          rw [hd] at hcl
          have HX := Aside0.mk ((cmpO_eq x y).1 (of_decide_eq_true hd))
          clear hd
          go_wp2_with (go_at_call 54; refine hcl.mono ?_; rintro e w2 ⟨rfl, h2⟩; have HB2 := Aside0.mk (below_then HB.out HB.out.size (below_then hbw hbw.size h2)))
          go_roundw
          case rel => exact ⟨k + 1, by omega, by go_num, ⟨by rw [HE.out.1, HE.out.2, HT.out, HX.out]⟩, HB2⟩
          case measure => simp [intOf]; omega
        | false =>
          rw [hd] at hcl
          have HX := Aside0.mk (show ¬ a = b from fun e => of_decide_eq_false hd ((cmpO_eq x y).2 (by
            have h1 := HF.out.1; have h2 := HF.out.2; rw [e, h2] at h1; exact (List.cons.inj h1).1.symm)))
          clear hd
          go_wp2_with (go_at_call 54; refine hcl.mono ?_; rintro e w2 ⟨rfl, h2⟩; have HB2 := Aside0.mk (below_then HB.out HB.out.size (below_then hbw hbw.size h2)))
          go_ret
          exact ⟨ret_bool (decide_eq_false HX.out).symm, HB2.out⟩
      · have HX := Aside0.mk (show a = b by
          have h1 := HT.out
          rwa [List.take_of_length_le (by omega), List.take_of_length_le (by have := HL.out; omega)] at h1)
        go_wp2
        go_ret
        exact ⟨ret_bool (decide_eq_true HX.out).symm, HB.out⟩
  · have hl2 : ((a.length : Int) == (b.length : Int)) = false := by simp; omega
    have hl3 : decide ((a.length : Int) = b.length) = false := by simp; omega
    have hl4 : ¬ ((a.length : Int) = b.length) := by omega
    have HN := Aside0.mk (show ¬ a = b from fun e => hl (by rw [e]))
    clear hl
    go_enter Tryz.func53, Tryz.ntmps53
    go_wp2
    go_ret
    exact ⟨ret_bool (decide_eq_false HN.out).symm, Below.refl _ _⟩

theorem occsSame_any (A B : Option Addr) (c c2 : Nat) (a b : List Occ) (w : World) (ha : kO.C w A a.length a) (hb : kO.C w B b.length b) :
    Calls Tryz.prog 17 #[.slice A a.length c, .slice B b.length c2] w fun e w' => e = .returned (.bool (decide (a = b))) ∧ Below w.heap.size w w' := by
  have hcl := equalF_any A B c c2 a b w ha hb
  go_enter Tryz.func17, Tryz.ntmps17
  go_wp2_with (go_at_call 53; refine hcl.mono ?_; rintro e w2 ⟨rfl, h2⟩; have HB := Aside0.mk h2)
  go_ret
  exact ⟨rfl, HB.out⟩

theorem boxes3 (w : World) (cs0 cs1 cs2 : Array Value) (t0 t1 t2 : TypeId) :
    Below w.heap.size w (((w.alloc (.cells cs0 t0)).alloc (.cells cs1 t1)).alloc (.cells cs2 t2)) ∧
    (((w.alloc (.cells cs0 t0)).alloc (.cells cs1 t1)).alloc (.cells cs2 t2)).heap[w.heap.size]? = some (.cells cs0 t0 (0, 0)) ∧
    (((w.alloc (.cells cs0 t0)).alloc (.cells cs1 t1)).alloc (.cells cs2 t2)).heap[w.heap.size + 1]? = some (.cells cs1 t1 (0, 0)) ∧
    (((w.alloc (.cells cs0 t0)).alloc (.cells cs1 t1)).alloc (.cells cs2 t2)).heap[w.heap.size + 1 + 1]? = some (.cells cs2 t2 (0, 0)) := by
  refine ⟨by repeat (first | exact Below.refl _ _ | apply below_alloc), blk_alloc (blk_alloc (blk_new _ _) _) _, blk_alloc ?_ _, ?_⟩
  · have := blk_new (w.alloc (.cells cs0 t0)) (.cells cs1 t1)
    simpa using this
  · have := blk_new ((w.alloc (.cells cs0 t0)).alloc (.cells cs1 t1)) (.cells cs2 t2)
    simpa using this
def set3 (w : World) (G : Nat) (u0 u1 u2 : Value) : World := ((w.setCell ⟨G, 0, none⟩ u0).setCell ⟨G, 1, none⟩ u1).setCell ⟨G, 2, none⟩ u2
theorem set3_blk {w : World} {G : Nat} {t : TypeId} {z0 z1 z2 : Value} (u0 u1 u2 : Value) (b : w.heap[G]? = some (.cells #[z0, z1, z2] t (0, 0))) : (set3 w G u0 u1 u2).heap[G]? = some (.cells #[u0, u1, u2] t (0, 0)) :=
  blk_put (cs := #[u0, u1, z2]) (blk_put (cs := #[u0, z1, z2]) (blk_put b 0 _ rfl) 1 _ rfl) 2 _ rfl
theorem set3_below {w0 w : World} {B G : Nat} (h : Below B w0 w) (hG : B ≤ G) (u0 u1 u2 : Value) : Below B w0 (set3 w G u0 u1 u2) := ((h.setCell (p := ⟨G, 0, none⟩) hG _).setCell (p := ⟨G, 1, none⟩) hG _).setCell (p := ⟨G, 2, none⟩) hG _
theorem set3_R {α : Type} {d : Kd α} {e : Nat} {w : World} {base G : Nat} {ok : Nat → Prop} {v : Value} {xs : List α} {t : TypeId} {cs : Array Value} (h : d.R e w base ok v xs) (b : w.heap[G]? = some (.cells cs t (0, 0))) (ht : ∀ q, q ∈ e :: d.E → q ≠ t) (u0 u1 u2 : Value) :
    d.R e (set3 w G u0 u1 u2) base ok v xs := Kd.R_set (Kd.R_set (Kd.R_set h b ht 0 u0) (blk_set b 0 u0) ht 1 u1) (blk_set (blk_set b 0 u0) 1 u1) ht 2 u2
def putO (l : List Occ) (o : Occ) : List Occ := if okOs l && okO o then put l o else []
theorem box1 (w : World) (u0 u1 u2 : Value) (t : TypeId) : (w.alloc (.cells #[u0, u1, u2] t)).heap[w.heap.size]? = some (.cells #[u0, u1, u2] t (0, 0)) := blk_new _ _

set_option maxHeartbeats 1000000 in
set_option maxRecDepth 100000 in
theorem occsPut_any (A B : Option Addr) (c c2 : Nat) (l : List Occ) (o : Occ) (w : World) (hl : IsL w l A c) (ho : IsO w o B c2) (ll : l.length ≤ 1048575) (lo : o.f2.length ≤ 1048576) (li : ∀ x ∈ l, x.f2.length ≤ 1048576) :
    Calls Tryz.prog 25 #[.slice A l.length c, .agg #[.int .i64 o.f0, .int .i64 o.f1, .slice B o.f2.length c2]] w fun e w' =>
      ∃ v, e = .returned v ∧ Kd.S kO 43 w' w.heap.size (fun _ => True) v (putO l o) ∧ Below w.heap.size w w' := by
  obtain ⟨hb, k0, k1, k2⟩ := box3 w (.int .i64 o.f0) (.int .i64 o.f1) (.slice B o.f2.length c2) 43
  have hcl := occsOk_any A c l _ (hl.below hb).rd
  cases hql : okOs l with
  | false =>
    have HE := Aside0.mk (show putO l o = [] by unfold putO; rw [hql]; rfl)
    rw [hql] at hcl
    clear hql
    go_enter Tryz.func25, Tryz.ntmps25
    go_wp2_with (go_at_call 57; refine hcl.mono ?_; rintro e w2 ⟨rfl, h2⟩; have HB := Aside0.mk (below_then hb hb.size h2); clear h2)
    go_ret
    exact ⟨_, rfl, by rw [HE.out]; exact Kd.S_nil _ _ _ _ _, HB.out⟩
  | true =>
    have HL := Aside0.mk (okOs_iff.1 hql).1
    have hco := fun (w2 : World) (h : Below w.heap.size w w2) => occOk_any o B c2 w2 (ho.below h)
    cases hqo : okO o with
    | false =>
      have HE := Aside0.mk (show putO l o = [] by unfold putO; rw [hql, hqo]; rfl)
      rw [hql] at hcl
      rw [hqo] at hco
      clear hql hqo
      go_enter Tryz.func25, Tryz.ntmps25
      go_wp2_with (first
        | (go_at_call 64; refine (hco _ HB.out).mono ?_; rintro e w3 ⟨rfl, h3⟩; have HB3 := Aside0.mk (below_then HB.out HB.out.size h3); clear h3)
        | (go_at_call 57; refine hcl.mono ?_; rintro e w2 ⟨rfl, h2⟩; have p0 := pw_cell_below h2 k0; have p1 := pw_cell_below h2 k1; have p2 := pw_cell_below h2 k2; have HB := Aside0.mk (below_then hb hb.size h2); clear h2))
      go_ret
      exact ⟨_, rfl, by rw [HE.out]; exact Kd.S_nil _ _ _ _ _, HB3.out⟩
    | true =>
      have HE := Aside0.mk (show putO l o = put l o by unfold putO; rw [hql, hqo]; rfl)
      have hlp := len_put l o
      have hli : ∀ x ∈ put l o, x.f2.length ≤ 1048576 := fun x hx => by
        rcases (mem_put o x l).1 hx with rfl | h
        · exact lo
        · exact li x h
      rw [hql] at hcl
      rw [hqo] at hco
      clear hql hqo
      go_enter Tryz.func25, Tryz.ntmps25
      go_wp2_with (first
        | (go_at_call 46; refine (cloneOccs_any A4 c4 (put l o) _ (by omega) hli HL4.out).mono ?_; rintro e w5 ⟨v5, rfl, hs5, h5⟩; have HS5 := Aside0.mk (Kd.S_lower hs5 HB4.out.size); have HB5 := Aside0.mk (below_then HB4.out HB4.out.size h5); clear hs5 h5)
        | (go_at_call 65; refine (put_any A B c c2 l o _ HL.out.sorted (by omega) hl.cap (hl.below HB3.out).rd (ho.below HB3.out)).mono ?_; rintro e w4 ⟨A4, c4, rfl, hc4, hr4, h4⟩; have HL4 := Aside0.mk (IsL.mk hc4 hr4); have HB4 := Aside0.mk (below_then HB3.out HB3.out.size h4); clear hc4 hr4 h4)
        | (go_at_call 64; refine (hco _ HB.out).mono ?_; rintro e w3 ⟨rfl, h3⟩; have p0 := pw_cell_below h3 q0; have p1 := pw_cell_below h3 q1; have p2 := pw_cell_below h3 q2; have HB3 := Aside0.mk (below_then HB.out HB.out.size h3); clear h3)
        | (go_at_call 57; refine hcl.mono ?_; rintro e w2 ⟨rfl, h2⟩; have q0 := pw_cell_below h2 k0; have q1 := pw_cell_below h2 k1; have q2 := pw_cell_below h2 k2; have HB := Aside0.mk (below_then hb hb.size h2); clear h2))
      go_ret
      exact ⟨_, rfl, by rw [HE.out]; exact HS5.out, HB5.out⟩
end Go.Proofs.YtccenpmaooailaaGreat.Cg
