
import Derived.Test.YtccenpmaooailaaGreatNB1
import Derived.Laws.BitsAllLaws
/- The reference's kit: what draws from bytes comes to. One walk each. -/
set_option linter.unusedVariables false
set_option linter.unusedSimpArgs false
namespace Go.Proofs.YtccenpmaooailaaGreat.Sa
open Go.RowKit Go.Proofs.YtccenpmaooailaaGreatW.PrintWords Go.Proofs.YtccenpmaooailaaGreat.Wd Go.Proofs.YtccenpmaooailaaGreat.Pu Go.Proofs.YtccenpmaooailaaGreat.Ca Go.Proofs.YtccenpmaooailaaGreat.Cg

/-- what draws: its bytes (those of the memory w0) and how many were drawn -/
structure Rd (w0 w : World) (g : Nat) (bs : List Int) (p : Nat) : Prop where
  mem : ∃ A c, w.heap[g]? = some (.cells #[.slice A bs.length c, .int .i64 p] 86 (0, 0)) ∧ (Kd.int .u8).C w0 A bs.length bs
  base : w0.heap.size ≤ g
  below : Below w0.heap.size w0 w
  byt : ∀ b ∈ bs, 0 ≤ b ∧ b ≤ 255
  len : bs.length ≤ 2000
theorem Rd.grown {w0 w w' : World} {g : Nat} {bs : List Int} {p : Nat} (h : Rd w0 w g bs p) (hb : Below w.heap.size w w') : Rd w0 w' g bs p := by
  obtain ⟨A, c, hg, hC⟩ := h.mem
  exact ⟨⟨A, c, blk_below hg hb, hC⟩, h.base, below_then h.below h.below.size hb, h.byt, h.len⟩
def mix (bs : List Int) (p : Nat) : Int :=
  bs.getD (p % bs.length) 0 * 131 + bs.getD ((p * 7 + 3) % bs.length) 0 * 1117 + p * 29 + ((p / bs.length : Nat) : Int) * 53

end Go.Proofs.YtccenpmaooailaaGreat.Sa

/- The reference's kit: l14Open, num, l3Any. -/
set_option linter.unusedVariables false
set_option linter.unusedSimpArgs false
namespace Go.Proofs.YtccenpmaooailaaGreat.Sb
open Go.RowKit Go.Proofs.YtccenpmaooailaaGreatW.PrintWords Go.Proofs.YtccenpmaooailaaGreat.Wd Go.Proofs.YtccenpmaooailaaGreat.Pu Go.Proofs.YtccenpmaooailaaGreat.Ca Go.Proofs.YtccenpmaooailaaGreat.Cg Go.Proofs.YtccenpmaooailaaGreat.Sa

end Go.Proofs.YtccenpmaooailaaGreat.Sb

/- The reference's draws of occurrences. -/
set_option linter.unusedVariables false
set_option linter.unusedSimpArgs false
namespace Go.Proofs.YtccenpmaooailaaGreat.Sc
open Go.RowKit Go.Proofs.YtccenpmaooailaaGreatW.PrintWords Go.Proofs.YtccenpmaooailaaGreat.Wd Go.Proofs.YtccenpmaooailaaGreat.Pu Go.Proofs.YtccenpmaooailaaGreat.Ca Go.Proofs.YtccenpmaooailaaGreat.Cg Go.Proofs.YtccenpmaooailaaGreat.Sa Go.Proofs.YtccenpmaooailaaGreat.Sb

theorem rd_far {w0 w : World} {g : Nat} {bs : List Int} {p : Nat} (h : Rd w0 w g bs p) {H : Nat} (hH : w0.heap.size ≤ H) (hne : H ≠ g) (j : Nat) (u : Value) : Rd w0 (w.setCell ⟨H, j, none⟩ u) g bs p := by
  obtain ⟨A, c, hm, hC⟩ := h.mem
  exact ⟨⟨A, c, blk_far hm (p := ⟨H, j, none⟩) (fun e => hne e.symm) u, hC⟩, h.base, h.below.setCell (p := ⟨H, j, none⟩) hH u, h.byt, h.len⟩
theorem grown_set {w : World} {H j : Nat} {u : Value} {n : Nat} {w1 : World} {row : Option Nat} (hg : w1.grownBy w row) (hH : w1.heap.size ≤ H) : w1.grownBy (w.setCell ⟨H, j, none⟩ u) row :=
  ⟨hg.os, hg.tape, hg.output, by simpa [World.setCell] using hg.size, fun k hk hne => (Below.heap_setCell w ⟨H, j, none⟩ u k (by simp; omega)).trans (hg.block k hk hne)⟩
/-- what an earlier memory held, but for one block, still stands though something newer than it was written -/
theorem grown_new {w w1 w2 : World} {r1 row : Option Nat} (h1 : w.grownBy w1 r1) (h2 : w1.grownBy w2 row) (hrow : ∀ k, row = some k → w.heap.size ≤ k ∨ some k = r1) : w.grownBy w2 r1 :=
  ⟨h2.os.trans h1.os, h2.tape.trans h1.tape, h2.output.trans h1.output, Nat.le_trans h1.size h2.size, fun k hk hne => (h2.block k (Nat.lt_of_lt_of_le hk h1.size) (fun e => by rcases hrow k e.symm with h | h; omega; exact hne h)).trans (h1.block k hk hne)⟩

end Go.Proofs.YtccenpmaooailaaGreat.Sc

/- The reference's order of occurrences, and what is right. -/
set_option linter.unusedVariables false
set_option linter.unusedSimpArgs false
namespace Go.Proofs.YtccenpmaooailaaGreat.Sd
open Go.RowKit Go.Proofs.YtccenpmaooailaaGreatW.PrintWords Go.Proofs.YtccenpmaooailaaGreat.Wd Go.Proofs.YtccenpmaooailaaGreat.Pu Go.Proofs.YtccenpmaooailaaGreat.Ca Go.Proofs.YtccenpmaooailaaGreat.Cg Go.Proofs.YtccenpmaooailaaGreat.Cf

theorem cmpIds_cons {a b : List Int} {k : Nat} (h : k < a.length) (h2 : k < b.length) : cmpIds (a.drop k) (b.drop k) = if a.getD k 0 < b.getD k 0 then -1 else if b.getD k 0 < a.getD k 0 then 1 else cmpIds (a.drop (k + 1)) (b.drop (k + 1)) := by
  rw [drop_at a 0 k h, drop_at b 0 k h2, cmpIds]

set_option maxRecDepth 100000 in
theorem ids_any (A B : Option Addr) (c c2 : Nat) (a b : List Int) (w : World) (ha : (Kd.int .i64).C w A a.length a) (hb : (Kd.int .i64).C w B b.length b) :
    Calls Tryz.prog 97 #[.slice A a.length c, .slice B b.length c2] w fun e w' => e = .returned (.int .i64 (cmpIds a b)) ∧ Below w.heap.size w w' := by
  have hn := (C_len ha).2
  have hn2 := (C_len hb).2
  go_enter Tryz.func97, Tryz.ntmps97
  go_wp2
  go_loopw [5] (fun vi wr => ∃ k : Nat, k ≤ a.length ∧ k ≤ b.length ∧ vi = .int .i64 k ∧ Aside0 (cmpIds a b = cmpIds (a.drop k) (b.drop k)) ∧ Aside0 (Below w.heap.size w wr)) (fun vi _ => a.length - (intOf vi).toNat)
  case atStart => exact ⟨0, Nat.zero_le _, Nat.zero_le _, rfl, ⟨rfl⟩, ⟨Below.refl _ _⟩⟩
  case round =>
    obtain ⟨k, hk, hk2, rfl, HH, HB⟩ := hrel
    by_cases hlt : k < a.length
    · by_cases hlt2 : k < b.length
      · have g1 : decide (k < a.length) = true := decide_eq_true hlt
        have g2 : decide (k < b.length) = true := decide_eq_true hlt2
        have i1 : (k : Int) < a.length := by omega
        have i2 : (k : Int) < b.length := by omega
        obtain ⟨ad, rfl, hc⟩ := at1 (Kd.C_below ha HB.out) k hlt
        obtain ⟨ad2, rfl, hc2⟩ := at1 (Kd.C_below hb HB.out) k hlt2
        have HS := Aside0.mk (HH.out.trans (cmpIds_cons hlt hlt2))
        generalize a.getD k 0 = x at hc HS
        generalize b.getD k 0 = y at hc2 HS
        replace hc := cellE hc
        replace hc2 := cellE hc2
        by_cases hxy : x < y
        · have t1 : decide (x < y) = true := decide_eq_true hxy
          have HE := Aside0.mk (show cmpIds a b = -1 by rw [HS.out, if_pos hxy])
          go_wp2
          refine region_ext (W := wr) (Below.refl _ _) (by kernel_rfl) (by kernel_rfl) ?_
          repeat (first | go_big_quiet_step (fail) | quiet_step (fail))
          refine wpQuiet_nil ?_
          rintro _ ⟨s, rfl⟩
          have HB3 := Aside0.mk (below_then HB.out HB.out.size s.2)
          generalize s.1 = W2 at HB3
          go_wp2
          go_ret
          exact ⟨by rw [HE.out]; rfl, HB3.out⟩
        · have t1 : decide (x < y) = false := decide_eq_false hxy
          by_cases hyx : y < x
          · have t2 : decide (x > y) = true := decide_eq_true hyx
            have HE := Aside0.mk (show cmpIds a b = 1 by rw [HS.out, if_neg hxy, if_pos hyx])
            go_wp2
            refine region_ext (W := wr) (Below.refl _ _) (by kernel_rfl) (by kernel_rfl) ?_
            repeat (first | go_big_quiet_step (fail) | quiet_step (fail))
            refine wpQuiet_nil ?_
            rintro _ ⟨s, rfl⟩
            have HB3 := Aside0.mk (below_then HB.out HB.out.size s.2)
            have hc3 := fun s2 : Ext s.1 => hc ⟨s2.1, below_then s.2 s.2.size s2.2⟩
            have hc4 := fun s2 : Ext s.1 => hc2 ⟨s2.1, below_then s.2 s.2.size s2.2⟩
            simp only [] at hc3 hc4
            generalize s.1 = W2 at HB3 hc3 hc4 ⊢
            go_wp2
            refine region_ext (W := W2) (Below.refl _ _) (by kernel_rfl) (by kernel_rfl) ?_
            repeat (first | go_big_quiet_step (fail) | quiet_step (fail))
            refine wpQuiet_nil ?_
            rintro _ ⟨s3, rfl⟩
            have HB4 := Aside0.mk (below_then HB3.out HB3.out.size s3.2)
            generalize s3.1 = W3 at HB4
            go_wp2
            go_ret
            exact ⟨by rw [HE.out]; rfl, HB4.out⟩
          · have t2 : decide (x > y) = false := decide_eq_false hyx
            have HE := Aside0.mk (show cmpIds a b = cmpIds (a.drop (k + 1)) (b.drop (k + 1)) by rw [HS.out, if_neg hxy, if_neg hyx])
            go_wp2
            refine region_ext (W := wr) (Below.refl _ _) (by kernel_rfl) (by kernel_rfl) ?_
            repeat (first | go_big_quiet_step (fail) | quiet_step (fail))
            refine wpQuiet_nil ?_
            rintro _ ⟨s, rfl⟩
            have HB3 := Aside0.mk (below_then HB.out HB.out.size s.2)
            have hc3 := fun s2 : Ext s.1 => hc ⟨s2.1, below_then s.2 s.2.size s2.2⟩
            have hc4 := fun s2 : Ext s.1 => hc2 ⟨s2.1, below_then s.2 s.2.size s2.2⟩
            simp only [] at hc3 hc4
            generalize s.1 = W2 at HB3 hc3 hc4 ⊢
            go_wp2
            refine region_ext (W := W2) (Below.refl _ _) (by kernel_rfl) (by kernel_rfl) ?_
            repeat (first | go_big_quiet_step (fail) | quiet_step (fail))
            refine wpQuiet_nil ?_
            rintro _ ⟨s3, rfl⟩
            have HB4 := Aside0.mk (below_then HB3.out HB3.out.size s3.2)
            generalize s3.1 = W3 at HB4
            go_wp2
            go_roundw
            case rel => exact ⟨k + 1, by omega, by omega, by go_num, HE, HB4⟩
            case measure => simp [intOf]; omega
      · have g1 : decide (k < a.length) = true := decide_eq_true hlt
        have g2 : decide (k < b.length) = false := decide_eq_false hlt2
        have l1 : decide (a.length < b.length) = false := decide_eq_false (by omega)
        have l2 : decide (a.length > b.length) = true := decide_eq_true (by omega)
        have l3 : decide (b.length < a.length) = true := decide_eq_true (by omega)
        have i1 : (k : Int) < a.length := by omega
        have i2 : ¬ (k : Int) < b.length := by omega
        have HE := Aside0.mk (show cmpIds a b = 1 by rw [HH.out, List.drop_of_length_le (l := b) (by omega), drop_at a 0 k hlt, cmpIds])
        go_wp2
        go_ret
        exact ⟨by rw [HE.out]; rfl, HB.out⟩
    · have hke : k = a.length := by omega
      have g1 : decide (k < a.length) = false := decide_eq_false hlt
      have l2 : decide (a.length > b.length) = false := decide_eq_false (by omega)
      have l3 : decide (b.length < a.length) = false := decide_eq_false (by omega)
      have i1 : ¬ (k : Int) < a.length := by omega
      by_cases hl : a.length < b.length
      · have hl2 : decide (a.length < b.length) = true := decide_eq_true hl
        have HE := Aside0.mk (show cmpIds a b = -1 by rw [HH.out, List.drop_of_length_le (l := a) (by omega), drop_at b 0 k (by omega), cmpIds])
        clear hke
        go_wp2
        go_ret
        exact ⟨by rw [HE.out]; rfl, HB.out⟩
      · have hl2 : decide (a.length < b.length) = false := decide_eq_false hl
        have HE := Aside0.mk (show cmpIds a b = 0 by rw [HH.out, List.drop_of_length_le (l := a) (by omega), List.drop_of_length_le (l := b) (by omega), cmpIds])
        clear hke
        go_wp2
        go_ret
        exact ⟨by rw [HE.out]; rfl, HB.out⟩
end Go.Proofs.YtccenpmaooailaaGreat.Sd

/- The reference's order of occurrences: OccLess, l3Same, l3Copy. -/
set_option linter.unusedVariables false
set_option linter.unusedSimpArgs false
namespace Go.Proofs.YtccenpmaooailaaGreat.Se
open Go.RowKit Go.Proofs.YtccenpmaooailaaGreatW.PrintWords Go.Proofs.YtccenpmaooailaaGreat.Wd Go.Proofs.YtccenpmaooailaaGreat.Pu Go.Proofs.YtccenpmaooailaaGreat.Ca Go.Proofs.YtccenpmaooailaaGreat.Cg Go.Proofs.YtccenpmaooailaaGreat.Cf Go.Proofs.YtccenpmaooailaaGreat.Sd

theorem sLess_any (x y : Occ) (A B : Option Addr) (c c2 : Nat) (w : World) (hx : IsO w x A c) (hy : IsO w y B c2) :
    Calls Tryz.prog 59 #[.agg #[.int .i64 x.f0, .int .i64 x.f1, .slice A x.f2.length c], .agg #[.int .i64 y.f0, .int .i64 y.f1, .slice B y.f2.length c2]] w fun e w' => e = .returned (.bool (decide (cmpO x y < 0))) ∧ Below w.heap.size w w' := by
  by_cases h : x.f1 = y.f1
  · by_cases g : x.f0 = y.f0
    · have HC := Aside0.mk (show cmpO x y = cmpIds x.f2 y.f2 by unfold cmpO; rw [if_pos h, if_pos g])
      have h1 : (x.f1 != y.f1) = false := by simpa using h
      have g1 : (x.f0 != y.f0) = false := by simpa using g
      have hb : Below w.heap.size w ((w.alloc (.cells #[.int .i64 x.f0, .int .i64 x.f1, .slice A x.f2.length c] 43)).alloc (.cells #[.int .i64 y.f0, .int .i64 y.f1, .slice B y.f2.length c2] 43)) := by repeat (first | exact Below.refl _ _ | apply below_alloc)
      have hcl := ids_any A B c c2 x.f2 y.f2 _ (Kd.C_below hx.2 hb) (Kd.C_below hy.2 hb)
      clear h g
      have HB := Aside0.mk hb
      clear hb
      go_enter Tryz.func59, Tryz.ntmps59
      go_wp2_with (go_at_call 97; refine hcl.mono ?_; rintro e w' ⟨rfl, hw⟩; have HB2 := Aside0.mk (below_then HB.out HB.out.size hw); clear hw)
      go_ret
      exact ⟨by rw [HC.out]; rfl, HB2.out⟩
    · have h1 : (x.f1 != y.f1) = false := by simpa using h
      have g1 : (x.f0 != y.f0) = true := by simpa using g
      have HC := Aside0.mk (show decide (cmpO x y < 0) = decide (x.f0 < y.f0) by unfold cmpO; rw [if_pos h, if_neg g]; split <;> simp [*])
      clear h g
      go_enter Tryz.func59, Tryz.ntmps59
      go_wp2
      go_ret
      exact ⟨by rw [HC.out]; rfl, by repeat (first | exact Below.refl _ _ | apply below_alloc)⟩
  · have h1 : (x.f1 != y.f1) = true := by simpa using h
    have HC := Aside0.mk (show decide (cmpO x y < 0) = decide (x.f1 < y.f1) by unfold cmpO; rw [if_neg h]; split <;> simp [*])
    clear h
    go_enter Tryz.func59, Tryz.ntmps59
    go_wp2
    go_ret
    exact ⟨by rw [HC.out]; rfl, by repeat (first | exact Below.refl _ _ | apply below_alloc)⟩

theorem sSame_any (x y : Occ) (A B : Option Addr) (c c2 : Nat) (w : World) (hx : IsO w x A c) (hy : IsO w y B c2) :
    Calls Tryz.prog 95 #[.agg #[.int .i64 x.f0, .int .i64 x.f1, .slice A x.f2.length c], .agg #[.int .i64 y.f0, .int .i64 y.f1, .slice B y.f2.length c2]] w fun e w' => e = .returned (.bool (decide (cmpO x y = 0))) ∧ Below w.heap.size w w' := by
  by_cases g : x.f0 = y.f0
  · have g1 : (x.f0 == y.f0) = true := by simpa using g
    by_cases h : x.f1 = y.f1
    · have h1 : (x.f1 == y.f1) = true := by simpa using h
      have HC := Aside0.mk (show cmpO x y = cmpIds x.f2 y.f2 by unfold cmpO; rw [if_pos h, if_pos g])
      by_cases hl : x.f2.length = y.f2.length
      · have l1 : ((x.f2.length : Int) == y.f2.length) = true := by rw [beq_iff_eq]; omega
        have l2 : decide (x.f2.length = y.f2.length) = true := decide_eq_true hl
        have hb : Below w.heap.size w ((w.alloc (.cells #[.int .i64 x.f0, .int .i64 x.f1, .slice A x.f2.length c] 43)).alloc (.cells #[.int .i64 y.f0, .int .i64 y.f1, .slice B y.f2.length c2] 43)) := by repeat (first | exact Below.refl _ _ | apply below_alloc)
        have hcl := ids_any A B c c2 x.f2 y.f2 _ (Kd.C_below hx.2 hb) (Kd.C_below hy.2 hb)
        clear h g hl
        have HB := Aside0.mk hb
        clear hb
        go_enter Tryz.func95, Tryz.ntmps95
        go_wp2_with (go_at_call 97; refine hcl.mono ?_; rintro e w' ⟨rfl, hw⟩; have HB2 := Aside0.mk (below_then HB.out HB.out.size hw); clear hw)
        go_ret
        exact ⟨by rw [HC.out]; exact ret_bool (by rw [Bool.eq_iff_iff]; simp), HB2.out⟩
      · have l1 : ((x.f2.length : Int) == y.f2.length) = false := by rw [beq_eq_false_iff_ne]; omega
        have l2 : decide (x.f2.length = y.f2.length) = false := decide_eq_false hl
        have HF := Aside0.mk (show decide (cmpO x y = 0) = false from decide_eq_false (fun e => hl (by rw [(cmpO_eq x y).1 e])))
        clear h g hl
        go_enter Tryz.func95, Tryz.ntmps95
        go_wp2
        go_ret
        exact ⟨by rw [HF.out]; rfl, by repeat (first | exact Below.refl _ _ | apply below_alloc)⟩
    · have h1 : (x.f1 == y.f1) = false := by simpa using h
      have HF := Aside0.mk (show decide (cmpO x y = 0) = false from decide_eq_false (fun e => h (by rw [(cmpO_eq x y).1 e])))
      clear h g
      go_enter Tryz.func95, Tryz.ntmps95
      go_wp2
      go_ret
      exact ⟨by rw [HF.out]; rfl, by repeat (first | exact Below.refl _ _ | apply below_alloc)⟩
  · have g1 : (x.f0 == y.f0) = false := by simpa using g
    have HF := Aside0.mk (show decide (cmpO x y = 0) = false from decide_eq_false (fun e => g (by rw [(cmpO_eq x y).1 e])))
    clear g
    go_enter Tryz.func95, Tryz.ntmps95
    go_wp2
    go_ret
    exact ⟨by rw [HF.out]; rfl, by repeat (first | exact Below.refl _ _ | apply below_alloc)⟩
end Go.Proofs.YtccenpmaooailaaGreat.Se

/- What is right, by the reference: OccOk. -/
set_option linter.unusedVariables false
set_option linter.unusedSimpArgs false
namespace Go.Proofs.YtccenpmaooailaaGreat.Sf
open Go.RowKit Go.Proofs.YtccenpmaooailaaGreatW.PrintWords Go.Proofs.YtccenpmaooailaaGreat.Wd Go.Proofs.YtccenpmaooailaaGreat.Pu Go.Proofs.YtccenpmaooailaaGreat.Ca Go.Proofs.YtccenpmaooailaaGreat.Cg Go.Proofs.YtccenpmaooailaaGreat.Cf Go.Proofs.YtccenpmaooailaaGreat.Sd

theorem okIds_len : ∀ {l : List Int} {last : Int}, last ≤ 23 → okIds last l = true → (l.length : Int) ≤ 23 - last
  | [], _, h, _ => by simp; omega
  | z :: l, last, h, hk => by
    simp only [okIds, inb, Bool.and_eq_true, decide_eq_true_eq] at hk
    have := okIds_len hk.1.2 hk.2
    simp only [List.length_cons]
    omega
/-- the number ahead of place k -/
def pre (ids : List Int) (k : Nat) : Int := if k = 0 then -1 else ids.getD (k - 1) 0

set_option maxHeartbeats 1000000 in
set_option maxRecDepth 100000 in
theorem sOccOk_any (x : Occ) (A : Option Addr) (c : Nat) (w : World) (hx : IsO w x A c) :
    Calls Tryz.prog 58 #[.agg #[.int .i64 x.f0, .int .i64 x.f1, .slice A x.f2.length c]] w fun e w' => e = .returned (.bool (okO x)) ∧ Below w.heap.size w w' := by
  obtain ⟨hb, k0, k1, k2⟩ := box3 w (.int .i64 x.f0) (.int .i64 x.f1) (.slice A x.f2.length c) 43
  obtain ⟨n, hn⟩ : ∃ n, n = x.f2.length := ⟨_, rfl⟩
  have hnb := (C_len hx.2).2
  rw [← hn] at k0 k1 k2 hb hnb ⊢
  have HX := Aside0.mk hx
  have HN := Aside0.mk hn
  clear hx
  by_cases h1 : x.f0 < 1
  · have d1 : decide (x.f0 < 1) = true := decide_eq_true h1
    have HF := Aside0.mk (show okO x = false by unfold okO; rw [decide_eq_false (show ¬ 1 ≤ x.f0 by omega)]; simp)
    clear hn
    go_enter Tryz.func58, Tryz.ntmps58
    go_wp2
    go_ret
    exact ⟨by rw [HF.out]; rfl, hb⟩
  have d1 : decide (x.f0 < 1) = false := decide_eq_false h1
  by_cases h2 : x.f1 < x.f0
  · have d2 : decide (x.f1 < x.f0) = true := decide_eq_true h2
    have HF := Aside0.mk (show okO x = false by unfold okO inb; rw [decide_eq_false (show ¬ x.f0 ≤ x.f1 by omega)]; simp)
    clear hn
    go_enter Tryz.func58, Tryz.ntmps58
    go_wp2
    go_ret
    exact ⟨by rw [HF.out]; rfl, hb⟩
  have d2 : decide (x.f1 < x.f0) = false := decide_eq_false h2
  by_cases h3 : x.f1 > 2000
  · have d3 : decide (x.f1 > 2000) = true := decide_eq_true h3
    have HF := Aside0.mk (show okO x = false by unfold okO inb; rw [decide_eq_false (show ¬ x.f1 ≤ 2000 by omega)]; simp)
    clear hn
    go_enter Tryz.func58, Tryz.ntmps58
    go_wp2
    go_ret
    exact ⟨by rw [HF.out]; rfl, hb⟩
  have d3 : decide (x.f1 > 2000) = false := decide_eq_false h3
  by_cases h4 : n = 0
  · have HF := Aside0.mk (show okO x = false by unfold okO; rw [decide_eq_false (show ¬ 1 ≤ x.f2.length by omega)]; simp)
    subst h4
    clear hn
    go_enter Tryz.func58, Tryz.ntmps58
    go_wp2
    go_ret
    exact ⟨by rw [HF.out]; rfl, hb⟩
  have d4 : decide ((n : Int) < 1) = false := decide_eq_false (by omega)
  by_cases h5 : n > 24
  · have d5 : decide ((n : Int) > 24) = true := decide_eq_true (by omega)
    have HF := Aside0.mk (show okO x = false by
      cases hk : okO x with
      | false => rfl
      | true =>
        unfold okO at hk
        simp only [Bool.and_eq_true] at hk
        have := okIds_len (by omega) hk.1
        omega)
    clear hn
    go_enter Tryz.func58, Tryz.ntmps58
    go_wp2
    go_ret
    exact ⟨by rw [HF.out]; rfl, hb⟩
  have d5 : decide ((n : Int) > 24) = false := decide_eq_false (by omega)
  have HO := Aside0.mk (show okO x = okIds (-1) x.f2 by
    unfold okO inb
    rw [decide_eq_true (show 1 ≤ x.f0 by omega), decide_eq_true (show x.f0 ≤ x.f1 by omega), decide_eq_true (show x.f1 ≤ 2000 by omega), decide_eq_true (show 1 ≤ x.f2.length by omega)]
    simp)
  have hC := Kd.C_below HX.out.2 hb
  have HB0 := Aside0.mk hb
  clear hn hb h1 h2 h3
  go_enter Tryz.func58, Tryz.ntmps58
  go_wp2
  generalize w.alloc (.cells #[.int .i64 x.f0, .int .i64 x.f1, .slice A n c] 43) = W at k0 k1 k2 hC HB0 ⊢
  go_loopw [3] (fun vi wr => ∃ k : Nat, k ≤ n ∧ vi = .int .i64 k ∧ Aside0 (okO x = okIds (pre x.f2 k) (x.f2.drop k) ∧ -1 ≤ pre x.f2 k) ∧ Aside0 (Below W.heap.size W wr)) (fun vi _ => n - (intOf vi).toNat)
  case atStart => exact ⟨0, Nat.zero_le _, rfl, ⟨by rw [HO.out]; rfl, by simp [pre]⟩, ⟨Below.refl _ _⟩⟩
  case round =>
    obtain ⟨k, hk, rfl, HI, HB⟩ := hrel
    by_cases hlt : k < n
    · have g1 : decide (k < n) = true := decide_eq_true hlt
      have i1 : (k : Int) < n := by omega
      have hkl : k < x.f2.length := by have := HN.out; omega
      obtain ⟨ad, rfl, hc⟩ := at1 (Kd.C_below hC HB.out) k hkl
      have HD := Aside0.mk (show okO x = (inb (x.f2.getD k 0) (pre x.f2 k + 1) 23 && okIds (x.f2.getD k 0) (x.f2.drop (k + 1))) by rw [HI.out.1, drop_at x.f2 0 k hkl, okIds])
      have HP := Aside0.mk (show pre x.f2 (k + 1) = x.f2.getD k 0 by simp [pre])
      obtain ⟨z, hz⟩ : ∃ z, z = x.f2.getD k 0 := ⟨_, rfl⟩
      rw [← hz] at hc HD HP
      have HZ := Aside0.mk hz
      clear hz
      have q2 := pw_cell_below HB.out k2
      have e2 := cellE q2
      replace hc := cellE hc
      by_cases z0 : z < 0
      · have t1 : decide (z < 0) = true := decide_eq_true z0
        have HF := Aside0.mk (show okO x = false by rw [HD.out]; unfold inb; rw [decide_eq_false (show ¬ pre x.f2 k + 1 ≤ z by have := HI.out.2; omega)]; rfl)
        go_wp2
        refine region_ext (W := wr) (Below.refl _ _) (by kernel_rfl) (by kernel_rfl) ?_
        repeat (first | go_big_quiet_step (fail) | quiet_step (fail))
        refine wpQuiet_nil ?_
        rintro _ ⟨s, rfl⟩
        have HB3 := Aside0.mk (below_then HB0.out HB0.out.size (below_then HB.out HB.out.size s.2))
        generalize s.1 = W2 at HB3
        go_wp2
        go_ret
        exact ⟨by rw [HF.out]; rfl, HB3.out⟩
      have t1 : decide (z < 0) = false := decide_eq_false z0
      by_cases z24 : z ≥ 24
      · have t2 : decide (z ≥ 24) = true := decide_eq_true z24
        have HF := Aside0.mk (show okO x = false by rw [HD.out]; unfold inb; rw [decide_eq_false (show ¬ z ≤ 23 by omega)]; simp)
        go_wp2
        refine region_ext (W := wr) (Below.refl _ _) (by kernel_rfl) (by kernel_rfl) ?_
        repeat (first | go_big_quiet_step (fail) | quiet_step (fail))
        refine wpQuiet_nil ?_
        rintro _ ⟨s, rfl⟩
        have HB3 := Aside0.mk (below_then HB0.out HB0.out.size (below_then HB.out HB.out.size s.2))
        generalize s.1 = W2 at HB3
        go_wp2
        go_ret
        exact ⟨by rw [HF.out]; rfl, HB3.out⟩
      have t2 : decide (z ≥ 24) = false := decide_eq_false z24
      by_cases k0' : k = 0
      · have HS : Aside0 (okO x = okIds (pre x.f2 (k + 1)) (x.f2.drop (k + 1)) ∧ -1 ≤ pre x.f2 (k + 1)) := ⟨by
          rw [HP.out, HD.out]
          refine ⟨?_, by omega⟩
          unfold inb
          rw [decide_eq_true (show pre x.f2 k + 1 ≤ z by rw [k0']; simp [pre]; omega), decide_eq_true (show z ≤ 23 by omega)]
          rfl⟩
        have j1 : decide ((k : Int) > 0) = false := decide_eq_false (by omega)
        have j2 : decide (0 < k) = false := decide_eq_false (by omega)
        clear z0 z24 k0'
        go_wp2
        refine region_ext (W := wr) (Below.refl _ _) (by kernel_rfl) (by kernel_rfl) ?_
        repeat (first | go_big_quiet_step (fail) | quiet_step (fail))
        refine wpQuiet_nil ?_
        rintro _ ⟨s, rfl⟩
        have HB3 := Aside0.mk (below_then HB.out HB.out.size s.2)
        generalize s.1 = W2 at HB3
        go_wp2
        go_roundw
        case rel => exact ⟨k + 1, by omega, by go_num, HS, HB3⟩
        case measure => simp [intOf]; omega
      · have j1 : decide ((k : Int) > 0) = true := decide_eq_true (by omega)
        have j2 : decide (0 < k) = true := decide_eq_true (by omega)
        have hk0 : 0 < k := by omega
        obtain ⟨ad2, e, hcp⟩ := at1 (Kd.C_below hC HB.out) (k - 1) (by omega)
        cases e
        have HPR := Aside0.mk (show pre x.f2 k = x.f2.getD (k - 1) 0 by unfold pre; rw [if_neg (by omega)])
        obtain ⟨q, hq⟩ : ∃ q, q = x.f2.getD (k - 1) 0 := ⟨_, rfl⟩
        rw [← hq] at hcp HPR
        clear hq
        replace hcp := cellE hcp
        by_cases hzq : z ≤ q
        · have t3 : decide (z ≤ q) = true := decide_eq_true hzq
          have HF := Aside0.mk (show okO x = false by rw [HD.out, HPR.out]; unfold inb; rw [decide_eq_false (show ¬ q + 1 ≤ z by omega)]; rfl)
          clear z0 z24 hzq
          go_wp2
          refine region_ext (W := wr) (Below.refl _ _) (by kernel_rfl) (by kernel_rfl) ?_
          repeat (first | go_big_quiet_step (fail) | quiet_step (fail))
          refine wpQuiet_nil ?_
          rintro _ ⟨s, rfl⟩
          have HB3 := Aside0.mk (below_then HB0.out HB0.out.size (below_then HB.out HB.out.size s.2))
          generalize s.1 = W2 at HB3
          go_wp2
          go_ret
          exact ⟨by rw [HF.out]; rfl, HB3.out⟩
        · have t3 : decide (z ≤ q) = false := decide_eq_false hzq
          have HS : Aside0 (okO x = okIds (pre x.f2 (k + 1)) (x.f2.drop (k + 1)) ∧ -1 ≤ pre x.f2 (k + 1)) := ⟨by
            rw [HP.out, HD.out, HPR.out]
            refine ⟨?_, by omega⟩
            unfold inb
            rw [decide_eq_true (show q + 1 ≤ z by omega), decide_eq_true (show z ≤ 23 by omega)]
            rfl⟩
          clear z0 z24 hzq
          go_wp2
          refine region_ext (W := wr) (Below.refl _ _) (by kernel_rfl) (by kernel_rfl) ?_
          repeat (first | go_big_quiet_step (fail) | quiet_step (fail))
          refine wpQuiet_nil ?_
          rintro _ ⟨s, rfl⟩
          have HB3 := Aside0.mk (below_then HB.out HB.out.size s.2)
          generalize s.1 = W2 at HB3
          go_wp2
          go_roundw
          case rel => exact ⟨k + 1, by omega, by go_num, HS, HB3⟩
          case measure => simp [intOf]; omega
    · have hke : k = n := by omega
      have g1 : decide (k < n) = false := decide_eq_false hlt
      have i1 : ¬ (k : Int) < n := by omega
      have HE := Aside0.mk (show okO x = true by rw [HI.out.1, List.drop_of_length_le (by have := HN.out; omega)]; rfl)
      have e2 := pw_cell_below HB.out k2
      clear hke
      go_wp2
      go_ret
      exact ⟨by rw [HE.out]; rfl, below_then HB0.out HB0.out.size HB.out⟩
end Go.Proofs.YtccenpmaooailaaGreat.Sf

/- What is right, by the reference: OccsOk. -/
set_option linter.unusedVariables false
set_option linter.unusedSimpArgs false
namespace Go.Proofs.YtccenpmaooailaaGreat.Sg
open Go.RowKit Go.Proofs.YtccenpmaooailaaGreatW.PrintWords Go.Proofs.YtccenpmaooailaaGreat.Wd Go.Proofs.YtccenpmaooailaaGreat.Pu Go.Proofs.YtccenpmaooailaaGreat.Ca Go.Proofs.YtccenpmaooailaaGreat.Cb Go.Proofs.YtccenpmaooailaaGreat.Cg Go.Proofs.YtccenpmaooailaaGreat.Cf Go.Proofs.YtccenpmaooailaaGreat.Sd Go.Proofs.YtccenpmaooailaaGreat.Se Go.Proofs.YtccenpmaooailaaGreat.Sf

set_option maxHeartbeats 1000000 in
set_option maxRecDepth 100000 in
theorem sOccsOk_any (A : Option Addr) (c : Nat) (l : List Occ) (w : World) (hr : kO.C w A l.length l) :
    Calls Tryz.prog 21 #[.slice A l.length c] w fun e w' => e = .returned (.bool (okOs l)) ∧ Below w.heap.size w w' := by
  have hn := (C_len hr).2
  by_cases h40 : l.length > 40
  · have d1 : decide ((l.length : Int) > 40) = true := decide_eq_true (by omega)
    have HF := Aside0.mk (show okOs l = false by unfold okOs; rw [decide_eq_false (show ¬ l.length ≤ 40 by omega)]; simp)
    go_enter Tryz.func21, Tryz.ntmps21
    go_wp2
    go_ret
    exact ⟨by rw [HF.out]; rfl, Below.refl _ _⟩
  have d1 : decide ((l.length : Int) > 40) = false := decide_eq_false (by omega)
  have HO := Aside0.mk (show okOs l = chain none l by unfold okOs; rw [decide_eq_true (show l.length ≤ 40 by omega)]; simp)
  go_enter Tryz.func21, Tryz.ntmps21
  go_wp2
  go_loopw [3] (fun i wr => ∃ k : Nat, k ≤ l.length ∧ i = .int .i64 k ∧ Aside0 (chain none l = chain (prev l k) (l.drop k)) ∧ Aside0 (Below w.heap.size w wr)) (fun i _ => l.length - (intOf i).toNat)
  case atStart => exact ⟨0, Nat.zero_le _, rfl, ⟨rfl⟩, ⟨Below.refl _ _⟩⟩
  case round =>
    obtain ⟨k, hk, rfl, HH, HB⟩ := hrel
    by_cases hlt : k < l.length
    · have g1 : decide (k < l.length) = true := decide_eq_true hlt
      have hrr := Kd.C_below hr HB.out
      obtain ⟨ad, A2, c2, rfl, ha, hb, hc, hl2, hC2⟩ := atO hrr k hlt
      have HD := Aside0.mk (drop_at l zO k hlt)
      have HP := Aside0.mk (prev_succ l k)
      have hIs : IsO wr (l.getD k zO) A2 c2 := ⟨hl2, hC2⟩
      have i1 : (k : Int) < l.length := by omega
      clear hl2 hC2
      by_cases hk0 : k = 0
      · have HZ := Aside0.mk (show prev l k = none by simp [prev, hk0])
        have hg : decide ((k : Int) > 0) = false := by simp; omega
        have hg2 : decide (0 < k) = false := by simp; omega
        clear hk0
        generalize l.getD k zO = o at ha hb hc hIs HD HP
        replace ha := cellE ha
        replace hb := cellE hb
        replace hc := cellE hc
        have hcl := fun s : Ext wr => sOccOk_any o A2 c2 s.1 (hIs.ext s)
        cases hq : okO o with
        | true =>
          have HS := Aside0.mk (show chain none l = chain (prev l (k + 1)) (l.drop (k + 1)) by rw [HH.out, HD.out, HP.out, HZ.out, chain, hq]; rfl)
          rw [hq] at hcl
          clear hq
          go_wp2
          refine region_ext (W := wr) (Below.refl _ _) (by kernel_rfl) (by kernel_rfl) ?_
          repeat (first | go_big_quiet_step ((first | (go_at_call 58; exact calls_ext (hcl _)))) | quiet_step ((first | (go_at_call 58; exact calls_ext (hcl _)))))
          refine wpQuiet_nil ?_
          rintro _ ⟨s, rfl⟩
          have HB3 := Aside0.mk (below_then HB.out HB.out.size s.2)
          generalize s.1 = W2 at HB3
          go_wp2
          go_roundw
          case rel => exact ⟨k + 1, by omega, by go_num, HS, HB3⟩
          case measure => simp [intOf]; omega
        | false =>
          have HS := Aside0.mk (show okOs l = false by rw [HO.out, HH.out, HD.out]; simp [chain, hq])
          rw [hq] at hcl
          clear hq
          go_wp2
          refine region_ext (W := wr) (Below.refl _ _) (by kernel_rfl) (by kernel_rfl) ?_
          repeat (first | go_big_quiet_step ((first | (go_at_call 58; exact calls_ext (hcl _)))) | quiet_step ((first | (go_at_call 58; exact calls_ext (hcl _)))))
          refine wpQuiet_nil ?_
          rintro _ ⟨s, rfl⟩
          have HB3 := Aside0.mk (below_then HB.out HB.out.size s.2)
          generalize s.1 = W2 at HB3
          go_wp2
          go_ret
          exact ⟨by rw [HS.out]; rfl, HB3.out⟩
      · have hg : decide ((k : Int) > 0) = true := by simp; omega
        have hg2 : decide (0 < k) = true := by simp; omega
        have HZ := Aside0.mk (show prev l k = some (l.getD (k - 1) zO) by simp [prev, hk0])
        have hk1 : 0 < k := by omega
        have hk2 : 0 ≤ (k : Int) - 1 := by omega
        have hk3 : ((k : Int) - 1).toNat = k - 1 := by omega
        have hk4 : (k : Int) - 1 < l.length := by omega
        clear hk0
        obtain ⟨_, A3, c3, e, pa, pb, pc, pl2, pC2⟩ := atO hrr (k - 1) (by omega)
        cases e
        have hIp : IsO wr (l.getD (k - 1) zO) A3 c3 := ⟨pl2, pC2⟩
        clear pl2 pC2
        generalize l.getD (k - 1) zO = p at pa pb pc hIp HZ
        generalize l.getD k zO = o at ha hb hc hIs HD HP
        replace ha := cellE ha
        replace hb := cellE hb
        replace hc := cellE hc
        replace pa := cellE pa
        replace pb := cellE pb
        replace pc := cellE pc
        have hcl := fun s : Ext wr => sOccOk_any o A2 c2 s.1 (hIs.ext s)
        have hcl2 := fun s : Ext wr => sLess_any p o A3 A2 c3 c2 s.1 (hIp.ext s) (hIs.ext s)
        cases hq : okO o with
        | true =>
          rw [hq] at hcl
          cases hd : decide (cmpO p o < 0) with
          | true =>
            have HS := Aside0.mk (show chain none l = chain (prev l (k + 1)) (l.drop (k + 1)) by rw [HH.out, HD.out, HP.out, HZ.out, chain, hq]; simp only [hd]; rfl)
            rw [hd] at hcl2
            clear hd hq
            go_wp2
            refine region_ext (W := wr) (Below.refl _ _) (by kernel_rfl) (by kernel_rfl) ?_
            repeat (first | go_big_quiet_step ((first | (go_at_call 58; exact calls_ext (hcl _)) | (go_at_call 59; exact calls_ext (hcl2 _)))) | quiet_step ((first | (go_at_call 58; exact calls_ext (hcl _)) | (go_at_call 59; exact calls_ext (hcl2 _)))))
            refine wpQuiet_nil ?_
            rintro _ ⟨s, rfl⟩
            have HB3 := Aside0.mk (below_then HB.out HB.out.size s.2)
            generalize s.1 = W2 at HB3
            go_wp2
            go_roundw
            case rel => exact ⟨k + 1, by omega, by go_num, HS, HB3⟩
            case measure => simp [intOf]; omega
          | false =>
            have HS := Aside0.mk (show okOs l = false by rw [HO.out, HH.out, HD.out, HZ.out, chain, hq]; simp only [hd]; rfl)
            rw [hd] at hcl2
            clear hd hq
            go_wp2
            refine region_ext (W := wr) (Below.refl _ _) (by kernel_rfl) (by kernel_rfl) ?_
            repeat (first | go_big_quiet_step ((first | (go_at_call 58; exact calls_ext (hcl _)) | (go_at_call 59; exact calls_ext (hcl2 _)))) | quiet_step ((first | (go_at_call 58; exact calls_ext (hcl _)) | (go_at_call 59; exact calls_ext (hcl2 _)))))
            refine wpQuiet_nil ?_
            rintro _ ⟨s, rfl⟩
            have HB3 := Aside0.mk (below_then HB.out HB.out.size s.2)
            generalize s.1 = W2 at HB3
            go_wp2
            go_ret
            exact ⟨by rw [HS.out]; rfl, HB3.out⟩
        | false =>
          have HS := Aside0.mk (show okOs l = false by rw [HO.out, HH.out, HD.out]; simp [chain, hq])
          rw [hq] at hcl
          clear hq
          go_wp2
          refine region_ext (W := wr) (Below.refl _ _) (by kernel_rfl) (by kernel_rfl) ?_
          repeat (first | go_big_quiet_step ((first | (go_at_call 58; exact calls_ext (hcl _)))) | quiet_step ((first | (go_at_call 58; exact calls_ext (hcl _)))))
          refine wpQuiet_nil ?_
          rintro _ ⟨s, rfl⟩
          have HB3 := Aside0.mk (below_then HB.out HB.out.size s.2)
          generalize s.1 = W2 at HB3
          go_wp2
          go_ret
          exact ⟨by rw [HS.out]; rfl, HB3.out⟩
    · have g1 : decide (k < l.length) = false := decide_eq_false hlt
      have i1 : ¬ (k : Int) < l.length := by omega
      have HS := Aside0.mk (show okOs l = true by rw [HO.out, HH.out, List.drop_of_length_le (by omega)]; rfl)
      go_wp2
      go_ret
      exact ⟨by rw [HS.out]; rfl, HB.out⟩
end Go.Proofs.YtccenpmaooailaaGreat.Sg

/- The reference's copies of occurrences. -/
set_option linter.unusedVariables false
set_option linter.unusedSimpArgs false
namespace Go.Proofs.YtccenpmaooailaaGreat.Sh
open Go.RowKit Go.Proofs.YtccenpmaooailaaGreatW.PrintWords Go.Proofs.YtccenpmaooailaaGreat.Wd Go.Proofs.YtccenpmaooailaaGreat.Pu Go.Proofs.YtccenpmaooailaaGreat.Ca Go.Proofs.YtccenpmaooailaaGreat.Cb Go.Proofs.YtccenpmaooailaaGreat.Cg Go.Proofs.YtccenpmaooailaaGreat.Cf Go.Proofs.YtccenpmaooailaaGreat.Sd Go.Proofs.YtccenpmaooailaaGreat.Se Go.Proofs.YtccenpmaooailaaGreat.Sf

/-- an empty row, as it is laid -/
theorem R_empty {α : Type} (d : Kd α) {e : Nat} {w : World} {base : Nat} {g : Nat} (hg : w.heap[g]? = some (.cells #[] e (0, 0))) (hb : base ≤ g) : d.R e w base (fun _ => True) (.slice (some ⟨g, 0, none⟩) 0 0) [] :=
  ⟨fun _ _ => trivial, [], ⟨by simp, .inr ⟨g, 0, #[], rfl, hb, hg, Nat.le_refl _, by decide, by simp, by simp⟩⟩, Reps.none _ _⟩

theorem boxes2 (w : World) (cs0 cs1 : Array Value) (t0 t1 : TypeId) :
    Below w.heap.size w ((w.alloc (.cells cs0 t0)).alloc (.cells cs1 t1)) ∧ ((w.alloc (.cells cs0 t0)).alloc (.cells cs1 t1)).heap[w.heap.size]? = some (.cells cs0 t0 (0, 0)) ∧
    ((w.alloc (.cells cs0 t0)).alloc (.cells cs1 t1)).heap[w.heap.size + 1]? = some (.cells cs1 t1 (0, 0)) := by
  refine ⟨by repeat (first | exact Below.refl _ _ | apply below_alloc), blk_alloc (blk_new _ _) _, ?_⟩
  have := blk_new (w.alloc (.cells cs0 t0)) (.cells cs1 t1)
  simpa using this

set_option maxHeartbeats 2000000 in
set_option maxRecDepth 100000 in
theorem sCopy_any (A : Option Addr) (c : Nat) (o : Occ) (w : World) (ho : IsO w o A c) (hl : o.f2.length ≤ 1048576) :
    Calls Tryz.prog 92 #[.agg #[.int .i64 o.f0, .int .i64 o.f1, .slice A o.f2.length c]] w fun e w' =>
      ∃ v, e = .returned (.agg #[.int .i64 o.f0, .int .i64 o.f1, v]) ∧ (Kd.int .i64).R 3 w' w.heap.size (fun _ => True) v o.f2 ∧ Below w.heap.size w w' := by
  obtain ⟨hb1, b1, b2⟩ := boxes2 w #[.int .i64 o.f0, .int .i64 o.f1, .slice A o.f2.length c] #[.int .i64 0, .int .i64 0, .slice none 0 0] 43 43
  have hr := Kd.C_below ho.2 hb1
  have hsz : ((w.alloc (.cells #[.int .i64 o.f0, .int .i64 o.f1, .slice A o.f2.length c] 43)).alloc (.cells #[.int .i64 0, .int .i64 0, .slice none 0 0] 43)).heap.size = w.heap.size + 1 + 1 := by simp
  go_enter Tryz.func92, Tryz.ntmps92
  go_wp2
  generalize (w.alloc (.cells #[.int .i64 o.f0, .int .i64 o.f1, .slice A o.f2.length c] 43)).alloc (.cells #[.int .i64 0, .int .i64 0, .slice none 0 0] 43) = W at hb1 b1 b2 hr hsz ⊢
  have F : ∀ w', Below W.heap.size W w' → w'.cell? ⟨w.heap.size, 0, none⟩ = some (.int .i64 o.f0) ∧ w'.cell? ⟨w.heap.size, 1, none⟩ = some (.int .i64 o.f1) ∧ w'.cell? ⟨w.heap.size, 2, none⟩ = some (.slice A o.f2.length c) :=
    fun w' h => ⟨pw_cell_below h ((blk_cell b1 0).trans rfl), pw_cell_below h ((blk_cell b1 1).trans rfl), pw_cell_below h ((blk_cell b1 2).trans rfl)⟩
  have hne : w.heap.size ≠ w.heap.size + 1 := by omega
  clear hsz
  go_region_held3 (fun w' => w'.cell? ⟨w.heap.size, 0, none⟩ = some (.int .i64 o.f0) ∧ w'.cell? ⟨w.heap.size, 1, none⟩ = some (.int .i64 o.f1) ∧ w'.cell? ⟨w.heap.size, 2, none⟩ = some (.slice A o.f2.length c))
    (first | (with_reducible exact F _ (Below.refl _ _)) | (with_reducible exact F _ (below_drew (Below.refl _ _))) | (with_reducible exact F _ (below_alloc (below_drew (Below.refl _ _)) _)) | (with_reducible exact F _ (below_alloc (Below.refl _ _) _)) | (with_reducible exact F _ (below_drew (below_alloc (Below.refl _ _) _))) | (with_reducible exact F _ HB2.out) | (with_reducible exact ⟨(Cc.far3 hne).trans e0, (Cc.far3 hne).trans e1, (Cc.far3 hne).trans e2⟩))
    (first | (refine Kd.R_append_rows_step (Kd.int .i64) (w0 := W) W.heap.size (by rfl) _ _ 41 3 (.int .i64 0) 8 rfl Tryz.underlying41 Cc.infoI rfl (by decide) (by decide) (.slice (some ⟨W.heap.size, 0, none⟩) 0 0) [] _ _ _ _ (fun _ => True) (fun _ => False) rfl rfl (R_empty (Kd.int .i64) (by first | exact blk_new _ _ | exact blk_drew (blk_new _ _)) (Nat.le_refl _)) (Kd.C_below hr (by first | exact below_alloc (below_drew (Below.refl _ _)) _ | exact below_alloc (Below.refl _ _) _ | exact below_drew (below_alloc (Below.refl _ _) _))) (fun _ _ h => h) (fun _ h => h.elim) (fun _ _ => trivial) (by first | exact below_alloc (below_drew (Below.refl _ _)) _ | exact below_alloc (Below.refl _ _) _ | exact below_drew (below_alloc (Below.refl _ _) _)) (by simp) (by simp; omega) ?_; intro v2 w2 ho2 hb2 _ _; obtain ⟨A2, c2, rfl⟩ := Kd.R_slice ho2; have HB2 := Aside0.mk hb2; have HO2 := Aside0.mk ho2; obtain ⟨e0, e1, e2⟩ := F w2 hb2; have d2 := blk_below b2 hb2; have q0 := (blk_cell d2 0).trans rfl; have q1 := (blk_cell d2 1).trans rfl; have q2 := (blk_cell d2 2).trans rfl; have g0 := blk_frozen d2 0; have g1 := blk_frozen d2 1; have g2 := blk_frozen d2 2; clear ho2 hb2))
  all_goals
    go_wp2
    have r2 := HO2.out
    simp only [List.nil_append] at r2
    refine bodyPost_ret (results_cell_row rfl _ _ (w.heap.size + 1) 43 #[.int .i64 o.f0, .int .i64 o.f1, .slice A2 o.f2.length c2] (0, 0) _ rfl (set3_blk _ _ _ d2) Tryz.underlying43 rfl (by kernel_rfl)) rfl ?_
    exact ⟨_, rfl, set3_R (Kd.R_lower r2 hb1.size) d2 (by decide) _ _ _, set3_below (below_then hb1 hb1.size HB2.out) (by omega) _ _ _⟩
end Go.Proofs.YtccenpmaooailaaGreat.Sh

/- Lists of the reference's own: what lies in them came in or was made. -/
set_option linter.unusedVariables false
set_option linter.unusedSimpArgs false
namespace Go.Proofs.YtccenpmaooailaaGreat.Si
open Go.RowKit Go.Proofs.YtccenpmaooailaaGreatW.PrintWords Go.Proofs.YtccenpmaooailaaGreat.Wd Go.Proofs.YtccenpmaooailaaGreat.Pu Go.Proofs.YtccenpmaooailaaGreat.Ca Go.Proofs.YtccenpmaooailaaGreat.Cb Go.Proofs.YtccenpmaooailaaGreat.Cd Go.Proofs.YtccenpmaooailaaGreat.Ci Go.Proofs.YtccenpmaooailaaGreat.Cp Go.Proofs.YtccenpmaooailaaGreat.Ce Go.Proofs.YtccenpmaooailaaGreat.Cg Go.Proofs.YtccenpmaooailaaGreat.Cf Go.Proofs.YtccenpmaooailaaGreat.Sd Go.Proofs.YtccenpmaooailaaGreat.Se Go.Proofs.YtccenpmaooailaaGreat.Sf Go.Proofs.YtccenpmaooailaaGreat.Sh Go.Proofs.YtccenpmaooailaaGreat.Sc

def kX (w0 : World) : Kd Occ := Kd.iso (Kd.pair (Kd.int .i64) (Kd.pair (Kd.int .i64) (Kd.mix 3 (Kd.int .i64) (Kd.int .i64) w0))) (fun x => (x.f0, x.f1, x.f2))
theorem kX_openM {w0 w : World} {base : Nat} {ok : Nat → Prop} {x : Occ} {cs : List Value} (h : (kX w0).M w base ok x cs) : ∃ v, cs = [.int .i64 x.f0, .int .i64 x.f1, v] ∧ (Kd.mix 3 (Kd.int .i64) (Kd.int .i64) w0).M w base ok x.f2 [v] := by
  obtain ⟨_, _, rfl, rfl, ⟨_, _, rfl, rfl, g⟩⟩ := h
  obtain ⟨v, rfl, g⟩ := Kd.mix_one g
  exact ⟨v, rfl, g⟩
theorem kX_made {w0 w : World} {base : Nat} {ok : Nat → Prop} (x : Occ) {v : Value} (g : (Kd.int .i64).R 3 w base ok v x.f2) : (kX w0).M w base ok x [.int .i64 x.f0, .int .i64 x.f1, v] :=
  ⟨[.int .i64 x.f0], [.int .i64 x.f1, v], rfl, rfl, ⟨[.int .i64 x.f1], [v], rfl, rfl, Kd.mix_made g⟩⟩
theorem kX_read {w0 w : World} (hb : Below w0.heap.size w0 w) {x : Occ} {cs : List Value} (h : (kX w0).K w x cs) : kO.K w x cs := by
  obtain ⟨_, _, rfl, rfl, ⟨_, _, rfl, rfl, g⟩⟩ := h
  obtain ⟨A, c, rfl, l, g⟩ := Kd.mix_read rfl (fun _ _ h => h) hb g
  exact kO_mk w x l g
theorem X_O {w0 w : World} (hb : Below w0.heap.size w0 w) {A : Option Addr} {n : Nat} {l : List Occ} (h : (kX w0).C w A n l) : kO.C w A n l :=
  ⟨h.1, h.2.1, fun h0 => by obtain ⟨ad, e, hc⟩ := h.2.2 h0; exact ⟨ad, e, fun j p hj => by obtain ⟨c, h1, h2, h3⟩ := hc j p hj; exact ⟨c, h1, kX_read hb h2, h3⟩⟩⟩
theorem szX (w0 : World) : 0 < (kX w0).sz := (by decide : 0 < 3)

section
variable {α : Type} {d : Kd α} {e : Nat} {w w1 : World} {base : Nat} {ok ok' : Nat → Prop} {v : Value} {xs : List α}
/-- A row's 'ok' by its own block and by its elements' blocks apart. -/
theorem R_split (h : d.R e w base ok v xs) (h1 : ∀ k, v.ownBlock = some k → ok' k) (h2 : ∀ k q cells, ok k → base ≤ k → k < w.heap.size → q ∈ d.E → w.heap[k]? = some (.cells cells q (0, 0)) → ok' k) : d.R e w base ok' v xs := by
  obtain ⟨hok, inner, hown, hr⟩ := h
  refine ⟨h1, inner, hown, hr.imp_ (fun p c hp => d.M_mono (fun k hk => ?_) (d.M_bound hp))⟩
  obtain ⟨⟨ho, hne⟩, hb, hlt, q, hq, cells, hc⟩ := hk
  exact ⟨h2 k q cells ho hb hlt hq hc, hne⟩
theorem rr_drop {R : α → List Value → Prop} {sz : Nat} {ad : Addr} {n : Nat} (h : ReadsRow R sz w (some ad) n xs) (m : Nat) (hm : m ≤ n) : ReadsRow R sz w (some (ad.add (m * sz))) (n - m) (xs.drop m) := by
  refine ⟨by rw [List.length_drop, h.1], by have := h.2.1; omega, fun h0 => ⟨_, rfl, fun j q hj => ?_⟩⟩
  obtain ⟨ad', e, hc⟩ := h.2.2 (by omega)
  cases e
  rw [List.getElem?_drop] at hj
  obtain ⟨c, h1, h2, h3⟩ := hc _ _ hj
  exact ⟨c, h1, h2, fun i u hi => by rw [add_add, show m * sz + (j * sz + i) = (m + j) * sz + i by rw [Nat.add_mul]; omega]; exact h3 i u hi⟩
/-- A row as a source of an append: its elements as they were made. -/
theorem R_src {A : Option Addr} {n c : Nat} (h : d.R e w base ok (.slice A n c) xs) : ReadsRow (d.M w base (fun k => ok k ∧ some k ≠ (Value.slice A n c).ownBlock)) d.sz w A n xs := by
  obtain ⟨hok, inner, hown, hr⟩ := h
  obtain ⟨A', c', e, h2⟩ := own_reads_row hown hr rfl
  cases e
  exact h2
theorem R_src_drop {A A' : Option Addr} {n c k : Nat} (h : d.R e w base ok (.slice A n c) xs) (hk : k ≤ n) (hA : k < c → A' = A.map (·.add (k * d.sz))) : ReadsRow (d.M w base (fun k => ok k ∧ some k ≠ (Value.slice A n c).ownBlock)) d.sz w A' (n - k) (xs.drop k) := by
  have hs := R_src h
  have hnc : n ≤ c := (Kd.R_reads' h).2.1
  by_cases hkn : k = n
  · exact ⟨by rw [List.length_drop, hs.1], by have := hs.2.1; omega, fun h0 => by omega⟩
  · obtain ⟨ad, rfl, _⟩ := hs.2.2 (by omega)
    rw [hA (by omega)]
    exact rr_drop hs k hk
theorem R_head' {A : Option Addr} {n c : Nat} (h : d.R e w base ok (.slice A n c) xs) : A = none ∨ ∃ g, A = some ⟨g, 0, none⟩ := by
  rcases A with _ | ad
  · exact .inl rfl
  · obtain ⟨g, rfl⟩ := Kd.R_head h
    exact .inr ⟨g, rfl⟩
end
theorem R_empty2 {α : Type} (d : Kd α) {e : Nat} {w : World} {base : Nat} {ok : Nat → Prop} {g : Nat} (hg : w.heap[g]? = some (.cells #[] e (0, 0))) (hb : base ≤ g) (hok : ok g) : d.R e w base ok (.slice (some ⟨g, 0, none⟩) 0 0) [] :=
  ⟨fun k hk => by simp [Value.ownBlock] at hk; rw [← hk]; exact hok, [], ⟨by simp, .inr ⟨g, 0, #[], rfl, hb, hg, Nat.le_refl _, by decide, by simp, by simp⟩⟩, Reps.none _ _⟩
theorem takeX (A : Option Addr) (hA : A = none ∨ ∃ g, A = some ⟨g, 0, none⟩) (n c m : Nat) (hm : m ≤ c) (W : World) : (Instr.slice 23 (.slice A n c) none (some (.int .i64 (m : Int))) none).run Tryz.prog W = .ok (.slice A m c) W := by
  rcases hA with rfl | ⟨g, rfl⟩
  · have hel : Tryz.prog.elem 23 = 43 := by simp [Program.elem, Tryz.underlying23]
    have hu : Tryz.prog.underlying 23 = some (.slice (Tryz.prog.elem 23)) := by rw [hel]; exact Tryz.underlying23
    obtain ⟨i, hi, hi2⟩ := Option.map_eq_some_iff.1 sizeO
    rw [run_slice_h W _ none n c hu .i64 (m : Int) (Int.natCast_nonneg _) (by omega), hel]
    simp [sizeOf, typeInfo, hi, hi2, sliced, Result.andThen]
  · exact takeO g n c m hm W
theorem infoX (w0 : World) : (Tryz.prog.info? 43).map (fun i => (i.zero, i.size, i.bytes)) = some (some (.agg #[.int .i64 0, .int .i64 0, .slice none 0 0]), (kX w0).sz, 40) := infoO
end Go.Proofs.YtccenpmaooailaaGreat.Si

/- l3Put: what is put into a list of one's own, in place. -/
set_option linter.unusedVariables false
set_option linter.unusedSimpArgs false
namespace Go.Proofs.YtccenpmaooailaaGreat.Sp
open Go.RowKit Go.Proofs.YtccenpmaooailaaGreatW.PrintWords Go.Proofs.YtccenpmaooailaaGreat.Wd Go.Proofs.YtccenpmaooailaaGreat.Pu Go.Proofs.YtccenpmaooailaaGreat.Ca Go.Proofs.YtccenpmaooailaaGreat.Cb Go.Proofs.YtccenpmaooailaaGreat.Cd Go.Proofs.YtccenpmaooailaaGreat.Ci Go.Proofs.YtccenpmaooailaaGreat.Cp Go.Proofs.YtccenpmaooailaaGreat.Ce Go.Proofs.YtccenpmaooailaaGreat.Cg Go.Proofs.YtccenpmaooailaaGreat.Cf Go.Proofs.YtccenpmaooailaaGreat.Sd Go.Proofs.YtccenpmaooailaaGreat.Se Go.Proofs.YtccenpmaooailaaGreat.Sf Go.Proofs.YtccenpmaooailaaGreat.Sh Go.Proofs.YtccenpmaooailaaGreat.Sc Go.Proofs.YtccenpmaooailaaGreat.Si

def PutOut (w0 w w' : World) (base : Nat) (ok : Nat → Prop) (v : Value) (l' : List Occ) (e : Ending) : Prop :=
  ∃ v', e = .returned v' ∧ kO.R 43 w' base ok v' l' ∧ w.grownBy w' v.ownBlock ∧ (v'.ownBlock = v.ownBlock ∨ ∃ b, v'.ownBlock = some b ∧ w.heap.size ≤ b)

theorem at_step' {l : List Occ} {o : Occ} (hs : Sorted l) {k : Nat} (hk : k ≤ l.length) (hlo : ∀ j, j < k → lt (l.getD j zO) o) (hst : k < l.length → ¬ lt (l.getD k zO) o) : At l o k :=
  ⟨hk, hlo, fun j hj hjl => by
    by_cases e : j = k
    · rw [e]; exact hst (by omega)
    · intro h
      exact hst (by omega) (lt_trans (sorted_getD hs (by omega) hjl) h)⟩

set_option maxHeartbeats 2000000 in
set_option maxRecDepth 100000 in
theorem oPut_any (w0 : World) (base : Nat) (ok : Nat → Prop) (v : Value) (l : List Occ) (B : Option Addr) (c2 : Nat) (o : Occ) (w : World) (hw : Below w0.heap.size w0 w) (hs : Sorted l) (hl : l.length ≤ 1048576) (hR : kO.R 43 w base ok v l)
    (ho : IsO w o B c2) (lo : o.f2.length ≤ 1048576) (hbase : base ≤ w.heap.size) (hfresh : ∀ k, w.heap.size ≤ k → ok k) :
    Calls Tryz.prog 81 #[v, .agg #[.int .i64 o.f0, .int .i64 o.f1, .slice B o.f2.length c2]] w fun e w' => PutOut w0 w w' base ok v (put l o) e := by
  obtain ⟨A, c, rfl, hlc, hC⟩ := Kd.R_reads hR
  obtain ⟨hb, k0, k1, k2⟩ := box3 w (.int .i64 o.f0) (.int .i64 o.f1) (.slice B o.f2.length c2) 43
  have bx := box1 w (.int .i64 o.f0) (.int .i64 o.f1) (.slice B o.f2.length c2) 43
  have hC0 := Kd.C_below (hC) hb
  have hI0 := ho.below hb
  have hR0 := Kd.R_below hR hb
  have HB0 := Aside0.mk hb
  have HF := Aside0.mk hfresh
  go_enter Tryz.func81, Tryz.ntmps81
  go_wp2
  generalize w.alloc (.cells #[.int .i64 o.f0, .int .i64 o.f1, .slice B o.f2.length c2] 43) = W at k0 k1 k2 bx hC0 hI0 hR0 HB0 ⊢
  clear hb hC
  go_loopw [5] (fun vi wr => ∃ k : Nat, k ≤ l.length ∧ vi = .int .i64 k ∧ Aside0 (∀ j, j < k → lt (l.getD j zO) o) ∧ Aside0 (Below W.heap.size W wr)) (fun vi _ => l.length - (intOf vi).toNat)
  case atStart => exact ⟨0, Nat.zero_le _, rfl, ⟨fun j hj => absurd hj (Nat.not_lt_zero _)⟩, ⟨Below.refl _ _⟩⟩
  case round =>
    obtain ⟨k, hk, rfl, HL, HB⟩ := hrel
    have e0 := cellE (pw_cell_below HB.out k0)
    have e1 := cellE (pw_cell_below HB.out k1)
    have e2 := cellE (pw_cell_below HB.out k2)
    by_cases hlt : k < l.length
    · have g1 : decide (k < l.length) = true := decide_eq_true hlt
      have i1 : (k : Int) < l.length := by omega
      obtain ⟨ad, A2, c3, rfl, ha, hb, hc, hl2, hC2⟩ := atO (Kd.C_below hC0 HB.out) k hlt
      have hIs : IsO wr (l.getD k zO) A2 c3 := ⟨hl2, hC2⟩
      have HG : Aside0 (l.getD k zO = l.getD k zO) := ⟨rfl⟩
      clear hl2 hC2
      generalize hy : l.getD k zO = y at ha hb hc hIs
      have HY := Aside0.mk hy
      clear hy HG
      replace ha := cellE ha
      replace hb := cellE hb
      replace hc := cellE hc
      have hIo := hI0.below HB.out
      have hcl := fun s : Ext wr => sLess_any y o A2 B c3 c2 s.1 (hIs.ext s) (hIo.ext s)
      by_cases hcm : cmpO y o < 0
      · have hd : decide (cmpO y o < 0) = true := decide_eq_true hcm
        have HS := Aside0.mk (show ∀ j, j < k + 1 → lt (l.getD j zO) o from fun j hj => by
          by_cases e : j = k
          · rw [e, HY.out]; exact hcm
          · exact HL.out j (by omega))
        rw [hd] at hcl
        clear hcm hd
        go_wp2
        refine region_ext (W := wr) (Below.refl _ _) (by kernel_rfl) (by kernel_rfl) ?_
        repeat (first | go_big_quiet_step ((first | (go_at_call 59; exact calls_ext (hcl _)))) | quiet_step ((first | (go_at_call 59; exact calls_ext (hcl _)))))
        refine wpQuiet_nil ?_
        rintro _ ⟨s, rfl⟩
        have HB3 := Aside0.mk (below_then HB.out HB.out.size s.2)
        generalize s.1 = W2 at HB3
        go_wp2
        go_roundw
        case rel => exact ⟨k + 1, by omega, by go_num, HS, HB3⟩
        case measure => simp [intOf]; omega
      · have hd : decide (cmpO y o < 0) = false := decide_eq_false hcm
        have HA := Aside0.mk (at_step' hs hk HL.out (fun _ h => hcm (by rw [← HY.out]; exact h)))
        rw [hd] at hcl
        clear hcm hd
        go_wp2
        refine region_ext (W := wr) (Below.refl _ _) (by kernel_rfl) (by kernel_rfl) ?_
        repeat (first | go_big_quiet_step ((first | (go_at_call 59; exact calls_ext (hcl _)))) | quiet_step ((first | (go_at_call 59; exact calls_ext (hcl _)))))
        refine wpQuiet_nil ?_
        rintro _ ⟨s, rfl⟩
        have HB3 := Aside0.mk (below_then HB.out HB.out.size s.2)
        have a1 := fun s2 : Ext s.1 => ha ⟨s2.1, below_then s.2 s.2.size s2.2⟩
        have a2 := fun s2 : Ext s.1 => hb ⟨s2.1, below_then s.2 s.2.size s2.2⟩
        have a3 := fun s2 : Ext s.1 => hc ⟨s2.1, below_then s.2 s.2.size s2.2⟩
        have b1 := fun s2 : Ext s.1 => e0 ⟨s2.1, below_then s.2 s.2.size s2.2⟩
        have b2 := fun s2 : Ext s.1 => e1 ⟨s2.1, below_then s.2 s.2.size s2.2⟩
        have b3 := fun s2 : Ext s.1 => e2 ⟨s2.1, below_then s.2 s.2.size s2.2⟩
        have hIs2 := hIs.below s.2
        simp only [] at a1 a2 a3 b1 b2 b3
        generalize s.1 = W2 at HB3 a1 a2 a3 b1 b2 b3 hIs2 ⊢
        have hIo2 := hI0.below HB3.out
        have hcl3 := fun s : Ext W2 => sSame_any y o A2 B c3 c2 s.1 (hIs2.ext s) (hIo2.ext s)
        clear hcl ha hb hc e0 e1 e2
        by_cases hsm : cmpO y o = 0
        · have hd : decide (cmpO y o = 0) = true := decide_eq_true hsm
          have HE := Aside0.mk (at_hit hs HA.out (show hit l o k = true by unfold hit; rw [decide_eq_true hlt, HY.out, hd]; rfl))
          rw [hd] at hcl3
          clear hsm hd
          go_wp2
          refine region_ext (W := W2) (Below.refl _ _) (by kernel_rfl) (by kernel_rfl) ?_
          repeat (first | go_big_quiet_step ((first | (go_at_call 95; exact calls_ext (hcl3 _)))) | quiet_step ((first | (go_at_call 95; exact calls_ext (hcl3 _)))))
          refine wpQuiet_nil ?_
          rintro _ ⟨s, rfl⟩
          have HB4 := Aside0.mk (below_then HB0.out HB0.out.size (below_then HB3.out HB3.out.size s.2))
          generalize s.1 = W3 at HB4
          go_wp2
          go_ret
          exact ⟨_, rfl, by rw [HE.out]; exact Kd.R_below hR HB4.out, grown_of_below HB4.out _, .inl rfl⟩
        · have hd : decide (cmpO y o = 0) = false := decide_eq_false hsm
          have HE := Aside0.mk (at_ins hs HA.out (show hit l o k = false by unfold hit; rw [HY.out, hd]; simp))
          rw [hd] at hcl3
          clear hsm hd
          go_wp2
          refine region_ext (W := W2) (Below.refl _ _) (by kernel_rfl) (by kernel_rfl) ?_
          repeat (first | go_big_quiet_step ((first | (go_at_call 95; exact calls_ext (hcl3 _)))) | quiet_step ((first | (go_at_call 95; exact calls_ext (hcl3 _)))))
          refine wpQuiet_nil ?_
          rintro _ ⟨s, rfl⟩
          have HB4 := Aside0.mk (below_then HB3.out HB3.out.size s.2)
          generalize s.1 = W3 at HB4
          have hR3 := Kd.R_below hR0 HB4.out
          have hR3b := Kd.R_mono (Kd.R_bound hR3) (ok' := fun j => ok j ∧ j < W3.heap.size) (fun j hj => ⟨hj.1, hj.2.2.1⟩)
          have hown : ∀ j, (Value.slice (some ad) l.length c).ownBlock = some j → j < w.heap.size := Kd.R_lt hR
          have hsz : w.heap.size < W3.heap.size := Nat.lt_of_lt_of_le (World.block_lt_of_cell? W _ k0) HB4.out.size
          have hbs : base ≤ W3.heap.size := Nat.le_trans hbase (Nat.le_of_lt hsz)
          have p0 := pw_cell_below HB4.out k0
          have p1 := pw_cell_below HB4.out k1
          have p2 := pw_cell_below HB4.out k2
          obtain ⟨A', hcut, hA'⟩ := cutO (some ad) l.length c k hk
          have htk := fun W => takeX (some ad) (R_head' hR3) l.length c k (by omega) W
          have hld : (l.drop k).length = l.length - k := List.length_drop
          clear hR0
          go_wp2_with ((with_reducible refine gate_dst (N := 38) rfl ?_); refine Kd.R_append_rows kO (w0 := W3.alloc (.cells #[] 43)) base rfl _ _ 23 43 (.agg #[.int .i64 0, .int .i64 0, .slice none 0 0]) 40 rfl Tryz.underlying23 (infoO) rfl (by decide) (by decide) (.slice (some ⟨W3.heap.size, 0, none⟩) 0 0) [] (l.drop k) A' (l.length - k) (c - k) (fun j => ok j ∧ some j ≠ (Value.slice (some ad) l.length c).ownBlock) (fun j => (ok j ∧ j < W3.heap.size) ∧ some j ≠ (Value.slice (some ad) l.length c).ownBlock) rfl rfl (R_empty2 kO (blk_new _ _) hbs ⟨HF.out _ (Nat.le_of_lt hsz), fun h => by have := hown _ h.symm; omega⟩) (R_src_drop (Kd.R_alloc hR3b _) hk hA') (fun _ _ h => h) (fun j hj => ⟨⟨hj.1.1, hj.2⟩, fun h => by simp [Value.ownBlock] at h; have := hj.1.2; omega⟩) (fun j hj => ⟨HF.out _ (by simp at hj; omega), fun h => by simp at hj; have := hown _ h.symm; omega⟩) (Below.refl _ _) (by simp; omega) (by simp; omega) ?_; intro v6 w6 hr6 _ hg6 _; obtain ⟨A6, c6, rfl⟩ := Kd.R_slice hr6; simp only [List.nil_append] at hr6; rw [hld] at hr6; have HB6 : Aside0 (Below W3.heap.size W3 w6) := ⟨Below.grown (below_alloc (Below.refl _ _) _) hg6 (by simp) (fun j hj => by simp [Value.ownBlock] at hj; omega)⟩; have HR6 := Aside0.mk hr6; clear hr6 hg6)
          have bx6 := blk_below bx (below_then HB4.out HB4.out.size HB6.out)
          have HBW := Aside0.mk (below_then HB0.out HB0.out.size (below_then HB4.out HB4.out.size HB6.out))
          have hI6 := ho.below HBW.out
          have hR6 := Kd.R_below hR HBW.out
          have hws : w.heap.size < w6.heap.size := Nat.lt_of_lt_of_le hsz HB6.out.size
          have hkl : (l.take k).length = k := by rw [List.length_take]; omega
          clear hcut hA' hR3 hR3b p0 p1 p2 hIs hIs2 hIo hIo2 hcl3 a1 a2 a3 b1 b2 b3 hI0 hC0
          have F : ∀ w', Below w6.heap.size w6 w' → w'.cell? ⟨w.heap.size, 0, none⟩ = some (.int .i64 o.f0) ∧ w'.cell? ⟨w.heap.size, 1, none⟩ = some (.int .i64 o.f1) ∧ w'.cell? ⟨w.heap.size, 2, none⟩ = some (.slice B o.f2.length c2) :=
            fun w' h => ⟨pw_cell_below h ((blk_cell bx6 0).trans rfl), pw_cell_below h ((blk_cell bx6 1).trans rfl), pw_cell_below h ((blk_cell bx6 2).trans rfl)⟩
          go_region_held3 (fun w' => w'.cell? ⟨w.heap.size, 0, none⟩ = some (.int .i64 o.f0) ∧ w'.cell? ⟨w.heap.size, 1, none⟩ = some (.int .i64 o.f1) ∧ w'.cell? ⟨w.heap.size, 2, none⟩ = some (.slice B o.f2.length c2))
            (first | (with_reducible exact F _ (Below.refl _ _)) | (with_reducible exact F _ (below_drew (Below.refl _ _))) | (with_reducible exact ⟨m0, m1, m2⟩) | (with_reducible exact ⟨n0, n1, n2⟩) | (with_reducible exact F _ hk7) | (with_reducible exact F _ (below_alloc hk7 _)) | (with_reducible exact F _ (below_drew (below_alloc hk7 _))) | (with_reducible exact F _ (below_drew hk7)))
            (first
              | (go_at_call 92; refine (sCopy_any B c2 o _ (by first | exact hI6 | exact hI6.below (below_drew (Below.refl _ _))) lo).mono ?_; rintro e w7 ⟨v7, rfl, ho7, h7⟩; obtain ⟨A7, c7, rfl⟩ := Kd.R_slice ho7; have hk7 : Below w6.heap.size w6 w7 := ⟨h7.os, h7.tape, h7.output, h7.size, h7.block⟩; have HO7 : Aside0 ((Kd.int .i64).R 3 w7 w6.heap.size (fun _ => True) (.slice A7 o.f2.length c7) o.f2) := ⟨ho7⟩)
              | (refine Kd.R_append_step kO (w0 := w7) base (by rfl) _ _ 23 43 (.agg #[.int .i64 0, .int .i64 0, .slice none 0 0]) 40 rfl Tryz.underlying23 (infoO) rfl (by decide) (by decide) (.slice (some ad) k c) (l.take k) o [.int .i64 o.f0, .int .i64 o.f1, .slice A7 o.f2.length c7] ok (fun j => w6.heap.size ≤ j) rfl rfl (kO_mkM _ _ _ o (Kd.R_lower (Kd.R_mono (Kd.R_bound HO7.out) (fun j hj => hj.2.1)) (by omega))) (fun j hj => ⟨HF.out _ (by omega), fun h => by have := hown _ h.symm; omega⟩) (fun j hj => HF.out _ (by have := hk7.size; omega)) (Kd.R_take (Kd.R_below hR6 hk7) hk) (Below.refl _ _) (by have := hk7.size; omega) (by rw [hkl]; omega) ?_; intro v8 w8 hr8 _ hg8 hat8; obtain ⟨A8, c8, rfl⟩ := Kd.R_slice hr8; have hne8 : some w.heap.size ≠ (Value.slice (some ad) k c).ownBlock := fun h => by { have := hown _ h.symm; omega }; have bx8 := blk_grown (blk_below bx6 hk7) hg8 hne8; have m0 : w8.cell? ⟨w.heap.size, 0, none⟩ = some (.int .i64 o.f0) := (blk_cell bx8 0).trans rfl; have m1 : w8.cell? ⟨w.heap.size, 1, none⟩ = some (.int .i64 o.f1) := (blk_cell bx8 1).trans rfl; have m2 : w8.cell? ⟨w.heap.size, 2, none⟩ = some (.slice B o.f2.length c2) := (blk_cell bx8 2).trans rfl; have HR8 := Aside0.mk hr8; have HG8 := Aside0.mk hg8; have HAT8 := Aside0.mk hat8; clear hr8 hg8 hat8)
              | (refine Kd.R_append_rows_step kO (w0 := w8) base (by rfl) _ _ 23 43 (.agg #[.int .i64 0, .int .i64 0, .slice none 0 0]) 40 rfl Tryz.underlying23 (infoO) rfl (by decide) (by decide) (.slice A8 (l.take k ++ [o]).length c8) (l.take k ++ [o]) (l.drop k) A6 (l.length - k) c6 ok (fun j => ((ok j ∧ some j ≠ (Value.slice (some ad) l.length c).ownBlock) ∧ j < w7.heap.size) ∧ some j ≠ (Value.slice A6 (l.length - k) c6).ownBlock) rfl rfl HR8.out (R_src (Kd.R_grown (Kd.R_mono (Kd.R_bound (Kd.R_below HR6.out hk7)) (ok' := fun j => (ok j ∧ some j ≠ (Value.slice (some ad) l.length c).ownBlock) ∧ j < w7.heap.size) (fun j hj => ⟨hj.1, hj.2.2.1⟩)) HG8.out (fun j hj => hj.1.2))) (fun _ _ h => h) (fun j hj => ⟨hj.1.1.1, fun h => by rcases HAT8.out with h2 | ⟨b, h2, h3⟩ <;> rw [h2] at h; exact hj.1.1.2 h; injection h with h; have := hj.1.2; omega⟩) (fun j hj => HF.out _ (by have := HG8.out.size; have := hk7.size; omega)) (Below.refl _ _) (by have := HG8.out.size; have := hk7.size; omega) (by rw [List.length_append, hkl]; simp; omega) ?_; intro v9 w9 hr9 _ hg9 hat9; obtain ⟨A9, c9, rfl⟩ := Kd.R_slice hr9; have bx9 := blk_grown bx8 hg9 (fun h => by rcases HAT8.out with h2 | ⟨b, h2, h3⟩ <;> rw [h2] at h; exact hne8 h; injection h with h; have := hk7.size; omega); have n0 : w9.cell? ⟨w.heap.size, 0, none⟩ = some (.int .i64 o.f0) := (blk_cell bx9 0).trans rfl; have n1 : w9.cell? ⟨w.heap.size, 1, none⟩ = some (.int .i64 o.f1) := (blk_cell bx9 1).trans rfl; have n2 : w9.cell? ⟨w.heap.size, 2, none⟩ = some (.slice B o.f2.length c2) := (blk_cell bx9 2).trans rfl; have HR9 := Aside0.mk hr9; have HG9 := Aside0.mk hg9; have HAT9 := Aside0.mk hat9; clear hr9 hg9 hat9))
          all_goals
            have hln : (l.take k ++ [o] ++ l.drop k).length = k + (l.length - k + 1) := by simp; omega
            have hE9 : l.take k ++ [o] ++ l.drop k = put l o := by rw [← HE.out]; simp [insO]
            have r9 := HR9.out
            have t9 := HAT9.out
            rw [hln] at r9 t9
            rw [hE9] at r9
            have HB7 := below_then HBW.out HBW.out.size hk7
            have G9 : w.grownBy w9 (Value.slice (some ad) l.length c).ownBlock := grown_new (grown_new (grown_of_below HB7 _) HG8.out (fun j hj => .inr hj.symm)) HG9.out (fun j hj => by
              rcases HAT8.out with h2 | ⟨b, h2, h3⟩
              · rw [h2] at hj; exact .inr hj.symm
              · rw [h2] at hj; injection hj with hj; have := HB7.size; exact .inl (by omega))
            have T9 : (Value.slice A9 (k + (l.length - k + 1)) c9).ownBlock = (Value.slice (some ad) l.length c).ownBlock ∨ ∃ b, (Value.slice A9 (k + (l.length - k + 1)) c9).ownBlock = some b ∧ w.heap.size ≤ b := by
              rcases t9 with h1 | ⟨b, h1, h2⟩
              · rcases HAT8.out with h3 | ⟨b, h3, h4⟩
                · exact .inl (h1.trans h3)
                · exact .inr ⟨b, h1.trans h3, by have := HB7.size; omega⟩
              · exact .inr ⟨b, h1, by have := HB7.size; have := HG8.out.size; omega⟩
            have HP := Aside0.mk (show PutOut w0 w w9 base ok (Value.slice (some ad) l.length c) (put l o) (.returned (Value.slice A9 (k + (l.length - k + 1)) c9)) from ⟨_, rfl, r9, G9, T9⟩)
            clear r9 t9 hE9 hln G9 T9
            go_wp2
            go_ret
            exact HP.out
    · have hke : k = l.length := by omega
      have g1 : decide (k < l.length) = false := decide_eq_false hlt
      have i1 : ¬ (k : Int) < l.length := by omega
      have HA := Aside0.mk (at_step' hs hk HL.out (fun h => absurd h hlt))
      have HE := Aside0.mk (at_ins hs HA.out (show hit l o k = false by unfold hit; rw [decide_eq_false hlt]; rfl))
      clear hke
      go_wp2
      refine region_ext (W := wr) (Below.refl _ _) (by kernel_rfl) (by kernel_rfl) ?_
      repeat (first | go_big_quiet_step (fail) | quiet_step (fail))
      refine wpQuiet_nil ?_
      rintro _ ⟨s, rfl⟩
      have HB3 := Aside0.mk (below_then HB.out HB.out.size s.2)
      have b1 := fun s2 : Ext s.1 => e0 ⟨s2.1, below_then s.2 s.2.size s2.2⟩
      have b2 := fun s2 : Ext s.1 => e1 ⟨s2.1, below_then s.2 s.2.size s2.2⟩
      have b3 := fun s2 : Ext s.1 => e2 ⟨s2.1, below_then s.2 s.2.size s2.2⟩
      simp only [] at b1 b2 b3
      generalize s.1 = W2 at HB3 b1 b2 b3 ⊢
      clear e0 e1 e2
      go_wp2
      refine region_ext (W := W2) (Below.refl _ _) (by kernel_rfl) (by kernel_rfl) ?_
      repeat (first | go_big_quiet_step (fail) | quiet_step (fail))
      refine wpQuiet_nil ?_
      rintro _ ⟨s, rfl⟩
      have HB4 := Aside0.mk (below_then HB3.out HB3.out.size s.2)
      generalize s.1 = W3 at HB4
      have hR3 := Kd.R_below hR0 HB4.out
      have hR3b := Kd.R_mono (Kd.R_bound hR3) (ok' := fun j => ok j ∧ j < W3.heap.size) (fun j hj => ⟨hj.1, hj.2.2.1⟩)
      have hown : ∀ j, (Value.slice A l.length c).ownBlock = some j → j < w.heap.size := Kd.R_lt hR
      have hsz : w.heap.size < W3.heap.size := Nat.lt_of_lt_of_le (World.block_lt_of_cell? W _ k0) HB4.out.size
      have hbs : base ≤ W3.heap.size := Nat.le_trans hbase (Nat.le_of_lt hsz)
      have p0 := pw_cell_below HB4.out k0
      have p1 := pw_cell_below HB4.out k1
      have p2 := pw_cell_below HB4.out k2
      obtain ⟨A', hcut, hA'⟩ := cutO A l.length c k hk
      have htk := fun W => takeX A (R_head' hR3) l.length c k (by omega) W
      have hld : (l.drop k).length = l.length - k := List.length_drop
      clear hR0
      go_wp2_with ((with_reducible refine gate_dst (N := 38) rfl ?_); refine Kd.R_append_rows kO (w0 := W3.alloc (.cells #[] 43)) base rfl _ _ 23 43 (.agg #[.int .i64 0, .int .i64 0, .slice none 0 0]) 40 rfl Tryz.underlying23 (infoO) rfl (by decide) (by decide) (.slice (some ⟨W3.heap.size, 0, none⟩) 0 0) [] (l.drop k) A' (l.length - k) (c - k) (fun j => ok j ∧ some j ≠ (Value.slice A l.length c).ownBlock) (fun j => (ok j ∧ j < W3.heap.size) ∧ some j ≠ (Value.slice A l.length c).ownBlock) rfl rfl (R_empty2 kO (blk_new _ _) hbs ⟨HF.out _ (Nat.le_of_lt hsz), fun h => by have := hown _ h.symm; omega⟩) (R_src_drop (Kd.R_alloc hR3b _) hk hA') (fun _ _ h => h) (fun j hj => ⟨⟨hj.1.1, hj.2⟩, fun h => by simp [Value.ownBlock] at h; have := hj.1.2; omega⟩) (fun j hj => ⟨HF.out _ (by simp at hj; omega), fun h => by simp at hj; have := hown _ h.symm; omega⟩) (Below.refl _ _) (by simp; omega) (by simp; omega) ?_; intro v6 w6 hr6 _ hg6 _; obtain ⟨A6, c6, rfl⟩ := Kd.R_slice hr6; simp only [List.nil_append] at hr6; rw [hld] at hr6; have HB6 : Aside0 (Below W3.heap.size W3 w6) := ⟨Below.grown (below_alloc (Below.refl _ _) _) hg6 (by simp) (fun j hj => by simp [Value.ownBlock] at hj; omega)⟩; have HR6 := Aside0.mk hr6; clear hr6 hg6)
      have hOwn : (Value.slice A k c).ownBlock = (Value.slice A l.length c).ownBlock := by cases A <;> rfl
      have bx6 := blk_below bx (below_then HB4.out HB4.out.size HB6.out)
      have HBW := Aside0.mk (below_then HB0.out HB0.out.size (below_then HB4.out HB4.out.size HB6.out))
      have hI6 := ho.below HBW.out
      have hR6 := Kd.R_below hR HBW.out
      have hws : w.heap.size < w6.heap.size := Nat.lt_of_lt_of_le hsz HB6.out.size
      have hkl : (l.take k).length = k := by rw [List.length_take]; omega
      clear hcut hA' hR3 hR3b p0 p1 p2 hI0 hC0 b1 b2 b3
      have F : ∀ w', Below w6.heap.size w6 w' → w'.cell? ⟨w.heap.size, 0, none⟩ = some (.int .i64 o.f0) ∧ w'.cell? ⟨w.heap.size, 1, none⟩ = some (.int .i64 o.f1) ∧ w'.cell? ⟨w.heap.size, 2, none⟩ = some (.slice B o.f2.length c2) :=
        fun w' h => ⟨pw_cell_below h ((blk_cell bx6 0).trans rfl), pw_cell_below h ((blk_cell bx6 1).trans rfl), pw_cell_below h ((blk_cell bx6 2).trans rfl)⟩
      go_region_held3 (fun w' => w'.cell? ⟨w.heap.size, 0, none⟩ = some (.int .i64 o.f0) ∧ w'.cell? ⟨w.heap.size, 1, none⟩ = some (.int .i64 o.f1) ∧ w'.cell? ⟨w.heap.size, 2, none⟩ = some (.slice B o.f2.length c2))
        (first | (with_reducible exact F _ (Below.refl _ _)) | (with_reducible exact F _ (below_drew (Below.refl _ _))) | (with_reducible exact ⟨m0, m1, m2⟩) | (with_reducible exact ⟨n0, n1, n2⟩) | (with_reducible exact F _ hk7) | (with_reducible exact F _ (below_alloc hk7 _)) | (with_reducible exact F _ (below_drew (below_alloc hk7 _))) | (with_reducible exact F _ (below_drew hk7)))
        (first
          | (go_at_call 92; refine (sCopy_any B c2 o _ (by first | exact hI6 | exact hI6.below (below_drew (Below.refl _ _))) lo).mono ?_; rintro e w7 ⟨v7, rfl, ho7, h7⟩; obtain ⟨A7, c7, rfl⟩ := Kd.R_slice ho7; have hk7 : Below w6.heap.size w6 w7 := ⟨h7.os, h7.tape, h7.output, h7.size, h7.block⟩; have HO7 : Aside0 ((Kd.int .i64).R 3 w7 w6.heap.size (fun _ => True) (.slice A7 o.f2.length c7) o.f2) := ⟨ho7⟩)
          | (refine Kd.R_append_step kO (w0 := w7) base (by rfl) _ _ 23 43 (.agg #[.int .i64 0, .int .i64 0, .slice none 0 0]) 40 rfl Tryz.underlying23 (infoO) rfl (by decide) (by decide) (.slice A k c) (l.take k) o [.int .i64 o.f0, .int .i64 o.f1, .slice A7 o.f2.length c7] ok (fun j => w6.heap.size ≤ j) rfl rfl (kO_mkM _ _ _ o (Kd.R_lower (Kd.R_mono (Kd.R_bound HO7.out) (fun j hj => hj.2.1)) (by omega))) (fun j hj => ⟨HF.out _ (by omega), fun h => by have := hown _ (hOwn.symm.trans h.symm); omega⟩) (fun j hj => HF.out _ (by have := hk7.size; omega)) (Kd.R_take (Kd.R_below hR6 hk7) hk) (Below.refl _ _) (by have := hk7.size; omega) (by rw [hkl]; omega) ?_; intro v8 w8 hr8 _ hg8 hat8; rw [hOwn] at hg8 hat8; obtain ⟨A8, c8, rfl⟩ := Kd.R_slice hr8; have hne8 : some w.heap.size ≠ (Value.slice A l.length c).ownBlock := fun h => by { have := hown _ h.symm; omega }; have bx8 := blk_grown (blk_below bx6 hk7) hg8 hne8; have m0 : w8.cell? ⟨w.heap.size, 0, none⟩ = some (.int .i64 o.f0) := (blk_cell bx8 0).trans rfl; have m1 : w8.cell? ⟨w.heap.size, 1, none⟩ = some (.int .i64 o.f1) := (blk_cell bx8 1).trans rfl; have m2 : w8.cell? ⟨w.heap.size, 2, none⟩ = some (.slice B o.f2.length c2) := (blk_cell bx8 2).trans rfl; have HR8 := Aside0.mk hr8; have HG8 := Aside0.mk hg8; have HAT8 := Aside0.mk hat8; clear hr8 hg8 hat8)
          | (refine Kd.R_append_rows_step kO (w0 := w8) base (by rfl) _ _ 23 43 (.agg #[.int .i64 0, .int .i64 0, .slice none 0 0]) 40 rfl Tryz.underlying23 (infoO) rfl (by decide) (by decide) (.slice A8 (l.take k ++ [o]).length c8) (l.take k ++ [o]) (l.drop k) A6 (l.length - k) c6 ok (fun j => ((ok j ∧ some j ≠ (Value.slice A l.length c).ownBlock) ∧ j < w7.heap.size) ∧ some j ≠ (Value.slice A6 (l.length - k) c6).ownBlock) rfl rfl HR8.out (R_src (Kd.R_grown (Kd.R_mono (Kd.R_bound (Kd.R_below HR6.out hk7)) (ok' := fun j => (ok j ∧ some j ≠ (Value.slice A l.length c).ownBlock) ∧ j < w7.heap.size) (fun j hj => ⟨hj.1, hj.2.2.1⟩)) HG8.out (fun j hj => hj.1.2))) (fun _ _ h => h) (fun j hj => ⟨hj.1.1.1, fun h => by rcases HAT8.out with h2 | ⟨b, h2, h3⟩ <;> rw [h2] at h; exact hj.1.1.2 h; injection h with h; have := hj.1.2; omega⟩) (fun j hj => HF.out _ (by have := HG8.out.size; have := hk7.size; omega)) (Below.refl _ _) (by have := HG8.out.size; have := hk7.size; omega) (by rw [List.length_append, hkl]; simp; omega) ?_; intro v9 w9 hr9 _ hg9 hat9; obtain ⟨A9, c9, rfl⟩ := Kd.R_slice hr9; have bx9 := blk_grown bx8 hg9 (fun h => by rcases HAT8.out with h2 | ⟨b, h2, h3⟩ <;> rw [h2] at h; exact hne8 h; injection h with h; have := hk7.size; omega); have n0 : w9.cell? ⟨w.heap.size, 0, none⟩ = some (.int .i64 o.f0) := (blk_cell bx9 0).trans rfl; have n1 : w9.cell? ⟨w.heap.size, 1, none⟩ = some (.int .i64 o.f1) := (blk_cell bx9 1).trans rfl; have n2 : w9.cell? ⟨w.heap.size, 2, none⟩ = some (.slice B o.f2.length c2) := (blk_cell bx9 2).trans rfl; have HR9 := Aside0.mk hr9; have HG9 := Aside0.mk hg9; have HAT9 := Aside0.mk hat9; clear hr9 hg9 hat9))
      all_goals
        have hln : (l.take k ++ [o] ++ l.drop k).length = k + (l.length - k + 1) := by simp; omega
        have hE9 : l.take k ++ [o] ++ l.drop k = put l o := by rw [← HE.out]; simp [insO]
        have r9 := HR9.out
        have t9 := HAT9.out
        rw [hln] at r9 t9
        rw [hE9] at r9
        have HB7 := below_then HBW.out HBW.out.size hk7
        have G9 : w.grownBy w9 (Value.slice A l.length c).ownBlock := grown_new (grown_new (grown_of_below HB7 _) HG8.out (fun j hj => .inr hj.symm)) HG9.out (fun j hj => by
          rcases HAT8.out with h2 | ⟨b, h2, h3⟩
          · rw [h2] at hj; exact .inr hj.symm
          · rw [h2] at hj; injection hj with hj; have := HB7.size; exact .inl (by omega))
        have T9 : (Value.slice A9 (k + (l.length - k + 1)) c9).ownBlock = (Value.slice A l.length c).ownBlock ∨ ∃ b, (Value.slice A9 (k + (l.length - k + 1)) c9).ownBlock = some b ∧ w.heap.size ≤ b := by
          rcases t9 with h1 | ⟨b, h1, h2⟩
          · rcases HAT8.out with h3 | ⟨b, h3, h4⟩
            · exact .inl (h1.trans h3)
            · exact .inr ⟨b, h1.trans h3, by have := HB7.size; omega⟩
          · exact .inr ⟨b, h1, by have := HB7.size; have := HG8.out.size; omega⟩
        have HP := Aside0.mk (show PutOut w0 w w9 base ok (Value.slice A l.length c) (put l o) (.returned (Value.slice A9 (k + (l.length - k + 1)) c9)) from ⟨_, rfl, r9, G9, T9⟩)
        clear r9 t9 hE9 hln G9 T9
        go_wp2
        go_ret
        exact HP.out
end Go.Proofs.YtccenpmaooailaaGreat.Sp

/- l3Put: what is put into a list of one's own, in place. -/
set_option linter.unusedVariables false
set_option linter.unusedSimpArgs false
namespace Go.Proofs.YtccenpmaooailaaGreat.Sj
open Go.RowKit Go.Proofs.YtccenpmaooailaaGreatW.PrintWords Go.Proofs.YtccenpmaooailaaGreat.Wd Go.Proofs.YtccenpmaooailaaGreat.Pu Go.Proofs.YtccenpmaooailaaGreat.Ca Go.Proofs.YtccenpmaooailaaGreat.Cb Go.Proofs.YtccenpmaooailaaGreat.Cd Go.Proofs.YtccenpmaooailaaGreat.Ci Go.Proofs.YtccenpmaooailaaGreat.Cp Go.Proofs.YtccenpmaooailaaGreat.Ce Go.Proofs.YtccenpmaooailaaGreat.Cg Go.Proofs.YtccenpmaooailaaGreat.Cf Go.Proofs.YtccenpmaooailaaGreat.Sd Go.Proofs.YtccenpmaooailaaGreat.Se Go.Proofs.YtccenpmaooailaaGreat.Sf Go.Proofs.YtccenpmaooailaaGreat.Sh Go.Proofs.YtccenpmaooailaaGreat.Sc Go.Proofs.YtccenpmaooailaaGreat.Si

def PutOut (w0 w w' : World) (base : Nat) (ok : Nat → Prop) (v : Value) (l' : List Occ) (e : Ending) : Prop :=
  ∃ v', e = .returned v' ∧ (kX w0).R 43 w' base ok v' l' ∧ w.grownBy w' v.ownBlock ∧ (v'.ownBlock = v.ownBlock ∨ ∃ b, v'.ownBlock = some b ∧ w.heap.size ≤ b)

theorem at_step {l : List Occ} {o : Occ} (hs : Sorted l) {k : Nat} (hk : k ≤ l.length) (hlo : ∀ j, j < k → lt (l.getD j zO) o) (hst : k < l.length → ¬ lt (l.getD k zO) o) : At l o k :=
  ⟨hk, hlo, fun j hj hjl => by
    by_cases e : j = k
    · rw [e]; exact hst (by omega)
    · intro h
      exact hst (by omega) (lt_trans (sorted_getD hs (by omega) hjl) h)⟩

set_option maxHeartbeats 2000000 in
set_option maxRecDepth 100000 in
theorem sPut_any (w0 : World) (base : Nat) (ok : Nat → Prop) (v : Value) (l : List Occ) (B : Option Addr) (c2 : Nat) (o : Occ) (w : World) (hw : Below w0.heap.size w0 w) (hs : Sorted l) (hl : l.length ≤ 1048576) (hR : (kX w0).R 43 w base ok v l)
    (ho : IsO w o B c2) (lo : o.f2.length ≤ 1048576) (hbase : base ≤ w.heap.size) (hfresh : ∀ k, w.heap.size ≤ k → ok k) :
    Calls Tryz.prog 81 #[v, .agg #[.int .i64 o.f0, .int .i64 o.f1, .slice B o.f2.length c2]] w fun e w' => PutOut w0 w w' base ok v (put l o) e := by
  obtain ⟨A, c, rfl, hlc, hC⟩ := Kd.R_reads hR
  obtain ⟨hb, k0, k1, k2⟩ := box3 w (.int .i64 o.f0) (.int .i64 o.f1) (.slice B o.f2.length c2) 43
  have bx := box1 w (.int .i64 o.f0) (.int .i64 o.f1) (.slice B o.f2.length c2) 43
  have hC0 := Kd.C_below (X_O hw hC) hb
  have hI0 := ho.below hb
  have hR0 := Kd.R_below hR hb
  have HB0 := Aside0.mk hb
  have HF := Aside0.mk hfresh
  go_enter Tryz.func81, Tryz.ntmps81
  go_wp2
  generalize w.alloc (.cells #[.int .i64 o.f0, .int .i64 o.f1, .slice B o.f2.length c2] 43) = W at k0 k1 k2 bx hC0 hI0 hR0 HB0 ⊢
  clear hb hC
  go_loopw [5] (fun vi wr => ∃ k : Nat, k ≤ l.length ∧ vi = .int .i64 k ∧ Aside0 (∀ j, j < k → lt (l.getD j zO) o) ∧ Aside0 (Below W.heap.size W wr)) (fun vi _ => l.length - (intOf vi).toNat)
  case atStart => exact ⟨0, Nat.zero_le _, rfl, ⟨fun j hj => absurd hj (Nat.not_lt_zero _)⟩, ⟨Below.refl _ _⟩⟩
  case round =>
    obtain ⟨k, hk, rfl, HL, HB⟩ := hrel
    have e0 := cellE (pw_cell_below HB.out k0)
    have e1 := cellE (pw_cell_below HB.out k1)
    have e2 := cellE (pw_cell_below HB.out k2)
    by_cases hlt : k < l.length
    · have g1 : decide (k < l.length) = true := decide_eq_true hlt
      have i1 : (k : Int) < l.length := by omega
      obtain ⟨ad, A2, c3, rfl, ha, hb, hc, hl2, hC2⟩ := atO (Kd.C_below hC0 HB.out) k hlt
      have hIs : IsO wr (l.getD k zO) A2 c3 := ⟨hl2, hC2⟩
      have HG : Aside0 (l.getD k zO = l.getD k zO) := ⟨rfl⟩
      clear hl2 hC2
      generalize hy : l.getD k zO = y at ha hb hc hIs
      have HY := Aside0.mk hy
      clear hy HG
      replace ha := cellE ha
      replace hb := cellE hb
      replace hc := cellE hc
      have hIo := hI0.below HB.out
      have hcl := fun s : Ext wr => sLess_any y o A2 B c3 c2 s.1 (hIs.ext s) (hIo.ext s)
      by_cases hcm : cmpO y o < 0
      · have hd : decide (cmpO y o < 0) = true := decide_eq_true hcm
        have HS := Aside0.mk (show ∀ j, j < k + 1 → lt (l.getD j zO) o from fun j hj => by
          by_cases e : j = k
          · rw [e, HY.out]; exact hcm
          · exact HL.out j (by omega))
        rw [hd] at hcl
        clear hcm hd
        go_wp2
        refine region_ext (W := wr) (Below.refl _ _) (by kernel_rfl) (by kernel_rfl) ?_
        repeat (first | go_big_quiet_step ((first | (go_at_call 59; exact calls_ext (hcl _)))) | quiet_step ((first | (go_at_call 59; exact calls_ext (hcl _)))))
        refine wpQuiet_nil ?_
        rintro _ ⟨s, rfl⟩
        have HB3 := Aside0.mk (below_then HB.out HB.out.size s.2)
        generalize s.1 = W2 at HB3
        go_wp2
        go_roundw
        case rel => exact ⟨k + 1, by omega, by go_num, HS, HB3⟩
        case measure => simp [intOf]; omega
      · have hd : decide (cmpO y o < 0) = false := decide_eq_false hcm
        have HA := Aside0.mk (at_step hs hk HL.out (fun _ h => hcm (by rw [← HY.out]; exact h)))
        rw [hd] at hcl
        clear hcm hd
        go_wp2
        refine region_ext (W := wr) (Below.refl _ _) (by kernel_rfl) (by kernel_rfl) ?_
        repeat (first | go_big_quiet_step ((first | (go_at_call 59; exact calls_ext (hcl _)))) | quiet_step ((first | (go_at_call 59; exact calls_ext (hcl _)))))
        refine wpQuiet_nil ?_
        rintro _ ⟨s, rfl⟩
        have HB3 := Aside0.mk (below_then HB.out HB.out.size s.2)
        have a1 := fun s2 : Ext s.1 => ha ⟨s2.1, below_then s.2 s.2.size s2.2⟩
        have a2 := fun s2 : Ext s.1 => hb ⟨s2.1, below_then s.2 s.2.size s2.2⟩
        have a3 := fun s2 : Ext s.1 => hc ⟨s2.1, below_then s.2 s.2.size s2.2⟩
        have b1 := fun s2 : Ext s.1 => e0 ⟨s2.1, below_then s.2 s.2.size s2.2⟩
        have b2 := fun s2 : Ext s.1 => e1 ⟨s2.1, below_then s.2 s.2.size s2.2⟩
        have b3 := fun s2 : Ext s.1 => e2 ⟨s2.1, below_then s.2 s.2.size s2.2⟩
        have hIs2 := hIs.below s.2
        simp only [] at a1 a2 a3 b1 b2 b3
        generalize s.1 = W2 at HB3 a1 a2 a3 b1 b2 b3 hIs2 ⊢
        have hIo2 := hI0.below HB3.out
        have hcl3 := fun s : Ext W2 => sSame_any y o A2 B c3 c2 s.1 (hIs2.ext s) (hIo2.ext s)
        clear hcl ha hb hc e0 e1 e2
        by_cases hsm : cmpO y o = 0
        · have hd : decide (cmpO y o = 0) = true := decide_eq_true hsm
          have HE := Aside0.mk (at_hit hs HA.out (show hit l o k = true by unfold hit; rw [decide_eq_true hlt, HY.out, hd]; rfl))
          rw [hd] at hcl3
          clear hsm hd
          go_wp2
          refine region_ext (W := W2) (Below.refl _ _) (by kernel_rfl) (by kernel_rfl) ?_
          repeat (first | go_big_quiet_step ((first | (go_at_call 95; exact calls_ext (hcl3 _)))) | quiet_step ((first | (go_at_call 95; exact calls_ext (hcl3 _)))))
          refine wpQuiet_nil ?_
          rintro _ ⟨s, rfl⟩
          have HB4 := Aside0.mk (below_then HB0.out HB0.out.size (below_then HB3.out HB3.out.size s.2))
          generalize s.1 = W3 at HB4
          go_wp2
          go_ret
          exact ⟨_, rfl, by rw [HE.out]; exact Kd.R_below hR HB4.out, grown_of_below HB4.out _, .inl rfl⟩
        · have hd : decide (cmpO y o = 0) = false := decide_eq_false hsm
          have HE := Aside0.mk (at_ins hs HA.out (show hit l o k = false by unfold hit; rw [HY.out, hd]; simp))
          rw [hd] at hcl3
          clear hsm hd
          go_wp2
          refine region_ext (W := W2) (Below.refl _ _) (by kernel_rfl) (by kernel_rfl) ?_
          repeat (first | go_big_quiet_step ((first | (go_at_call 95; exact calls_ext (hcl3 _)))) | quiet_step ((first | (go_at_call 95; exact calls_ext (hcl3 _)))))
          refine wpQuiet_nil ?_
          rintro _ ⟨s, rfl⟩
          have HB4 := Aside0.mk (below_then HB3.out HB3.out.size s.2)
          generalize s.1 = W3 at HB4
          have hR3 := Kd.R_below hR0 HB4.out
          have hR3b := Kd.R_mono (Kd.R_bound hR3) (ok' := fun j => ok j ∧ j < W3.heap.size) (fun j hj => ⟨hj.1, hj.2.2.1⟩)
          have hown : ∀ j, (Value.slice (some ad) l.length c).ownBlock = some j → j < w.heap.size := Kd.R_lt hR
          have hsz : w.heap.size < W3.heap.size := Nat.lt_of_lt_of_le (World.block_lt_of_cell? W _ k0) HB4.out.size
          have hbs : base ≤ W3.heap.size := Nat.le_trans hbase (Nat.le_of_lt hsz)
          have p0 := pw_cell_below HB4.out k0
          have p1 := pw_cell_below HB4.out k1
          have p2 := pw_cell_below HB4.out k2
          obtain ⟨A', hcut, hA'⟩ := cutO (some ad) l.length c k hk
          have htk := fun W => takeX (some ad) (R_head' hR3) l.length c k (by omega) W
          have hld : (l.drop k).length = l.length - k := List.length_drop
          clear hR0
          go_wp2_with ((with_reducible refine gate_dst (N := 38) rfl ?_); refine Kd.R_append_rows (kX w0) (w0 := W3.alloc (.cells #[] 43)) base rfl _ _ 23 43 (.agg #[.int .i64 0, .int .i64 0, .slice none 0 0]) 40 rfl Tryz.underlying23 (infoX w0) rfl (szX w0) (by decide) (.slice (some ⟨W3.heap.size, 0, none⟩) 0 0) [] (l.drop k) A' (l.length - k) (c - k) (fun j => ok j ∧ some j ≠ (Value.slice (some ad) l.length c).ownBlock) (fun j => (ok j ∧ j < W3.heap.size) ∧ some j ≠ (Value.slice (some ad) l.length c).ownBlock) rfl rfl (R_empty2 (kX w0) (blk_new _ _) hbs ⟨HF.out _ (Nat.le_of_lt hsz), fun h => by have := hown _ h.symm; omega⟩) (R_src_drop (Kd.R_alloc hR3b _) hk hA') (fun _ _ h => h) (fun j hj => ⟨⟨hj.1.1, hj.2⟩, fun h => by simp [Value.ownBlock] at h; have := hj.1.2; omega⟩) (fun j hj => ⟨HF.out _ (by simp at hj; omega), fun h => by simp at hj; have := hown _ h.symm; omega⟩) (Below.refl _ _) (by simp; omega) (by simp; omega) ?_; intro v6 w6 hr6 _ hg6 _; obtain ⟨A6, c6, rfl⟩ := Kd.R_slice hr6; simp only [List.nil_append] at hr6; rw [hld] at hr6; have HB6 : Aside0 (Below W3.heap.size W3 w6) := ⟨Below.grown (below_alloc (Below.refl _ _) _) hg6 (by simp) (fun j hj => by simp [Value.ownBlock] at hj; omega)⟩; have HR6 := Aside0.mk hr6; clear hr6 hg6)
          have bx6 := blk_below bx (below_then HB4.out HB4.out.size HB6.out)
          have HBW := Aside0.mk (below_then HB0.out HB0.out.size (below_then HB4.out HB4.out.size HB6.out))
          have hI6 := ho.below HBW.out
          have hR6 := Kd.R_below hR HBW.out
          have hws : w.heap.size < w6.heap.size := Nat.lt_of_lt_of_le hsz HB6.out.size
          have hkl : (l.take k).length = k := by rw [List.length_take]; omega
          clear hcut hA' hR3 hR3b p0 p1 p2 hIs hIs2 hIo hIo2 hcl3 a1 a2 a3 b1 b2 b3 hI0 hC0
          have F : ∀ w', Below w6.heap.size w6 w' → w'.cell? ⟨w.heap.size, 0, none⟩ = some (.int .i64 o.f0) ∧ w'.cell? ⟨w.heap.size, 1, none⟩ = some (.int .i64 o.f1) ∧ w'.cell? ⟨w.heap.size, 2, none⟩ = some (.slice B o.f2.length c2) :=
            fun w' h => ⟨pw_cell_below h ((blk_cell bx6 0).trans rfl), pw_cell_below h ((blk_cell bx6 1).trans rfl), pw_cell_below h ((blk_cell bx6 2).trans rfl)⟩
          go_region_held3 (fun w' => w'.cell? ⟨w.heap.size, 0, none⟩ = some (.int .i64 o.f0) ∧ w'.cell? ⟨w.heap.size, 1, none⟩ = some (.int .i64 o.f1) ∧ w'.cell? ⟨w.heap.size, 2, none⟩ = some (.slice B o.f2.length c2))
            (first | (with_reducible exact F _ (Below.refl _ _)) | (with_reducible exact F _ (below_drew (Below.refl _ _))) | (with_reducible exact ⟨m0, m1, m2⟩) | (with_reducible exact ⟨n0, n1, n2⟩) | (with_reducible exact F _ hk7) | (with_reducible exact F _ (below_alloc hk7 _)) | (with_reducible exact F _ (below_drew (below_alloc hk7 _))) | (with_reducible exact F _ (below_drew hk7)))
            (first
              | (go_at_call 92; refine (sCopy_any B c2 o _ (by first | exact hI6 | exact hI6.below (below_drew (Below.refl _ _))) lo).mono ?_; rintro e w7 ⟨v7, rfl, ho7, h7⟩; obtain ⟨A7, c7, rfl⟩ := Kd.R_slice ho7; have hk7 : Below w6.heap.size w6 w7 := ⟨h7.os, h7.tape, h7.output, h7.size, h7.block⟩; have HO7 : Aside0 ((Kd.int .i64).R 3 w7 w6.heap.size (fun _ => True) (.slice A7 o.f2.length c7) o.f2) := ⟨ho7⟩)
              | (refine Kd.R_append_step (kX w0) (w0 := w7) base (by rfl) _ _ 23 43 (.agg #[.int .i64 0, .int .i64 0, .slice none 0 0]) 40 rfl Tryz.underlying23 (infoX w0) rfl (szX w0) (by decide) (.slice (some ad) k c) (l.take k) o [.int .i64 o.f0, .int .i64 o.f1, .slice A7 o.f2.length c7] ok (fun j => w6.heap.size ≤ j) rfl rfl (kX_made o (Kd.R_lower (Kd.R_mono (Kd.R_bound HO7.out) (fun j hj => hj.2.1)) (by omega))) (fun j hj => ⟨HF.out _ (by omega), fun h => by have := hown _ h.symm; omega⟩) (fun j hj => HF.out _ (by have := hk7.size; omega)) (Kd.R_take (Kd.R_below hR6 hk7) hk) (Below.refl _ _) (by have := hk7.size; omega) (by rw [hkl]; omega) ?_; intro v8 w8 hr8 _ hg8 hat8; obtain ⟨A8, c8, rfl⟩ := Kd.R_slice hr8; have hne8 : some w.heap.size ≠ (Value.slice (some ad) k c).ownBlock := fun h => by { have := hown _ h.symm; omega }; have bx8 := blk_grown (blk_below bx6 hk7) hg8 hne8; have m0 : w8.cell? ⟨w.heap.size, 0, none⟩ = some (.int .i64 o.f0) := (blk_cell bx8 0).trans rfl; have m1 : w8.cell? ⟨w.heap.size, 1, none⟩ = some (.int .i64 o.f1) := (blk_cell bx8 1).trans rfl; have m2 : w8.cell? ⟨w.heap.size, 2, none⟩ = some (.slice B o.f2.length c2) := (blk_cell bx8 2).trans rfl; have HR8 := Aside0.mk hr8; have HG8 := Aside0.mk hg8; have HAT8 := Aside0.mk hat8; clear hr8 hg8 hat8)
              | (refine Kd.R_append_rows_step (kX w0) (w0 := w8) base (by rfl) _ _ 23 43 (.agg #[.int .i64 0, .int .i64 0, .slice none 0 0]) 40 rfl Tryz.underlying23 (infoX w0) rfl (szX w0) (by decide) (.slice A8 (l.take k ++ [o]).length c8) (l.take k ++ [o]) (l.drop k) A6 (l.length - k) c6 ok (fun j => ((ok j ∧ some j ≠ (Value.slice (some ad) l.length c).ownBlock) ∧ j < w7.heap.size) ∧ some j ≠ (Value.slice A6 (l.length - k) c6).ownBlock) rfl rfl HR8.out (R_src (Kd.R_grown (Kd.R_mono (Kd.R_bound (Kd.R_below HR6.out hk7)) (ok' := fun j => (ok j ∧ some j ≠ (Value.slice (some ad) l.length c).ownBlock) ∧ j < w7.heap.size) (fun j hj => ⟨hj.1, hj.2.2.1⟩)) HG8.out (fun j hj => hj.1.2))) (fun _ _ h => h) (fun j hj => ⟨hj.1.1.1, fun h => by rcases HAT8.out with h2 | ⟨b, h2, h3⟩ <;> rw [h2] at h; exact hj.1.1.2 h; injection h with h; have := hj.1.2; omega⟩) (fun j hj => HF.out _ (by have := HG8.out.size; have := hk7.size; omega)) (Below.refl _ _) (by have := HG8.out.size; have := hk7.size; omega) (by rw [List.length_append, hkl]; simp; omega) ?_; intro v9 w9 hr9 _ hg9 hat9; obtain ⟨A9, c9, rfl⟩ := Kd.R_slice hr9; have bx9 := blk_grown bx8 hg9 (fun h => by rcases HAT8.out with h2 | ⟨b, h2, h3⟩ <;> rw [h2] at h; exact hne8 h; injection h with h; have := hk7.size; omega); have n0 : w9.cell? ⟨w.heap.size, 0, none⟩ = some (.int .i64 o.f0) := (blk_cell bx9 0).trans rfl; have n1 : w9.cell? ⟨w.heap.size, 1, none⟩ = some (.int .i64 o.f1) := (blk_cell bx9 1).trans rfl; have n2 : w9.cell? ⟨w.heap.size, 2, none⟩ = some (.slice B o.f2.length c2) := (blk_cell bx9 2).trans rfl; have HR9 := Aside0.mk hr9; have HG9 := Aside0.mk hg9; have HAT9 := Aside0.mk hat9; clear hr9 hg9 hat9))
          all_goals
            have hln : (l.take k ++ [o] ++ l.drop k).length = k + (l.length - k + 1) := by simp; omega
            have hE9 : l.take k ++ [o] ++ l.drop k = put l o := by rw [← HE.out]; simp [insO]
            have r9 := HR9.out
            have t9 := HAT9.out
            rw [hln] at r9 t9
            rw [hE9] at r9
            have HB7 := below_then HBW.out HBW.out.size hk7
            have G9 : w.grownBy w9 (Value.slice (some ad) l.length c).ownBlock := grown_new (grown_new (grown_of_below HB7 _) HG8.out (fun j hj => .inr hj.symm)) HG9.out (fun j hj => by
              rcases HAT8.out with h2 | ⟨b, h2, h3⟩
              · rw [h2] at hj; exact .inr hj.symm
              · rw [h2] at hj; injection hj with hj; have := HB7.size; exact .inl (by omega))
            have T9 : (Value.slice A9 (k + (l.length - k + 1)) c9).ownBlock = (Value.slice (some ad) l.length c).ownBlock ∨ ∃ b, (Value.slice A9 (k + (l.length - k + 1)) c9).ownBlock = some b ∧ w.heap.size ≤ b := by
              rcases t9 with h1 | ⟨b, h1, h2⟩
              · rcases HAT8.out with h3 | ⟨b, h3, h4⟩
                · exact .inl (h1.trans h3)
                · exact .inr ⟨b, h1.trans h3, by have := HB7.size; omega⟩
              · exact .inr ⟨b, h1, by have := HB7.size; have := HG8.out.size; omega⟩
            have HP := Aside0.mk (show PutOut w0 w w9 base ok (Value.slice (some ad) l.length c) (put l o) (.returned (Value.slice A9 (k + (l.length - k + 1)) c9)) from ⟨_, rfl, r9, G9, T9⟩)
            clear r9 t9 hE9 hln G9 T9
            go_wp2
            go_ret
            exact HP.out
    · have hke : k = l.length := by omega
      have g1 : decide (k < l.length) = false := decide_eq_false hlt
      have i1 : ¬ (k : Int) < l.length := by omega
      have HA := Aside0.mk (at_step hs hk HL.out (fun h => absurd h hlt))
      have HE := Aside0.mk (at_ins hs HA.out (show hit l o k = false by unfold hit; rw [decide_eq_false hlt]; rfl))
      clear hke
      go_wp2
      refine region_ext (W := wr) (Below.refl _ _) (by kernel_rfl) (by kernel_rfl) ?_
      repeat (first | go_big_quiet_step (fail) | quiet_step (fail))
      refine wpQuiet_nil ?_
      rintro _ ⟨s, rfl⟩
      have HB3 := Aside0.mk (below_then HB.out HB.out.size s.2)
      have b1 := fun s2 : Ext s.1 => e0 ⟨s2.1, below_then s.2 s.2.size s2.2⟩
      have b2 := fun s2 : Ext s.1 => e1 ⟨s2.1, below_then s.2 s.2.size s2.2⟩
      have b3 := fun s2 : Ext s.1 => e2 ⟨s2.1, below_then s.2 s.2.size s2.2⟩
      simp only [] at b1 b2 b3
      generalize s.1 = W2 at HB3 b1 b2 b3 ⊢
      clear e0 e1 e2
      go_wp2
      refine region_ext (W := W2) (Below.refl _ _) (by kernel_rfl) (by kernel_rfl) ?_
      repeat (first | go_big_quiet_step (fail) | quiet_step (fail))
      refine wpQuiet_nil ?_
      rintro _ ⟨s, rfl⟩
      have HB4 := Aside0.mk (below_then HB3.out HB3.out.size s.2)
      generalize s.1 = W3 at HB4
      have hR3 := Kd.R_below hR0 HB4.out
      have hR3b := Kd.R_mono (Kd.R_bound hR3) (ok' := fun j => ok j ∧ j < W3.heap.size) (fun j hj => ⟨hj.1, hj.2.2.1⟩)
      have hown : ∀ j, (Value.slice A l.length c).ownBlock = some j → j < w.heap.size := Kd.R_lt hR
      have hsz : w.heap.size < W3.heap.size := Nat.lt_of_lt_of_le (World.block_lt_of_cell? W _ k0) HB4.out.size
      have hbs : base ≤ W3.heap.size := Nat.le_trans hbase (Nat.le_of_lt hsz)
      have p0 := pw_cell_below HB4.out k0
      have p1 := pw_cell_below HB4.out k1
      have p2 := pw_cell_below HB4.out k2
      obtain ⟨A', hcut, hA'⟩ := cutO A l.length c k hk
      have htk := fun W => takeX A (R_head' hR3) l.length c k (by omega) W
      have hld : (l.drop k).length = l.length - k := List.length_drop
      clear hR0
      go_wp2_with ((with_reducible refine gate_dst (N := 38) rfl ?_); refine Kd.R_append_rows (kX w0) (w0 := W3.alloc (.cells #[] 43)) base rfl _ _ 23 43 (.agg #[.int .i64 0, .int .i64 0, .slice none 0 0]) 40 rfl Tryz.underlying23 (infoX w0) rfl (szX w0) (by decide) (.slice (some ⟨W3.heap.size, 0, none⟩) 0 0) [] (l.drop k) A' (l.length - k) (c - k) (fun j => ok j ∧ some j ≠ (Value.slice A l.length c).ownBlock) (fun j => (ok j ∧ j < W3.heap.size) ∧ some j ≠ (Value.slice A l.length c).ownBlock) rfl rfl (R_empty2 (kX w0) (blk_new _ _) hbs ⟨HF.out _ (Nat.le_of_lt hsz), fun h => by have := hown _ h.symm; omega⟩) (R_src_drop (Kd.R_alloc hR3b _) hk hA') (fun _ _ h => h) (fun j hj => ⟨⟨hj.1.1, hj.2⟩, fun h => by simp [Value.ownBlock] at h; have := hj.1.2; omega⟩) (fun j hj => ⟨HF.out _ (by simp at hj; omega), fun h => by simp at hj; have := hown _ h.symm; omega⟩) (Below.refl _ _) (by simp; omega) (by simp; omega) ?_; intro v6 w6 hr6 _ hg6 _; obtain ⟨A6, c6, rfl⟩ := Kd.R_slice hr6; simp only [List.nil_append] at hr6; rw [hld] at hr6; have HB6 : Aside0 (Below W3.heap.size W3 w6) := ⟨Below.grown (below_alloc (Below.refl _ _) _) hg6 (by simp) (fun j hj => by simp [Value.ownBlock] at hj; omega)⟩; have HR6 := Aside0.mk hr6; clear hr6 hg6)
      have hOwn : (Value.slice A k c).ownBlock = (Value.slice A l.length c).ownBlock := by cases A <;> rfl
      have bx6 := blk_below bx (below_then HB4.out HB4.out.size HB6.out)
      have HBW := Aside0.mk (below_then HB0.out HB0.out.size (below_then HB4.out HB4.out.size HB6.out))
      have hI6 := ho.below HBW.out
      have hR6 := Kd.R_below hR HBW.out
      have hws : w.heap.size < w6.heap.size := Nat.lt_of_lt_of_le hsz HB6.out.size
      have hkl : (l.take k).length = k := by rw [List.length_take]; omega
      clear hcut hA' hR3 hR3b p0 p1 p2 hI0 hC0 b1 b2 b3
      have F : ∀ w', Below w6.heap.size w6 w' → w'.cell? ⟨w.heap.size, 0, none⟩ = some (.int .i64 o.f0) ∧ w'.cell? ⟨w.heap.size, 1, none⟩ = some (.int .i64 o.f1) ∧ w'.cell? ⟨w.heap.size, 2, none⟩ = some (.slice B o.f2.length c2) :=
        fun w' h => ⟨pw_cell_below h ((blk_cell bx6 0).trans rfl), pw_cell_below h ((blk_cell bx6 1).trans rfl), pw_cell_below h ((blk_cell bx6 2).trans rfl)⟩
      go_region_held3 (fun w' => w'.cell? ⟨w.heap.size, 0, none⟩ = some (.int .i64 o.f0) ∧ w'.cell? ⟨w.heap.size, 1, none⟩ = some (.int .i64 o.f1) ∧ w'.cell? ⟨w.heap.size, 2, none⟩ = some (.slice B o.f2.length c2))
        (first | (with_reducible exact F _ (Below.refl _ _)) | (with_reducible exact F _ (below_drew (Below.refl _ _))) | (with_reducible exact ⟨m0, m1, m2⟩) | (with_reducible exact ⟨n0, n1, n2⟩) | (with_reducible exact F _ hk7) | (with_reducible exact F _ (below_alloc hk7 _)) | (with_reducible exact F _ (below_drew (below_alloc hk7 _))) | (with_reducible exact F _ (below_drew hk7)))
        (first
          | (go_at_call 92; refine (sCopy_any B c2 o _ (by first | exact hI6 | exact hI6.below (below_drew (Below.refl _ _))) lo).mono ?_; rintro e w7 ⟨v7, rfl, ho7, h7⟩; obtain ⟨A7, c7, rfl⟩ := Kd.R_slice ho7; have hk7 : Below w6.heap.size w6 w7 := ⟨h7.os, h7.tape, h7.output, h7.size, h7.block⟩; have HO7 : Aside0 ((Kd.int .i64).R 3 w7 w6.heap.size (fun _ => True) (.slice A7 o.f2.length c7) o.f2) := ⟨ho7⟩)
          | (refine Kd.R_append_step (kX w0) (w0 := w7) base (by rfl) _ _ 23 43 (.agg #[.int .i64 0, .int .i64 0, .slice none 0 0]) 40 rfl Tryz.underlying23 (infoX w0) rfl (szX w0) (by decide) (.slice A k c) (l.take k) o [.int .i64 o.f0, .int .i64 o.f1, .slice A7 o.f2.length c7] ok (fun j => w6.heap.size ≤ j) rfl rfl (kX_made o (Kd.R_lower (Kd.R_mono (Kd.R_bound HO7.out) (fun j hj => hj.2.1)) (by omega))) (fun j hj => ⟨HF.out _ (by omega), fun h => by have := hown _ (hOwn.symm.trans h.symm); omega⟩) (fun j hj => HF.out _ (by have := hk7.size; omega)) (Kd.R_take (Kd.R_below hR6 hk7) hk) (Below.refl _ _) (by have := hk7.size; omega) (by rw [hkl]; omega) ?_; intro v8 w8 hr8 _ hg8 hat8; rw [hOwn] at hg8 hat8; obtain ⟨A8, c8, rfl⟩ := Kd.R_slice hr8; have hne8 : some w.heap.size ≠ (Value.slice A l.length c).ownBlock := fun h => by { have := hown _ h.symm; omega }; have bx8 := blk_grown (blk_below bx6 hk7) hg8 hne8; have m0 : w8.cell? ⟨w.heap.size, 0, none⟩ = some (.int .i64 o.f0) := (blk_cell bx8 0).trans rfl; have m1 : w8.cell? ⟨w.heap.size, 1, none⟩ = some (.int .i64 o.f1) := (blk_cell bx8 1).trans rfl; have m2 : w8.cell? ⟨w.heap.size, 2, none⟩ = some (.slice B o.f2.length c2) := (blk_cell bx8 2).trans rfl; have HR8 := Aside0.mk hr8; have HG8 := Aside0.mk hg8; have HAT8 := Aside0.mk hat8; clear hr8 hg8 hat8)
          | (refine Kd.R_append_rows_step (kX w0) (w0 := w8) base (by rfl) _ _ 23 43 (.agg #[.int .i64 0, .int .i64 0, .slice none 0 0]) 40 rfl Tryz.underlying23 (infoX w0) rfl (szX w0) (by decide) (.slice A8 (l.take k ++ [o]).length c8) (l.take k ++ [o]) (l.drop k) A6 (l.length - k) c6 ok (fun j => ((ok j ∧ some j ≠ (Value.slice A l.length c).ownBlock) ∧ j < w7.heap.size) ∧ some j ≠ (Value.slice A6 (l.length - k) c6).ownBlock) rfl rfl HR8.out (R_src (Kd.R_grown (Kd.R_mono (Kd.R_bound (Kd.R_below HR6.out hk7)) (ok' := fun j => (ok j ∧ some j ≠ (Value.slice A l.length c).ownBlock) ∧ j < w7.heap.size) (fun j hj => ⟨hj.1, hj.2.2.1⟩)) HG8.out (fun j hj => hj.1.2))) (fun _ _ h => h) (fun j hj => ⟨hj.1.1.1, fun h => by rcases HAT8.out with h2 | ⟨b, h2, h3⟩ <;> rw [h2] at h; exact hj.1.1.2 h; injection h with h; have := hj.1.2; omega⟩) (fun j hj => HF.out _ (by have := HG8.out.size; have := hk7.size; omega)) (Below.refl _ _) (by have := HG8.out.size; have := hk7.size; omega) (by rw [List.length_append, hkl]; simp; omega) ?_; intro v9 w9 hr9 _ hg9 hat9; obtain ⟨A9, c9, rfl⟩ := Kd.R_slice hr9; have bx9 := blk_grown bx8 hg9 (fun h => by rcases HAT8.out with h2 | ⟨b, h2, h3⟩ <;> rw [h2] at h; exact hne8 h; injection h with h; have := hk7.size; omega); have n0 : w9.cell? ⟨w.heap.size, 0, none⟩ = some (.int .i64 o.f0) := (blk_cell bx9 0).trans rfl; have n1 : w9.cell? ⟨w.heap.size, 1, none⟩ = some (.int .i64 o.f1) := (blk_cell bx9 1).trans rfl; have n2 : w9.cell? ⟨w.heap.size, 2, none⟩ = some (.slice B o.f2.length c2) := (blk_cell bx9 2).trans rfl; have HR9 := Aside0.mk hr9; have HG9 := Aside0.mk hg9; have HAT9 := Aside0.mk hat9; clear hr9 hg9 hat9))
      all_goals
        have hln : (l.take k ++ [o] ++ l.drop k).length = k + (l.length - k + 1) := by simp; omega
        have hE9 : l.take k ++ [o] ++ l.drop k = put l o := by rw [← HE.out]; simp [insO]
        have r9 := HR9.out
        have t9 := HAT9.out
        rw [hln] at r9 t9
        rw [hE9] at r9
        have HB7 := below_then HBW.out HBW.out.size hk7
        have G9 : w.grownBy w9 (Value.slice A l.length c).ownBlock := grown_new (grown_new (grown_of_below HB7 _) HG8.out (fun j hj => .inr hj.symm)) HG9.out (fun j hj => by
          rcases HAT8.out with h2 | ⟨b, h2, h3⟩
          · rw [h2] at hj; exact .inr hj.symm
          · rw [h2] at hj; injection hj with hj; have := HB7.size; exact .inl (by omega))
        have T9 : (Value.slice A9 (k + (l.length - k + 1)) c9).ownBlock = (Value.slice A l.length c).ownBlock ∨ ∃ b, (Value.slice A9 (k + (l.length - k + 1)) c9).ownBlock = some b ∧ w.heap.size ≤ b := by
          rcases t9 with h1 | ⟨b, h1, h2⟩
          · rcases HAT8.out with h3 | ⟨b, h3, h4⟩
            · exact .inl (h1.trans h3)
            · exact .inr ⟨b, h1.trans h3, by have := HB7.size; omega⟩
          · exact .inr ⟨b, h1, by have := HB7.size; have := HG8.out.size; omega⟩
        have HP := Aside0.mk (show PutOut w0 w w9 base ok (Value.slice A l.length c) (put l o) (.returned (Value.slice A9 (k + (l.length - k + 1)) c9)) from ⟨_, rfl, r9, G9, T9⟩)
        clear r9 t9 hE9 hln G9 T9
        go_wp2
        go_ret
        exact HP.out
end Go.Proofs.YtccenpmaooailaaGreat.Sj

/- The reference's draws of lists of occurrences. -/
set_option linter.unusedVariables false
set_option linter.unusedSimpArgs false
namespace Go.Proofs.YtccenpmaooailaaGreat.Sk
open Go.RowKit Go.Proofs.YtccenpmaooailaaGreatW.PrintWords Go.Proofs.YtccenpmaooailaaGreat.Wd Go.Proofs.YtccenpmaooailaaGreat.Pu Go.Proofs.YtccenpmaooailaaGreat.Ca Go.Proofs.YtccenpmaooailaaGreat.Cg Go.Proofs.YtccenpmaooailaaGreat.Cf Go.Proofs.YtccenpmaooailaaGreat.Ce Go.Proofs.YtccenpmaooailaaGreat.Sa Go.Proofs.YtccenpmaooailaaGreat.Sb Go.Proofs.YtccenpmaooailaaGreat.Sc Go.Proofs.YtccenpmaooailaaGreat.Sh Go.Proofs.YtccenpmaooailaaGreat.Si Go.Proofs.YtccenpmaooailaaGreat.Sj

end Go.Proofs.YtccenpmaooailaaGreat.Sk

/- The reference's draws of bent lists. -/
set_option linter.unusedVariables false
set_option linter.unusedSimpArgs false
namespace Go.Proofs.YtccenpmaooailaaGreat.Sl
open Go.RowKit Go.Proofs.YtccenpmaooailaaGreatW.PrintWords Go.Proofs.YtccenpmaooailaaGreat.Wd Go.Proofs.YtccenpmaooailaaGreat.Pu Go.Proofs.YtccenpmaooailaaGreat.Ca Go.Proofs.YtccenpmaooailaaGreat.Cg Go.Proofs.YtccenpmaooailaaGreat.Cf Go.Proofs.YtccenpmaooailaaGreat.Ce Go.Proofs.YtccenpmaooailaaGreat.Cp Go.Proofs.YtccenpmaooailaaGreat.Sa Go.Proofs.YtccenpmaooailaaGreat.Sb Go.Proofs.YtccenpmaooailaaGreat.Sc Go.Proofs.YtccenpmaooailaaGreat.Sh Go.Proofs.YtccenpmaooailaaGreat.Si Go.Proofs.YtccenpmaooailaaGreat.Sj Go.Proofs.YtccenpmaooailaaGreat.Sk

theorem isOk_24 {o : Occ} (h : IsOk o) : o.f2.length ≤ 24 := by
  have h2 := okO_iff.2 h
  unfold okO at h2
  simp only [Bool.and_eq_true] at h2
  have := Sf.okIds_len (by omega) h2.1
  omega

end Go.Proofs.YtccenpmaooailaaGreat.Sl

/- l3Bent again, further on. -/
set_option linter.unusedVariables false
set_option linter.unusedSimpArgs false
namespace Go.Proofs.YtccenpmaooailaaGreat.Sl2
open Go.RowKit Go.Proofs.YtccenpmaooailaaGreatW.PrintWords Go.Proofs.YtccenpmaooailaaGreat.Wd Go.Proofs.YtccenpmaooailaaGreat.Pu Go.Proofs.YtccenpmaooailaaGreat.Ca Go.Proofs.YtccenpmaooailaaGreat.Cg Go.Proofs.YtccenpmaooailaaGreat.Cf Go.Proofs.YtccenpmaooailaaGreat.Ce Go.Proofs.YtccenpmaooailaaGreat.Cp Go.Proofs.YtccenpmaooailaaGreat.Sa Go.Proofs.YtccenpmaooailaaGreat.Sb Go.Proofs.YtccenpmaooailaaGreat.Sc Go.Proofs.YtccenpmaooailaaGreat.Sh Go.Proofs.YtccenpmaooailaaGreat.Si Go.Proofs.YtccenpmaooailaaGreat.Sj Go.Proofs.YtccenpmaooailaaGreat.Sk Go.Proofs.YtccenpmaooailaaGreat.Sl
end Go.Proofs.YtccenpmaooailaaGreat.Sl2

/- The reference's draws: DrawOccOk, DrawOccsOk. -/
set_option linter.unusedVariables false
set_option linter.unusedSimpArgs false
namespace Go.Proofs.YtccenpmaooailaaGreat.Sm
open Go.RowKit Go.Proofs.YtccenpmaooailaaGreatW.PrintWords Go.Proofs.YtccenpmaooailaaGreat.Wd Go.Proofs.YtccenpmaooailaaGreat.Pu Go.Proofs.YtccenpmaooailaaGreat.Ca Go.Proofs.YtccenpmaooailaaGreat.Cg Go.Proofs.YtccenpmaooailaaGreat.Cf Go.Proofs.YtccenpmaooailaaGreat.Ce Go.Proofs.YtccenpmaooailaaGreat.Cp Go.Proofs.YtccenpmaooailaaGreat.Sa Go.Proofs.YtccenpmaooailaaGreat.Sb Go.Proofs.YtccenpmaooailaaGreat.Sc Go.Proofs.YtccenpmaooailaaGreat.Sh Go.Proofs.YtccenpmaooailaaGreat.Si Go.Proofs.YtccenpmaooailaaGreat.Sj Go.Proofs.YtccenpmaooailaaGreat.Sk Go.Proofs.YtccenpmaooailaaGreat.Sl

/-- a list as it was drawn -/
def ListOut (w w' : World) (e : Ending) : Prop := ∃ (l : List Occ) (A : Option Addr) (c : Nat), e = .returned (.slice A l.length c) ∧ IsL w' l A c ∧ l.length ≤ 7 ∧ (∀ x ∈ l, x.f2.length ≤ 24) ∧ Below w.heap.size w w'
end Go.Proofs.YtccenpmaooailaaGreat.Sm
