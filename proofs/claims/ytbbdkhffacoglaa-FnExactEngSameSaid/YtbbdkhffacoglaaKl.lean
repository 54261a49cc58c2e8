
/- The reference's comparison of two occurrences. Out of this proof's own texts. -/
import Derived.Test.YtbbdkhffacoglaaKk
set_option linter.unusedVariables false
set_option linter.unusedSimpArgs false
namespace Go.Proofs.Ytbbdkhffacoglaa.Kl
open Go.RowKit Go.Proofs.YtbbdkhffacoglaaW.PrintWords Go.Proofs.Ytbbdkhffacoglaa.Ja Go.Proofs.Ytbbdkhffacoglaa.Jb Go.Proofs.Ytbbdkhffacoglaa.Jc Go.Proofs.Ytbbdkhffacoglaa.Jd Go.Proofs.Ytbbdkhffacoglaa.Ka Go.Proofs.Ytbbdkhffacoglaa.Ke Go.Proofs.Ytbbdkhffacoglaa.Kf Go.Proofs.Ytbbdkhffacoglaa.Kg Go.Proofs.Ytbbdkhffacoglaa.Kh Go.Proofs.Ytbbdkhffacoglaa.Ki Go.Proofs.Ytbbdkhffacoglaa.Kj Go.Proofs.Ytbbdkhffacoglaa.Kk
theorem cmpIds_cons {a b : List Int} {k : Nat} (h : k < a.length) (h2 : k < b.length) : cmpIds (a.drop k) (b.drop k) = if a.getD k 0 < b.getD k 0 then -1 else if b.getD k 0 < a.getD k 0 then 1 else cmpIds (a.drop (k + 1)) (b.drop (k + 1)) := by
  rw [drop_at a 0 k h, drop_at b 0 k h2, cmpIds]

set_option maxRecDepth 100000 in
theorem ids_any (A B : Option Addr) (c c2 : Nat) (a b : List Int) (w : World) (ha : (Kd.int .i64).C w A a.length a) (hb : (Kd.int .i64).C w B b.length b) :
    Calls Try.prog 65 #[.slice A a.length c, .slice B b.length c2] w fun e w' => e = .returned (.int .i64 (cmpIds a b)) ∧ Below w.heap.size w w' := by
  have hn := (C_len ha).2
  have hn2 := (C_len hb).2
  go_enter Try.func65, Try.ntmps65
  go_wp2
  go_loopw [5] (fun vi wr => ∃ k : Nat, k ≤ a.length ∧ k ≤ b.length ∧ vi = .int .i64 k ∧ Aside0 (cmpIds a b = cmpIds (a.drop k) (b.drop k)) ∧ Aside0 (Below w.heap.size w wr)) (fun vi _ => a.length - (intOf vi).toNat)
  case atStart => exact ⟨0, Nat.zero_le _, Nat.zero_le _, rfl, ⟨rfl⟩, ⟨Below.refl _ _⟩⟩
  case round =>
    obtain ⟨k, hk, hk2, rfl, HH, HB⟩ := hrel
    by_cases hlt : k < a.length
    · by_cases hlt2 : k < b.length
      · have g1 : decide (k < a.length) = true := decide_eq_true hlt
        have g2 : decide (k < b.length) = true := decide_eq_true hlt2
        have i1 : (k : Int) < a.length := by omega
        have i2 : (k : Int) < b.length := by omega
        obtain ⟨ad, rfl, hc⟩ := at1 (Kd.C_below ha HB.out) k hlt
        obtain ⟨ad2, rfl, hc2⟩ := at1 (Kd.C_below hb HB.out) k hlt2
        have HS := Aside0.mk (HH.out.trans (cmpIds_cons hlt hlt2))
        generalize a.getD k 0 = x at hc HS
        generalize b.getD k 0 = y at hc2 HS
        replace hc := cellE hc
        replace hc2 := cellE hc2
        by_cases hxy : x < y
        · have t1 : decide (x < y) = true := decide_eq_true hxy
          have HE := Aside0.mk (show cmpIds a b = -1 by rw [HS.out, if_pos hxy])
          go_wp2
          refine region_ext (W := wr) (Below.refl _ _) (by kernel_rfl) (by kernel_rfl) ?_
          repeat (first | go_big_quiet_step (fail) | quiet_step (fail))
          refine wpQuiet_nil ?_
          rintro _ ⟨s, rfl⟩
          have HB3 := Aside0.mk (below_then HB.out HB.out.size s.2)
          generalize s.1 = W2 at HB3
          go_wp2
          go_ret
          exact ⟨by rw [HE.out]; rfl, HB3.out⟩
        · have t1 : decide (x < y) = false := decide_eq_false hxy
          by_cases hyx : y < x
          · have t2 : decide (x > y) = true := decide_eq_true hyx
            have HE := Aside0.mk (show cmpIds a b = 1 by rw [HS.out, if_neg hxy, if_pos hyx])
            go_wp2
            refine region_ext (W := wr) (Below.refl _ _) (by kernel_rfl) (by kernel_rfl) ?_
            repeat (first | go_big_quiet_step (fail) | quiet_step (fail))
            refine wpQuiet_nil ?_
            rintro _ ⟨s, rfl⟩
            have HB3 := Aside0.mk (below_then HB.out HB.out.size s.2)
            have hc3 := fun s2 : Ext s.1 => hc ⟨s2.1, below_then s.2 s.2.size s2.2⟩
            have hc4 := fun s2 : Ext s.1 => hc2 ⟨s2.1, below_then s.2 s.2.size s2.2⟩
            simp only [] at hc3 hc4
            generalize s.1 = W2 at HB3 hc3 hc4 ⊢
            go_wp2
            refine region_ext (W := W2) (Below.refl _ _) (by kernel_rfl) (by kernel_rfl) ?_
            repeat (first | go_big_quiet_step (fail) | quiet_step (fail))
            refine wpQuiet_nil ?_
            rintro _ ⟨s3, rfl⟩
            have HB4 := Aside0.mk (below_then HB3.out HB3.out.size s3.2)
            generalize s3.1 = W3 at HB4
            go_wp2
            go_ret
            exact ⟨by rw [HE.out]; rfl, HB4.out⟩
          · have t2 : decide (x > y) = false := decide_eq_false hyx
            have HE := Aside0.mk (show cmpIds a b = cmpIds (a.drop (k + 1)) (b.drop (k + 1)) by rw [HS.out, if_neg hxy, if_neg hyx])
            go_wp2
            refine region_ext (W := wr) (Below.refl _ _) (by kernel_rfl) (by kernel_rfl) ?_
            repeat (first | go_big_quiet_step (fail) | quiet_step (fail))
            refine wpQuiet_nil ?_
            rintro _ ⟨s, rfl⟩
            have HB3 := Aside0.mk (below_then HB.out HB.out.size s.2)
            have hc3 := fun s2 : Ext s.1 => hc ⟨s2.1, below_then s.2 s.2.size s2.2⟩
            have hc4 := fun s2 : Ext s.1 => hc2 ⟨s2.1, below_then s.2 s.2.size s2.2⟩
            simp only [] at hc3 hc4
            generalize s.1 = W2 at HB3 hc3 hc4 ⊢
            go_wp2
            refine region_ext (W := W2) (Below.refl _ _) (by kernel_rfl) (by kernel_rfl) ?_
            repeat (first | go_big_quiet_step (fail) | quiet_step (fail))
            refine wpQuiet_nil ?_
            rintro _ ⟨s3, rfl⟩
            have HB4 := Aside0.mk (below_then HB3.out HB3.out.size s3.2)
            generalize s3.1 = W3 at HB4
            go_wp2
            go_roundw
            case rel => exact ⟨k + 1, by omega, by omega, by go_num, HE, HB4⟩
            case measure => simp [intOf]; omega
      · have g1 : decide (k < a.length) = true := decide_eq_true hlt
        have g2 : decide (k < b.length) = false := decide_eq_false hlt2
        have l1 : decide (a.length < b.length) = false := decide_eq_false (by omega)
        have l2 : decide (a.length > b.length) = true := decide_eq_true (by omega)
        have l3 : decide (b.length < a.length) = true := decide_eq_true (by omega)
        have i1 : (k : Int) < a.length := by omega
        have i2 : ¬ (k : Int) < b.length := by omega
        have HE := Aside0.mk (show cmpIds a b = 1 by rw [HH.out, List.drop_of_length_le (l := b) (by omega), drop_at a 0 k hlt, cmpIds])
        go_wp2
        go_ret
        exact ⟨by rw [HE.out]; rfl, HB.out⟩
    · have hke : k = a.length := by omega
      have g1 : decide (k < a.length) = false := decide_eq_false hlt
      have l2 : decide (a.length > b.length) = false := decide_eq_false (by omega)
      have l3 : decide (b.length < a.length) = false := decide_eq_false (by omega)
      have i1 : ¬ (k : Int) < a.length := by omega
      by_cases hl : a.length < b.length
      · have hl2 : decide (a.length < b.length) = true := decide_eq_true hl
        have HE := Aside0.mk (show cmpIds a b = -1 by rw [HH.out, List.drop_of_length_le (l := a) (by omega), drop_at b 0 k (by omega), cmpIds])
        clear hke
        go_wp2
        go_ret
        exact ⟨by rw [HE.out]; rfl, HB.out⟩
      · have hl2 : decide (a.length < b.length) = false := decide_eq_false hl
        have HE := Aside0.mk (show cmpIds a b = 0 by rw [HH.out, List.drop_of_length_le (l := a) (by omega), List.drop_of_length_le (l := b) (by omega), cmpIds])
        clear hke
        go_wp2
        go_ret
        exact ⟨by rw [HE.out]; rfl, HB.out⟩
theorem sSame_any (x y : Occ) (A B : Option Addr) (c c2 : Nat) (w : World) (hx : IsO w x A c) (hy : IsO w y B c2) :
    Calls Try.prog 40 #[.agg #[.int .i64 x.f0, .int .i64 x.f1, .slice A x.f2.length c], .agg #[.int .i64 y.f0, .int .i64 y.f1, .slice B y.f2.length c2]] w fun e w' => e = .returned (.bool (decide (cmpO x y = 0))) ∧ Below w.heap.size w w' := by
  by_cases g : x.f0 = y.f0
  · have g1 : (x.f0 == y.f0) = true := by simpa using g
    by_cases h : x.f1 = y.f1
    · have h1 : (x.f1 == y.f1) = true := by simpa using h
      have HC := Aside0.mk (show cmpO x y = cmpIds x.f2 y.f2 by unfold cmpO; rw [if_pos h, if_pos g])
      by_cases hl : x.f2.length = y.f2.length
      · have l1 : ((x.f2.length : Int) == y.f2.length) = true := by rw [beq_iff_eq]; omega
        have l2 : decide (x.f2.length = y.f2.length) = true := decide_eq_true hl
        have hb : Below w.heap.size w ((w.alloc (.cells #[.int .i64 x.f0, .int .i64 x.f1, .slice A x.f2.length c] 60)).alloc (.cells #[.int .i64 y.f0, .int .i64 y.f1, .slice B y.f2.length c2] 60)) := by repeat (first | exact Below.refl _ _ | apply below_alloc)
        have hcl := ids_any A B c c2 x.f2 y.f2 _ (Kd.C_below hx.2 hb) (Kd.C_below hy.2 hb)
        clear h g hl
        have HB := Aside0.mk hb
        clear hb
        go_enter Try.func40, Try.ntmps40
        go_wp2_with (go_at_call 65; refine hcl.mono ?_; rintro e w' ⟨rfl, hw⟩; have HB2 := Aside0.mk (below_then HB.out HB.out.size hw); clear hw)
        go_ret
        exact ⟨by rw [HC.out]; exact ret_bool (by rw [Bool.eq_iff_iff]; simp), HB2.out⟩
      · have l1 : ((x.f2.length : Int) == y.f2.length) = false := by rw [beq_eq_false_iff_ne]; omega
        have l2 : decide (x.f2.length = y.f2.length) = false := decide_eq_false hl
        have HF := Aside0.mk (show decide (cmpO x y = 0) = false from decide_eq_false (fun e => hl (by rw [(cmpO_eq x y).1 e])))
        clear h g hl
        go_enter Try.func40, Try.ntmps40
        go_wp2
        go_ret
        exact ⟨by rw [HF.out]; rfl, by repeat (first | exact Below.refl _ _ | apply below_alloc)⟩
    · have h1 : (x.f1 == y.f1) = false := by simpa using h
      have HF := Aside0.mk (show decide (cmpO x y = 0) = false from decide_eq_false (fun e => h (by rw [(cmpO_eq x y).1 e])))
      clear h g
      go_enter Try.func40, Try.ntmps40
      go_wp2
      go_ret
      exact ⟨by rw [HF.out]; rfl, by repeat (first | exact Below.refl _ _ | apply below_alloc)⟩
  · have g1 : (x.f0 == y.f0) = false := by simpa using g
    have HF := Aside0.mk (show decide (cmpO x y = 0) = false from decide_eq_false (fun e => g (by rw [(cmpO_eq x y).1 e])))
    clear g
    go_enter Try.func40, Try.ntmps40
    go_wp2
    go_ret
    exact ⟨by rw [HF.out]; rfl, by repeat (first | exact Below.refl _ _ | apply below_alloc)⟩
end Go.Proofs.Ytbbdkhffacoglaa.Kl
