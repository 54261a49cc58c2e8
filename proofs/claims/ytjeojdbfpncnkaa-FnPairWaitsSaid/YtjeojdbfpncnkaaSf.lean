/- What is right, by the reference: OccOk. -/
import Derived.Test.YtjeojdbfpncnkaaSe
set_option linter.unusedVariables false
set_option linter.unusedSimpArgs false
namespace Go.Proofs.Ytjeojdbfpncnkaa.Sf
open Go.RowKit Go.Proofs.YtjeojdbfpncnkaaW.PrintWords Go.Proofs.Ytjeojdbfpncnkaa.Wd Go.Proofs.Ytjeojdbfpncnkaa.Pu Go.Proofs.Ytjeojdbfpncnkaa.Ca Go.Proofs.Ytjeojdbfpncnkaa.Cg Go.Proofs.Ytjeojdbfpncnkaa.Cf Go.Proofs.Ytjeojdbfpncnkaa.Sd

theorem okIds_len : ∀ {l : List Int} {last : Int}, last ≤ 23 → okIds last l = true → (l.length : Int) ≤ 23 - last
  | [], _, h, _ => by simp; omega
  | z :: l, last, h, hk => by
    simp only [okIds, inb, Bool.and_eq_true, decide_eq_true_eq] at hk
    have := okIds_len hk.1.2 hk.2
    simp only [List.length_cons]
    omega
/-- the number ahead of place k -/
def pre (ids : List Int) (k : Nat) : Int := if k = 0 then -1 else ids.getD (k - 1) 0

set_option maxHeartbeats 1000000 in
set_option maxRecDepth 100000 in
theorem sOccOk_any (x : Occ) (A : Option Addr) (c : Nat) (w : World) (hx : IsO w x A c) :
    Calls Try.prog 11 #[.agg #[.int .i64 x.f0, .int .i64 x.f1, .slice A x.f2.length c]] w fun e w' => e = .returned (.bool (okO x)) ∧ Below w.heap.size w w' := by
  obtain ⟨hb, k0, k1, k2⟩ := box3 w (.int .i64 x.f0) (.int .i64 x.f1) (.slice A x.f2.length c) 25
  obtain ⟨n, hn⟩ : ∃ n, n = x.f2.length := ⟨_, rfl⟩
  have hnb := (C_len hx.2).2
  rw [← hn] at k0 k1 k2 hb hnb ⊢
  have HX := Aside0.mk hx
  have HN := Aside0.mk hn
  clear hx
  by_cases h1 : x.f0 < 1
  · have d1 : decide (x.f0 < 1) = true := decide_eq_true h1
    have HF := Aside0.mk (show okO x = false by unfold okO; rw [decide_eq_false (show ¬ 1 ≤ x.f0 by omega)]; simp)
    clear hn
    go_enter Try.func11, Try.ntmps11
    go_wp2
    go_ret
    exact ⟨by rw [HF.out]; rfl, hb⟩
  have d1 : decide (x.f0 < 1) = false := decide_eq_false h1
  by_cases h2 : x.f1 < x.f0
  · have d2 : decide (x.f1 < x.f0) = true := decide_eq_true h2
    have HF := Aside0.mk (show okO x = false by unfold okO inb; rw [decide_eq_false (show ¬ x.f0 ≤ x.f1 by omega)]; simp)
    clear hn
    go_enter Try.func11, Try.ntmps11
    go_wp2
    go_ret
    exact ⟨by rw [HF.out]; rfl, hb⟩
  have d2 : decide (x.f1 < x.f0) = false := decide_eq_false h2
  by_cases h3 : x.f1 > 2000
  · have d3 : decide (x.f1 > 2000) = true := decide_eq_true h3
    have HF := Aside0.mk (show okO x = false by unfold okO inb; rw [decide_eq_false (show ¬ x.f1 ≤ 2000 by omega)]; simp)
    clear hn
    go_enter Try.func11, Try.ntmps11
    go_wp2
    go_ret
    exact ⟨by rw [HF.out]; rfl, hb⟩
  have d3 : decide (x.f1 > 2000) = false := decide_eq_false h3
  by_cases h4 : n = 0
  · have HF := Aside0.mk (show okO x = false by unfold okO; rw [decide_eq_false (show ¬ 1 ≤ x.f2.length by omega)]; simp)
    subst h4
    clear hn
    go_enter Try.func11, Try.ntmps11
    go_wp2
    go_ret
    exact ⟨by rw [HF.out]; rfl, hb⟩
  have d4 : decide ((n : Int) < 1) = false := decide_eq_false (by omega)
  by_cases h5 : n > 24
  · have d5 : decide ((n : Int) > 24) = true := decide_eq_true (by omega)
    have HF := Aside0.mk (show okO x = false by
      cases hk : okO x with
      | false => rfl
      | true =>
        unfold okO at hk
        simp only [Bool.and_eq_true] at hk
        have := okIds_len (by omega) hk.1
        omega)
    clear hn
    go_enter Try.func11, Try.ntmps11
    go_wp2
    go_ret
    exact ⟨by rw [HF.out]; rfl, hb⟩
  have d5 : decide ((n : Int) > 24) = false := decide_eq_false (by omega)
  have HO := Aside0.mk (show okO x = okIds (-1) x.f2 by
    unfold okO inb
    rw [decide_eq_true (show 1 ≤ x.f0 by omega), decide_eq_true (show x.f0 ≤ x.f1 by omega), decide_eq_true (show x.f1 ≤ 2000 by omega), decide_eq_true (show 1 ≤ x.f2.length by omega)]
    simp)
  have hC := Kd.C_below HX.out.2 hb
  have HB0 := Aside0.mk hb
  clear hn hb h1 h2 h3
  go_enter Try.func11, Try.ntmps11
  go_wp2
  generalize w.alloc (.cells #[.int .i64 x.f0, .int .i64 x.f1, .slice A n c] 25) = W at k0 k1 k2 hC HB0 ⊢
  go_loopw [3] (fun vi wr => ∃ k : Nat, k ≤ n ∧ vi = .int .i64 k ∧ Aside0 (okO x = okIds (pre x.f2 k) (x.f2.drop k) ∧ -1 ≤ pre x.f2 k) ∧ Aside0 (Below W.heap.size W wr)) (fun vi _ => n - (intOf vi).toNat)
  case atStart => exact ⟨0, Nat.zero_le _, rfl, ⟨by rw [HO.out]; rfl, by simp [pre]⟩, ⟨Below.refl _ _⟩⟩
  case round =>
    obtain ⟨k, hk, rfl, HI, HB⟩ := hrel
    by_cases hlt : k < n
    · have g1 : decide (k < n) = true := decide_eq_true hlt
      have i1 : (k : Int) < n := by omega
      have hkl : k < x.f2.length := by have := HN.out; omega
      obtain ⟨ad, rfl, hc⟩ := at1 (Kd.C_below hC HB.out) k hkl
      have HD := Aside0.mk (show okO x = (inb (x.f2.getD k 0) (pre x.f2 k + 1) 23 && okIds (x.f2.getD k 0) (x.f2.drop (k + 1))) by rw [HI.out.1, drop_at x.f2 0 k hkl, okIds])
      have HP := Aside0.mk (show pre x.f2 (k + 1) = x.f2.getD k 0 by simp [pre])
      obtain ⟨z, hz⟩ : ∃ z, z = x.f2.getD k 0 := ⟨_, rfl⟩
      rw [← hz] at hc HD HP
      have HZ := Aside0.mk hz
      clear hz
      have q2 := pw_cell_below HB.out k2
      have e2 := cellE q2
      replace hc := cellE hc
      by_cases z0 : z < 0
      · have t1 : decide (z < 0) = true := decide_eq_true z0
        have HF := Aside0.mk (show okO x = false by rw [HD.out]; unfold inb; rw [decide_eq_false (show ¬ pre x.f2 k + 1 ≤ z by have := HI.out.2; omega)]; rfl)
        go_wp2
        refine region_ext (W := wr) (Below.refl _ _) (by kernel_rfl) (by kernel_rfl) ?_
        repeat (first | go_big_quiet_step (fail) | quiet_step (fail))
        refine wpQuiet_nil ?_
        rintro _ ⟨s, rfl⟩
        have HB3 := Aside0.mk (below_then HB0.out HB0.out.size (below_then HB.out HB.out.size s.2))
        generalize s.1 = W2 at HB3
        go_wp2
        go_ret
        exact ⟨by rw [HF.out]; rfl, HB3.out⟩
      have t1 : decide (z < 0) = false := decide_eq_false z0
      by_cases z24 : z ≥ 24
      · have t2 : decide (z ≥ 24) = true := decide_eq_true z24
        have HF := Aside0.mk (show okO x = false by rw [HD.out]; unfold inb; rw [decide_eq_false (show ¬ z ≤ 23 by omega)]; simp)
        go_wp2
        refine region_ext (W := wr) (Below.refl _ _) (by kernel_rfl) (by kernel_rfl) ?_
        repeat (first | go_big_quiet_step (fail) | quiet_step (fail))
        refine wpQuiet_nil ?_
        rintro _ ⟨s, rfl⟩
        have HB3 := Aside0.mk (below_then HB0.out HB0.out.size (below_then HB.out HB.out.size s.2))
        generalize s.1 = W2 at HB3
        go_wp2
        go_ret
        exact ⟨by rw [HF.out]; rfl, HB3.out⟩
      have t2 : decide (z ≥ 24) = false := decide_eq_false z24
      by_cases k0' : k = 0
      · have HS : Aside0 (okO x = okIds (pre x.f2 (k + 1)) (x.f2.drop (k + 1)) ∧ -1 ≤ pre x.f2 (k + 1)) := ⟨by
          rw [HP.out, HD.out]
          refine ⟨?_, by omega⟩
          unfold inb
          rw [decide_eq_true (show pre x.f2 k + 1 ≤ z by rw [k0']; simp [pre]; omega), decide_eq_true (show z ≤ 23 by omega)]
          rfl⟩
        have j1 : decide ((k : Int) > 0) = false := decide_eq_false (by omega)
        have j2 : decide (0 < k) = false := decide_eq_false (by omega)
        clear z0 z24 k0'
        go_wp2
        refine region_ext (W := wr) (Below.refl _ _) (by kernel_rfl) (by kernel_rfl) ?_
        repeat (first | go_big_quiet_step (fail) | quiet_step (fail))
        refine wpQuiet_nil ?_
        rintro _ ⟨s, rfl⟩
        have HB3 := Aside0.mk (below_then HB.out HB.out.size s.2)
        generalize s.1 = W2 at HB3
        go_wp2
        go_roundw
        case rel => exact ⟨k + 1, by omega, by go_num, HS, HB3⟩
        case measure => simp [intOf]; omega
      · have j1 : decide ((k : Int) > 0) = true := decide_eq_true (by omega)
        have j2 : decide (0 < k) = true := decide_eq_true (by omega)
        have hk0 : 0 < k := by omega
        obtain ⟨ad2, e, hcp⟩ := at1 (Kd.C_below hC HB.out) (k - 1) (by omega)
        cases e
        have HPR := Aside0.mk (show pre x.f2 k = x.f2.getD (k - 1) 0 by unfold pre; rw [if_neg (by omega)])
        obtain ⟨q, hq⟩ : ∃ q, q = x.f2.getD (k - 1) 0 := ⟨_, rfl⟩
        rw [← hq] at hcp HPR
        clear hq
        replace hcp := cellE hcp
        by_cases hzq : z ≤ q
        · have t3 : decide (z ≤ q) = true := decide_eq_true hzq
          have HF := Aside0.mk (show okO x = false by rw [HD.out, HPR.out]; unfold inb; rw [decide_eq_false (show ¬ q + 1 ≤ z by omega)]; rfl)
          clear z0 z24 hzq
          go_wp2
          refine region_ext (W := wr) (Below.refl _ _) (by kernel_rfl) (by kernel_rfl) ?_
          repeat (first | go_big_quiet_step (fail) | quiet_step (fail))
          refine wpQuiet_nil ?_
          rintro _ ⟨s, rfl⟩
          have HB3 := Aside0.mk (below_then HB0.out HB0.out.size (below_then HB.out HB.out.size s.2))
          generalize s.1 = W2 at HB3
          go_wp2
          go_ret
          exact ⟨by rw [HF.out]; rfl, HB3.out⟩
        · have t3 : decide (z ≤ q) = false := decide_eq_false hzq
          have HS : Aside0 (okO x = okIds (pre x.f2 (k + 1)) (x.f2.drop (k + 1)) ∧ -1 ≤ pre x.f2 (k + 1)) := ⟨by
            rw [HP.out, HD.out, HPR.out]
            refine ⟨?_, by omega⟩
            unfold inb
            rw [decide_eq_true (show q + 1 ≤ z by omega), decide_eq_true (show z ≤ 23 by omega)]
            rfl⟩
          clear z0 z24 hzq
          go_wp2
          refine region_ext (W := wr) (Below.refl _ _) (by kernel_rfl) (by kernel_rfl) ?_
          repeat (first | go_big_quiet_step (fail) | quiet_step (fail))
          refine wpQuiet_nil ?_
          rintro _ ⟨s, rfl⟩
          have HB3 := Aside0.mk (below_then HB.out HB.out.size s.2)
          generalize s.1 = W2 at HB3
          go_wp2
          go_roundw
          case rel => exact ⟨k + 1, by omega, by go_num, HS, HB3⟩
          case measure => simp [intOf]; omega
    · have hke : k = n := by omega
      have g1 : decide (k < n) = false := decide_eq_false hlt
      have i1 : ¬ (k : Int) < n := by omega
      have HE := Aside0.mk (show okO x = true by rw [HI.out.1, List.drop_of_length_le (by have := HN.out; omega)]; rfl)
      have e2 := pw_cell_below HB.out k2
      clear hke
      go_wp2
      go_ret
      exact ⟨by rw [HE.out]; rfl, below_then HB0.out HB0.out.size HB.out⟩
end Go.Proofs.Ytjeojdbfpncnkaa.Sf
