
/- FnExactEngSame: the law's walk. Printed by genKt.py. -/
import Derived.Test.YtbbdkhffacoglaaKq
import Derived.Test.YtbbdkhffacoglaaKc
import Derived.Test.YtbbdkhffacoglaaKd2
set_option linter.unusedVariables false
set_option linter.unusedSimpArgs false
namespace Go.Proofs.Ytbbdkhffacoglaa.Kt
open Go.RowKit Go.Proofs.YtbbdkhffacoglaaW.PrintWords Go.Proofs.Ytbbdkhffacoglaa.Ja Go.Proofs.Ytbbdkhffacoglaa.Jb Go.Proofs.Ytbbdkhffacoglaa.Jc Go.Proofs.Ytbbdkhffacoglaa.Jd Go.Proofs.Ytbbdkhffacoglaa.Je Go.Proofs.Ytbbdkhffacoglaa.Ka Go.Proofs.Ytbbdkhffacoglaa.Kb Go.Proofs.Ytbbdkhffacoglaa.Kc Go.Proofs.Ytbbdkhffacoglaa.Kd2 Go.Proofs.Ytbbdkhffacoglaa.Ke Go.Proofs.Ytbbdkhffacoglaa.Kf Go.Proofs.Ytbbdkhffacoglaa.Kg Go.Proofs.Ytbbdkhffacoglaa.Kh Go.Proofs.Ytbbdkhffacoglaa.Ki Go.Proofs.Ytbbdkhffacoglaa.Kj Go.Proofs.Ytbbdkhffacoglaa.Kk Go.Proofs.Ytbbdkhffacoglaa.Kl Go.Proofs.Ytbbdkhffacoglaa.Km Go.Proofs.Ytbbdkhffacoglaa.Kn Go.Proofs.Ytbbdkhffacoglaa.Ko Go.Proofs.Ytbbdkhffacoglaa.Kp Go.Proofs.Ytbbdkhffacoglaa.Kq
set_option maxHeartbeats 40000000 in
set_option maxRecDepth 100000 in
theorem walk (x y : TEng) (A0 : Option Addr) (c0 : Nat) (A1 : Option Addr) (c1 : Nat) (A2 : Option Addr) (c2 : Nat) (A3 : Option Addr) (c3 : Nat) (A4 : Option Addr) (c4 : Nat) (B0 : Option Addr) (d0 : Nat) (B1 : Option Addr) (d1 : Nat) (B2 : Option Addr) (d2 : Nat) (B3 : Option Addr) (d3 : Nat) (B4 : Option Addr) (d4 : Nat) (wfx : ∀ r ∈ x.f0, r.f0.size ≤ 9223372036854775807) (wfy : ∀ r ∈ y.f0, r.f0.size ≤ 9223372036854775807) (w : World) (hA0 : IsS kRule w x.f0 A0 c0) (hA1 : IsS kGraph w x.f1 A1 c1) (hA2 : IsS kEv w x.f2 A2 c2) (hA3 : IsS (Kd.int .i64) w x.f3 A3 c3) (hA4 : IsS kFire w x.f4 A4 c4) (hB0 : IsS kRule w y.f0 B0 d0) (hB1 : IsS kGraph w y.f1 B1 d1) (hB2 : IsS kEv w y.f2 B2 d2) (hB3 : IsS (Kd.int .i64) w y.f3 B3 d3) (hB4 : IsS kFire w y.f4 B4 d4) :
    Calls Try.prog 3 #[.agg #[.slice A0 x.f0.length c0, .slice A1 x.f1.length c1, .slice A2 x.f2.length c2, .slice A3 x.f3.length c3, .slice A4 x.f4.length c4], .agg #[.slice B0 y.f0.length d0, .slice B1 y.f1.length d1, .slice B2 y.f2.length d2, .slice B3 y.f3.length d3, .slice B4 y.f4.length d4]] w fun e w' => e = .returned (.bool true) ∧ Below w.heap.size w w' := by
  obtain ⟨hb0, bA, bB⟩ := boxes2 w #[.slice A0 x.f0.length c0, .slice A1 x.f1.length c1, .slice A2 x.f2.length c2, .slice A3 x.f3.length c3, .slice A4 x.f4.length c4] #[.slice B0 y.f0.length d0, .slice B1 y.f1.length d1, .slice B2 y.f2.length d2, .slice B3 y.f3.length d3, .slice B4 y.f4.length d4] 28 28
  have HA0 := Aside0.mk (hA0.below hb0)
  have HB0 := Aside0.mk (hB0.below hb0)
  have HA1 := Aside0.mk (hA1.below hb0)
  have HB1 := Aside0.mk (hB1.below hb0)
  have HA2 := Aside0.mk (hA2.below hb0)
  have HB2 := Aside0.mk (hB2.below hb0)
  have HA3 := Aside0.mk (hA3.below hb0)
  have HB3 := Aside0.mk (hB3.below hb0)
  have HA4 := Aside0.mk (hA4.below hb0)
  have HB4 := Aside0.mk (hB4.below hb0)
  clear hA0 hB0 hA1 hB1 hA2 hB2 hA3 hB3 hA4 hB4
  obtain ⟨W, hW⟩ : ∃ W, W = (w.alloc (.cells #[.slice A0 x.f0.length c0, .slice A1 x.f1.length c1, .slice A2 x.f2.length c2, .slice A3 x.f3.length c3, .slice A4 x.f4.length c4] 28)).alloc (.cells #[.slice B0 y.f0.length d0, .slice B1 y.f1.length d1, .slice B2 y.f2.length d2, .slice B3 y.f3.length d3, .slice B4 y.f4.length d4] 28) := ⟨_, rfl⟩
  rw [← hW] at hb0 bA bB HA0 HB0 HA1 HB1 HA2 HB2 HA3 HB3 HA4 HB4
  have HW := Aside0.mk hW
  have HX := Aside0.mk hb0
  have BA := Aside0.mk bA
  have BB := Aside0.mk bB
  clear hW hb0 bA bB
  have WFX := Aside0.mk wfx
  have WFY := Aside0.mk wfy
  clear wfx wfy
  have HC0 : Aside0 (Below W.heap.size W W) := ⟨Below.refl _ _⟩
  obtain ⟨n1, hn1⟩ : ∃ n : Nat, n = cEng x := ⟨_, rfl⟩
  obtain ⟨n2, hn2⟩ : ∃ n : Nat, n = cEng y := ⟨_, rfl⟩
  have HN1 := Aside0.mk hn1
  have HN2 := Aside0.mk hn2
  by_cases h1 : (1048576 : Int) - n1 < 0
  · have HS1 : Aside0 (szI 1048576 (cEng x) = -1) := ⟨by rw [HN1.out.symm]; exact if_pos h1⟩
    clear h1 hn1 hn2
    go_enter Try.func3, Try.ntmps3
    go_upto_region 1 with fail
    rw [← HW.out]
    have p0 := (blk_cell (blk_below BA.out HC0.out) 0).trans rfl
    have p1 := (blk_cell (blk_below BA.out HC0.out) 1).trans rfl
    have p2 := (blk_cell (blk_below BA.out HC0.out) 2).trans rfl
    have p3 := (blk_cell (blk_below BA.out HC0.out) 3).trans rfl
    have p4 := (blk_cell (blk_below BA.out HC0.out) 4).trans rfl
    go_wp2_with (go_at_call 4; refine (szEng_any x A0 c0 A1 c1 A2 c2 A3 c3 A4 c4 1048576 (by omega) (by omega) WFX.out _ (HA0.out.below HC0.out) (HA1.out.below HC0.out) (HA2.out.below HC0.out) (HA3.out.below HC0.out) (HA4.out.below HC0.out)).mono ?_; rintro e w2 ⟨rfl, hb⟩; rw [HS1.out]; have HC2 := Aside0.mk (below_then HC0.out HC0.out.size hb); clear hb; have pp := HC2.out; clear pp)
    go_ret
    exact ⟨rfl, below_then HX.out HX.out.size HC2.out⟩
  obtain ⟨r1, hr1⟩ : ∃ r : Int, r = 1048576 - n1 := ⟨_, rfl⟩
  have HS1 : Aside0 (szI 1048576 (cEng x) = r1) := ⟨by rw [HN1.out.symm]; exact (if_neg h1).trans hr1.symm⟩
  have hcx : cEng x ≤ 1048576 := by omega
  have dd1 : decide (r1 < 0) = false := decide_eq_false (by omega)
  have e1 : 0 ≤ r1 := by omega
  have e1' : r1 ≤ 1048576 := by omega
  by_cases h2 : r1 - (n2 : Int) < 0
  · have HS2 : Aside0 (szI r1 (cEng y) = -1) := ⟨by rw [HN2.out.symm]; exact if_pos h2⟩
    clear h1 h2 hr1 hn1 hn2
    go_enter Try.func3, Try.ntmps3
    go_upto_region 1 with fail
    rw [← HW.out]
    have p0 := (blk_cell (blk_below BA.out HC0.out) 0).trans rfl
    have p1 := (blk_cell (blk_below BA.out HC0.out) 1).trans rfl
    have p2 := (blk_cell (blk_below BA.out HC0.out) 2).trans rfl
    have p3 := (blk_cell (blk_below BA.out HC0.out) 3).trans rfl
    have p4 := (blk_cell (blk_below BA.out HC0.out) 4).trans rfl
    go_upto_region 5 with (go_at_call 4; refine (szEng_any x A0 c0 A1 c1 A2 c2 A3 c3 A4 c4 1048576 (by omega) (by omega) WFX.out _ (HA0.out.below HC0.out) (HA1.out.below HC0.out) (HA2.out.below HC0.out) (HA3.out.below HC0.out) (HA4.out.below HC0.out)).mono ?_; rintro e w2 ⟨rfl, hb⟩; rw [HS1.out]; have HC2 := Aside0.mk (below_then HC0.out HC0.out.size hb); clear hb)
    clear p0 p1 p2 p3 p4
    have p0 := (blk_cell (blk_below BB.out HC2.out) 0).trans rfl
    have p1 := (blk_cell (blk_below BB.out HC2.out) 1).trans rfl
    have p2 := (blk_cell (blk_below BB.out HC2.out) 2).trans rfl
    have p3 := (blk_cell (blk_below BB.out HC2.out) 3).trans rfl
    have p4 := (blk_cell (blk_below BB.out HC2.out) 4).trans rfl
    go_wp2_with (go_at_call 4; refine (szEng_any y B0 d0 B1 d1 B2 d2 B3 d3 B4 d4 r1 (by omega) (by omega) WFY.out _ (HB0.out.below HC2.out) (HB1.out.below HC2.out) (HB2.out.below HC2.out) (HB3.out.below HC2.out) (HB4.out.below HC2.out)).mono ?_; rintro e w3 ⟨rfl, hb⟩; rw [HS2.out]; have HC3 := Aside0.mk (below_then HC2.out HC2.out.size hb); clear hb)
    go_ret
    exact ⟨rfl, below_then HX.out HX.out.size HC3.out⟩
  obtain ⟨r2, hr2⟩ : ∃ r : Int, r = r1 - n2 := ⟨_, rfl⟩
  have HS2 : Aside0 (szI r1 (cEng y) = r2) := ⟨by rw [HN2.out.symm]; exact (if_neg h2).trans hr2.symm⟩
  have hcy : cEng y ≤ 1048576 := by omega
  have dd2 : decide (r2 < 0) = false := decide_eq_false (by omega)
  clear h1 h2 hn1 hn2 hr1 hr2
  obtain ⟨b, hbq⟩ : ∃ b, sameEng x y = b := ⟨_, rfl⟩
  have HE := Aside0.mk hbq
  clear hbq
  have xb : (b != b) = false := by simp
  go_enter Try.func3, Try.ntmps3
  go_upto_region 1 with fail
  rw [← HW.out]
  have p0 := (blk_cell (blk_below BA.out HC0.out) 0).trans rfl
  have p1 := (blk_cell (blk_below BA.out HC0.out) 1).trans rfl
  have p2 := (blk_cell (blk_below BA.out HC0.out) 2).trans rfl
  have p3 := (blk_cell (blk_below BA.out HC0.out) 3).trans rfl
  have p4 := (blk_cell (blk_below BA.out HC0.out) 4).trans rfl
  go_upto_region 5 with (go_at_call 4; refine (szEng_any x A0 c0 A1 c1 A2 c2 A3 c3 A4 c4 1048576 (by omega) (by omega) WFX.out _ (HA0.out.below HC0.out) (HA1.out.below HC0.out) (HA2.out.below HC0.out) (HA3.out.below HC0.out) (HA4.out.below HC0.out)).mono ?_; rintro e w2 ⟨rfl, hb⟩; rw [HS1.out]; have HC2 := Aside0.mk (below_then HC0.out HC0.out.size hb); clear hb)
  clear p0 p1 p2 p3 p4
  have p0 := (blk_cell (blk_below BB.out HC2.out) 0).trans rfl
  have p1 := (blk_cell (blk_below BB.out HC2.out) 1).trans rfl
  have p2 := (blk_cell (blk_below BB.out HC2.out) 2).trans rfl
  have p3 := (blk_cell (blk_below BB.out HC2.out) 3).trans rfl
  have p4 := (blk_cell (blk_below BB.out HC2.out) 4).trans rfl
  go_upto_region 8 with (go_at_call 4; refine (szEng_any y B0 d0 B1 d1 B2 d2 B3 d3 B4 d4 r1 (by omega) (by omega) WFY.out _ (HB0.out.below HC2.out) (HB1.out.below HC2.out) (HB2.out.below HC2.out) (HB3.out.below HC2.out) (HB4.out.below HC2.out)).mono ?_; rintro e w3 ⟨rfl, hb⟩; rw [HS2.out]; have HC3 := Aside0.mk (below_then HC2.out HC2.out.size hb); clear hb)
  clear p0 p1 p2 p3 p4
  clear dd1 dd2 e1 e1'
  have F8 : Aside0 (∀ w', Below w3.heap.size w3 w' → (fun w' => (w'.cell? ⟨w.heap.size, 0, none⟩ = some (.slice A0 x.f0.length c0) ∧ w'.cell? ⟨w.heap.size, 1, none⟩ = some (.slice A1 x.f1.length c1) ∧ w'.cell? ⟨w.heap.size, 2, none⟩ = some (.slice A2 x.f2.length c2) ∧ w'.cell? ⟨w.heap.size, 3, none⟩ = some (.slice A3 x.f3.length c3) ∧ w'.cell? ⟨w.heap.size, 4, none⟩ = some (.slice A4 x.f4.length c4)) ∧ (w'.cell? ⟨(w.heap.size + 1), 0, none⟩ = some (.slice B0 y.f0.length d0) ∧ w'.cell? ⟨(w.heap.size + 1), 1, none⟩ = some (.slice B1 y.f1.length d1) ∧ w'.cell? ⟨(w.heap.size + 1), 2, none⟩ = some (.slice B2 y.f2.length d2) ∧ w'.cell? ⟨(w.heap.size + 1), 3, none⟩ = some (.slice B3 y.f3.length d3) ∧ w'.cell? ⟨(w.heap.size + 1), 4, none⟩ = some (.slice B4 y.f4.length d4))) w') := ⟨fun w' h => ⟨⟨(blk_cell (blk_below BA.out (below_then HC3.out HC3.out.size h)) 0).trans rfl, (blk_cell (blk_below BA.out (below_then HC3.out HC3.out.size h)) 1).trans rfl, (blk_cell (blk_below BA.out (below_then HC3.out HC3.out.size h)) 2).trans rfl, (blk_cell (blk_below BA.out (below_then HC3.out HC3.out.size h)) 3).trans rfl, (blk_cell (blk_below BA.out (below_then HC3.out HC3.out.size h)) 4).trans rfl⟩, ⟨(blk_cell (blk_below BB.out (below_then HC3.out HC3.out.size h)) 0).trans rfl, (blk_cell (blk_below BB.out (below_then HC3.out HC3.out.size h)) 1).trans rfl, (blk_cell (blk_below BB.out (below_then HC3.out HC3.out.size h)) 2).trans rfl, (blk_cell (blk_below BB.out (below_then HC3.out HC3.out.size h)) 3).trans rfl, (blk_cell (blk_below BB.out (below_then HC3.out HC3.out.size h)) 4).trans rfl⟩⟩⟩
  have HD3 : Below w3.heap.size w3 w3.drew := below_drew (Below.refl _ _)
  refine Za.regionL (fun w' => (w'.cell? ⟨w.heap.size, 0, none⟩ = some (.slice A0 x.f0.length c0) ∧ w'.cell? ⟨w.heap.size, 1, none⟩ = some (.slice A1 x.f1.length c1) ∧ w'.cell? ⟨w.heap.size, 2, none⟩ = some (.slice A2 x.f2.length c2) ∧ w'.cell? ⟨w.heap.size, 3, none⟩ = some (.slice A3 x.f3.length c3) ∧ w'.cell? ⟨w.heap.size, 4, none⟩ = some (.slice A4 x.f4.length c4)) ∧ (w'.cell? ⟨(w.heap.size + 1), 0, none⟩ = some (.slice B0 y.f0.length d0) ∧ w'.cell? ⟨(w.heap.size + 1), 1, none⟩ = some (.slice B1 y.f1.length d1) ∧ w'.cell? ⟨(w.heap.size + 1), 2, none⟩ = some (.slice B2 y.f2.length d2) ∧ w'.cell? ⟨(w.heap.size + 1), 3, none⟩ = some (.slice B3 y.f3.length d3) ∧ w'.cell? ⟨(w.heap.size + 1), 4, none⟩ = some (.slice B4 y.f4.length d4))) [] (by kernel_rfl) ?_
  have HS : (fun w' => (w'.cell? ⟨w.heap.size, 0, none⟩ = some (.slice A0 x.f0.length c0) ∧ w'.cell? ⟨w.heap.size, 1, none⟩ = some (.slice A1 x.f1.length c1) ∧ w'.cell? ⟨w.heap.size, 2, none⟩ = some (.slice A2 x.f2.length c2) ∧ w'.cell? ⟨w.heap.size, 3, none⟩ = some (.slice A3 x.f3.length c3) ∧ w'.cell? ⟨w.heap.size, 4, none⟩ = some (.slice A4 x.f4.length c4)) ∧ (w'.cell? ⟨(w.heap.size + 1), 0, none⟩ = some (.slice B0 y.f0.length d0) ∧ w'.cell? ⟨(w.heap.size + 1), 1, none⟩ = some (.slice B1 y.f1.length d1) ∧ w'.cell? ⟨(w.heap.size + 1), 2, none⟩ = some (.slice B2 y.f2.length d2) ∧ w'.cell? ⟨(w.heap.size + 1), 3, none⟩ = some (.slice B3 y.f3.length d3) ∧ w'.cell? ⟨(w.heap.size + 1), 4, none⟩ = some (.slice B4 y.f4.length d4))) w3.drew := F8.out _ HD3
  refine Za.takeL 0 (v := ?va0) rfl (by kernel_rfl) (by kernel_rfl) (by kernel_rfl) (by kernel_rfl) (fun _ _ _ h => h) (Or.inl ⟨by rfl, ?hya0⟩) HS ?resta0
  case hya0 => (intro w hSw; (try dsimp only at hSw); go_simp; try with_reducible rfl)
  (try simp only [Act.put, List.setIfInBounds_toArray, List.set_cons_zero, List.set_cons_succ])
  refine Za.takeL 2 (v := ?va2) rfl (by kernel_rfl) (by kernel_rfl) (by kernel_rfl) (by kernel_rfl) (fun _ _ _ h => h) (Or.inl ⟨by rfl, ?hya2⟩) HS ?resta2
  case hya2 => (intro w hSw; (try dsimp only at hSw); go_simp; try with_reducible rfl)
  (try simp only [Act.put, List.setIfInBounds_toArray, List.set_cons_zero, List.set_cons_succ])
  clear HS
  refine Za.nextL 1 (by kernel_rfl) rfl (fun K' hK => ?_)
  go_simp
  (go_at_call 6; refine (toEng_any x A0 c0 A1 c1 A2 c2 A3 c3 A4 c4 _ hcx (HA0.out.below (below_then HC3.out HC3.out.size HD3)) (HA1.out.below (below_then HC3.out HC3.out.size HD3)) (HA2.out.below (below_then HC3.out HC3.out.size HD3)) (HA3.out.below (below_then HC3.out HC3.out.size HD3)) (HA4.out.below (below_then HC3.out HC3.out.size HD3))).mono ?_; rintro e w4 ⟨v0, v1, v2, v3, v4, rfl, s0, s1, s2, s3, s4, hb⟩; obtain ⟨P0, p0, rfl⟩ := Kd.S_slice s0; obtain ⟨P1, p1, rfl⟩ := Kd.S_slice s1; obtain ⟨P2, p2, rfl⟩ := Kd.S_slice s2; obtain ⟨P3, p3, rfl⟩ := Kd.S_slice s3; obtain ⟨P4, p4, rfl⟩ := Kd.S_slice s4; have HP0 := Aside0.mk (S_isS s0).2; have HP1 := Aside0.mk (S_isS s1).2; have HP2 := Aside0.mk (S_isS s2).2; have HP3 := Aside0.mk (S_isS s3).2; have HP4 := Aside0.mk (S_isS s4).2; have HV4 : Below w3.heap.size w3 w4 := keepD hb; clear hb s0 s1 s2 s3 s4)
  go_wp2_with fail
  refine hK.out _ _ ⟨fun _ => F8.out _ HV4, ?_⟩
  clear hK K'
  (try simp only [Act.put, List.setIfInBounds_toArray, List.set_cons_zero, List.set_cons_succ])
  have HS : (fun w' => (w'.cell? ⟨w.heap.size, 0, none⟩ = some (.slice A0 x.f0.length c0) ∧ w'.cell? ⟨w.heap.size, 1, none⟩ = some (.slice A1 x.f1.length c1) ∧ w'.cell? ⟨w.heap.size, 2, none⟩ = some (.slice A2 x.f2.length c2) ∧ w'.cell? ⟨w.heap.size, 3, none⟩ = some (.slice A3 x.f3.length c3) ∧ w'.cell? ⟨w.heap.size, 4, none⟩ = some (.slice A4 x.f4.length c4)) ∧ (w'.cell? ⟨(w.heap.size + 1), 0, none⟩ = some (.slice B0 y.f0.length d0) ∧ w'.cell? ⟨(w.heap.size + 1), 1, none⟩ = some (.slice B1 y.f1.length d1) ∧ w'.cell? ⟨(w.heap.size + 1), 2, none⟩ = some (.slice B2 y.f2.length d2) ∧ w'.cell? ⟨(w.heap.size + 1), 3, none⟩ = some (.slice B3 y.f3.length d3) ∧ w'.cell? ⟨(w.heap.size + 1), 4, none⟩ = some (.slice B4 y.f4.length d4))) w4 := F8.out _ HV4
  clear HS
  refine Za.nextL 3 (by kernel_rfl) rfl (fun K' hK => ?_)
  go_simp
  (go_at_call 6; refine (toEng_any y B0 d0 B1 d1 B2 d2 B3 d3 B4 d4 _ hcy (HB0.out.below (below_then HC3.out HC3.out.size HV4)) (HB1.out.below (below_then HC3.out HC3.out.size HV4)) (HB2.out.below (below_then HC3.out HC3.out.size HV4)) (HB3.out.below (below_then HC3.out HC3.out.size HV4)) (HB4.out.below (below_then HC3.out HC3.out.size HV4))).mono ?_; rintro e w5 ⟨v0, v1, v2, v3, v4, rfl, s0, s1, s2, s3, s4, hb⟩; obtain ⟨Q0, q0, rfl⟩ := Kd.S_slice s0; obtain ⟨Q1, q1, rfl⟩ := Kd.S_slice s1; obtain ⟨Q2, q2, rfl⟩ := Kd.S_slice s2; obtain ⟨Q3, q3, rfl⟩ := Kd.S_slice s3; obtain ⟨Q4, q4, rfl⟩ := Kd.S_slice s4; have HQ0 := Aside0.mk (S_isS s0).2; have HQ1 := Aside0.mk (S_isS s1).2; have HQ2 := Aside0.mk (S_isS s2).2; have HQ3 := Aside0.mk (S_isS s3).2; have HQ4 := Aside0.mk (S_isS s4).2; have HM5 := Aside0.mk hb; have HV5 : Below w3.heap.size w3 w5 := below_then HV4 HV4.size hb; clear hb s0 s1 s2 s3 s4)
  go_wp2_with fail
  refine hK.out _ _ ⟨fun _ => F8.out _ HV5, ?_⟩
  clear hK K'
  (try simp only [Act.put, List.setIfInBounds_toArray, List.set_cons_zero, List.set_cons_succ])
  have HS : (fun w' => (w'.cell? ⟨w.heap.size, 0, none⟩ = some (.slice A0 x.f0.length c0) ∧ w'.cell? ⟨w.heap.size, 1, none⟩ = some (.slice A1 x.f1.length c1) ∧ w'.cell? ⟨w.heap.size, 2, none⟩ = some (.slice A2 x.f2.length c2) ∧ w'.cell? ⟨w.heap.size, 3, none⟩ = some (.slice A3 x.f3.length c3) ∧ w'.cell? ⟨w.heap.size, 4, none⟩ = some (.slice A4 x.f4.length c4)) ∧ (w'.cell? ⟨(w.heap.size + 1), 0, none⟩ = some (.slice B0 y.f0.length d0) ∧ w'.cell? ⟨(w.heap.size + 1), 1, none⟩ = some (.slice B1 y.f1.length d1) ∧ w'.cell? ⟨(w.heap.size + 1), 2, none⟩ = some (.slice B2 y.f2.length d2) ∧ w'.cell? ⟨(w.heap.size + 1), 3, none⟩ = some (.slice B3 y.f3.length d3) ∧ w'.cell? ⟨(w.heap.size + 1), 4, none⟩ = some (.slice B4 y.f4.length d4))) w5 := F8.out _ HV5
  clear HS
  refine Za.nextL 4 (by kernel_rfl) rfl (fun K' hK => ?_)
  go_simp
  (go_at_call 5; refine (sEngSame_any x y P0 p0 P1 p1 P2 p2 P3 p3 P4 p4 Q0 q0 Q1 q1 Q2 q2 Q3 q3 Q4 q4 _ (HP0.out.below HM5.out) (HP1.out.below HM5.out) (HP2.out.below HM5.out) (HP3.out.below HM5.out) (HP4.out.below HM5.out) HQ0.out HQ1.out HQ2.out HQ3.out HQ4.out).mono ?_; rintro e w6 ⟨rfl, hb⟩; rw [HE.out]; have HV6 : Below w3.heap.size w3 w6 := below_then HV5 HV5.size hb; have HC6 := Aside0.mk (below_then HC3.out HC3.out.size HV6); clear hb)
  go_wp2_with fail
  refine hK.out _ _ ⟨fun _ => F8.out _ HV6, ?_⟩
  clear hK K'
  (try simp only [Act.put, List.setIfInBounds_toArray, List.set_cons_zero, List.set_cons_succ])
  have HS : (fun w' => (w'.cell? ⟨w.heap.size, 0, none⟩ = some (.slice A0 x.f0.length c0) ∧ w'.cell? ⟨w.heap.size, 1, none⟩ = some (.slice A1 x.f1.length c1) ∧ w'.cell? ⟨w.heap.size, 2, none⟩ = some (.slice A2 x.f2.length c2) ∧ w'.cell? ⟨w.heap.size, 3, none⟩ = some (.slice A3 x.f3.length c3) ∧ w'.cell? ⟨w.heap.size, 4, none⟩ = some (.slice A4 x.f4.length c4)) ∧ (w'.cell? ⟨(w.heap.size + 1), 0, none⟩ = some (.slice B0 y.f0.length d0) ∧ w'.cell? ⟨(w.heap.size + 1), 1, none⟩ = some (.slice B1 y.f1.length d1) ∧ w'.cell? ⟨(w.heap.size + 1), 2, none⟩ = some (.slice B2 y.f2.length d2) ∧ w'.cell? ⟨(w.heap.size + 1), 3, none⟩ = some (.slice B3 y.f3.length d3) ∧ w'.cell? ⟨(w.heap.size + 1), 4, none⟩ = some (.slice B4 y.f4.length d4))) w6 := F8.out _ HV6
  refine Za.takeL 5 (v := ?va5) rfl (by kernel_rfl) (by kernel_rfl) (by kernel_rfl) (by kernel_rfl) (fun _ _ _ h => h) (Or.inl ⟨by rfl, ?hya5⟩) HS ?resta5
  case hya5 => (intro w hSw; (try dsimp only at hSw); go_simp; try with_reducible rfl)
  (try simp only [Act.put, List.setIfInBounds_toArray, List.set_cons_zero, List.set_cons_succ])
  refine Za.Walk.done (by kernel_rfl) ?_
  clear HS
  clear HV4 HV5 HV6 HM5 HD3 HP0 HQ0 HP1 HQ1 HP2 HQ2 HP3 HQ3 HP4 HQ4
  have p0 := (blk_cell (blk_below BA.out HC6.out) 0).trans rfl
  have p1 := (blk_cell (blk_below BA.out HC6.out) 1).trans rfl
  have p2 := (blk_cell (blk_below BA.out HC6.out) 2).trans rfl
  have p3 := (blk_cell (blk_below BA.out HC6.out) 3).trans rfl
  have p4 := (blk_cell (blk_below BA.out HC6.out) 4).trans rfl
  go_upto_region 10 with (go_at_call 6; refine (toEng_any x A0 c0 A1 c1 A2 c2 A3 c3 A4 c4 _ hcx (HA0.out.below HC6.out) (HA1.out.below HC6.out) (HA2.out.below HC6.out) (HA3.out.below HC6.out) (HA4.out.below HC6.out)).mono ?_; rintro e w7 ⟨v0, v1, v2, v3, v4, rfl, s0, s1, s2, s3, s4, hb⟩; obtain ⟨G0, g0, rfl⟩ := Kd.S_slice s0; obtain ⟨G1, g1, rfl⟩ := Kd.S_slice s1; obtain ⟨G2, g2, rfl⟩ := Kd.S_slice s2; obtain ⟨G3, g3, rfl⟩ := Kd.S_slice s3; obtain ⟨G4, g4, rfl⟩ := Kd.S_slice s4; have HG0 := Aside0.mk (S_isS s0).2; have HG1 := Aside0.mk (S_isS s1).2; have HG2 := Aside0.mk (S_isS s2).2; have HG3 := Aside0.mk (S_isS s3).2; have HG4 := Aside0.mk (S_isS s4).2; have hba := below_alloc (Below.refl w7.heap.size w7) (.cells #[.slice G0 x.f0.length g0, .slice G1 x.f1.length g1, .slice G2 x.f2.length g2, .slice G3 x.f3.length g3, .slice G4 x.f4.length g4] 36); have b7 := blk_new w7 (.cells #[.slice G0 x.f0.length g0, .slice G1 x.f1.length g1, .slice G2 x.f2.length g2, .slice G3 x.f3.length g3, .slice G4 x.f4.length g4] 36); have HXG0 := Aside0.mk (HG0.out.below hba); have HXG1 := Aside0.mk (HG1.out.below hba); have HXG2 := Aside0.mk (HG2.out.below hba); have HXG3 := Aside0.mk (HG3.out.below hba); have HXG4 := Aside0.mk (HG4.out.below hba); have HC7 := Aside0.mk (below_then (below_then HC6.out HC6.out.size hb) (Nat.le_trans HC6.out.size hb.size) hba); clear hba; clear hb s0 s1 s2 s3 s4)
  clear p0 p1 p2 p3 p4
  generalize hN7 : w7.heap.size = N7 at b7 ⊢
  generalize w7.alloc (.cells #[.slice G0 x.f0.length g0, .slice G1 x.f1.length g1, .slice G2 x.f2.length g2, .slice G3 x.f3.length g3, .slice G4 x.f4.length g4] 36) = W7 at b7 HC7 HXG0 HXG1 HXG2 HXG3 HXG4 ⊢
  clear hN7 HG0 HG1 HG2 HG3 HG4
  have HK7 : Aside0 (Below W7.heap.size W7 W7) := ⟨Below.refl _ _⟩
  have p0 := (blk_cell (blk_below BB.out HC7.out) 0).trans rfl
  have p1 := (blk_cell (blk_below BB.out HC7.out) 1).trans rfl
  have p2 := (blk_cell (blk_below BB.out HC7.out) 2).trans rfl
  have p3 := (blk_cell (blk_below BB.out HC7.out) 3).trans rfl
  have p4 := (blk_cell (blk_below BB.out HC7.out) 4).trans rfl
  go_upto_region 11 with (go_at_call 6; refine (toEng_any y B0 d0 B1 d1 B2 d2 B3 d3 B4 d4 _ hcy (HB0.out.below HC7.out) (HB1.out.below HC7.out) (HB2.out.below HC7.out) (HB3.out.below HC7.out) (HB4.out.below HC7.out)).mono ?_; rintro e w8 ⟨v0, v1, v2, v3, v4, rfl, s0, s1, s2, s3, s4, hb⟩; obtain ⟨J0, j0, rfl⟩ := Kd.S_slice s0; obtain ⟨J1, j1, rfl⟩ := Kd.S_slice s1; obtain ⟨J2, j2, rfl⟩ := Kd.S_slice s2; obtain ⟨J3, j3, rfl⟩ := Kd.S_slice s3; obtain ⟨J4, j4, rfl⟩ := Kd.S_slice s4; have HJ0 := Aside0.mk (S_isS s0).2; have HJ1 := Aside0.mk (S_isS s1).2; have HJ2 := Aside0.mk (S_isS s2).2; have HJ3 := Aside0.mk (S_isS s3).2; have HJ4 := Aside0.mk (S_isS s4).2; have HK8 := Aside0.mk hb; have hba := below_alloc (Below.refl w8.heap.size w8) (.cells #[.slice J0 y.f0.length j0, .slice J1 y.f1.length j1, .slice J2 y.f2.length j2, .slice J3 y.f3.length j3, .slice J4 y.f4.length j4] 36); have b8 := blk_new w8 (.cells #[.slice J0 y.f0.length j0, .slice J1 y.f1.length j1, .slice J2 y.f2.length j2, .slice J3 y.f3.length j3, .slice J4 y.f4.length j4] 36); have HXJ0 := Aside0.mk (HJ0.out.below hba); have HXJ1 := Aside0.mk (HJ1.out.below hba); have HXJ2 := Aside0.mk (HJ2.out.below hba); have HXJ3 := Aside0.mk (HJ3.out.below hba); have HXJ4 := Aside0.mk (HJ4.out.below hba); have HC8 := Aside0.mk (below_then (below_then HC7.out HC7.out.size hb) (Nat.le_trans HC7.out.size hb.size) hba); clear hba; clear hb s0 s1 s2 s3 s4)
  clear p0 p1 p2 p3 p4
  have HK8b := Aside0.mk (below_then HK8.out HK8.out.size (below_alloc (Below.refl w8.heap.size w8) (.cells #[.slice J0 y.f0.length j0, .slice J1 y.f1.length j1, .slice J2 y.f2.length j2, .slice J3 y.f3.length j3, .slice J4 y.f4.length j4] 36)))
  clear HK8
  generalize hN8 : w8.heap.size = N8 at b8 ⊢
  generalize w8.alloc (.cells #[.slice J0 y.f0.length j0, .slice J1 y.f1.length j1, .slice J2 y.f2.length j2, .slice J3 y.f3.length j3, .slice J4 y.f4.length j4] 36) = W8 at b8 HC8 HK8b HXJ0 HXJ1 HXJ2 HXJ3 HXJ4 ⊢
  clear hN8 HJ0 HJ1 HJ2 HJ3 HJ4
  have HK8 := HK8b
  have B7 := Aside0.mk (blk_below b7 HK8.out)
  have B8 := Aside0.mk b8
  clear b7 b8 HK8b
  have HY0 := Aside0.mk (HXG0.out.below HK8.out)
  clear HXG0
  have HY1 := Aside0.mk (HXG1.out.below HK8.out)
  clear HXG1
  have HY2 := Aside0.mk (HXG2.out.below HK8.out)
  clear HXG2
  have HY3 := Aside0.mk (HXG3.out.below HK8.out)
  clear HXG3
  have HY4 := Aside0.mk (HXG4.out.below HK8.out)
  clear HXG4
  have p0 := (blk_cell B7.out 0).trans rfl
  have q0 := (blk_cell B8.out 0).trans rfl
  have p1 := (blk_cell B7.out 1).trans rfl
  have q1 := (blk_cell B8.out 1).trans rfl
  have p2 := (blk_cell B7.out 2).trans rfl
  have q2 := (blk_cell B8.out 2).trans rfl
  have p3 := (blk_cell B7.out 3).trans rfl
  have q3 := (blk_cell B8.out 3).trans rfl
  have p4 := (blk_cell B7.out 4).trans rfl
  have q4 := (blk_cell B8.out 4).trans rfl
  go_upto_region 14 with (go_at_call 7; refine (engSame_any x y G0 g0 G1 g1 G2 g2 G3 g3 G4 g4 J0 j0 J1 j1 J2 j2 J3 j3 J4 j4 _ HY0.out HY1.out HY2.out HY3.out HY4.out HXJ0.out HXJ1.out HXJ2.out HXJ3.out HXJ4.out).mono ?_; rintro e w9 ⟨rfl, hb⟩; rw [HE.out]; have HL9 := Aside0.mk hb; have HC9 := Aside0.mk (below_then HC8.out HC8.out.size hb); clear hb)
  clear p0 p1 p2 p3 p4
  clear q0 q1 q2 q3 q4
  clear xb
  have F9 : Aside0 (∀ w', Below w9.heap.size w9 w' → (fun w' => (w'.cell? ⟨N7, 0, none⟩ = some (.slice G0 x.f0.length g0) ∧ w'.cell? ⟨N7, 1, none⟩ = some (.slice G1 x.f1.length g1) ∧ w'.cell? ⟨N7, 2, none⟩ = some (.slice G2 x.f2.length g2) ∧ w'.cell? ⟨N7, 3, none⟩ = some (.slice G3 x.f3.length g3) ∧ w'.cell? ⟨N7, 4, none⟩ = some (.slice G4 x.f4.length g4)) ∧ (w'.cell? ⟨w.heap.size, 0, none⟩ = some (.slice A0 x.f0.length c0) ∧ w'.cell? ⟨w.heap.size, 1, none⟩ = some (.slice A1 x.f1.length c1) ∧ w'.cell? ⟨w.heap.size, 2, none⟩ = some (.slice A2 x.f2.length c2) ∧ w'.cell? ⟨w.heap.size, 3, none⟩ = some (.slice A3 x.f3.length c3) ∧ w'.cell? ⟨w.heap.size, 4, none⟩ = some (.slice A4 x.f4.length c4))) w') := ⟨fun w' h => ⟨⟨(blk_cell (blk_below B7.out (below_then HL9.out HL9.out.size h)) 0).trans rfl, (blk_cell (blk_below B7.out (below_then HL9.out HL9.out.size h)) 1).trans rfl, (blk_cell (blk_below B7.out (below_then HL9.out HL9.out.size h)) 2).trans rfl, (blk_cell (blk_below B7.out (below_then HL9.out HL9.out.size h)) 3).trans rfl, (blk_cell (blk_below B7.out (below_then HL9.out HL9.out.size h)) 4).trans rfl⟩, ⟨(blk_cell (blk_below BA.out (below_then HC9.out HC9.out.size h)) 0).trans rfl, (blk_cell (blk_below BA.out (below_then HC9.out HC9.out.size h)) 1).trans rfl, (blk_cell (blk_below BA.out (below_then HC9.out HC9.out.size h)) 2).trans rfl, (blk_cell (blk_below BA.out (below_then HC9.out HC9.out.size h)) 3).trans rfl, (blk_cell (blk_below BA.out (below_then HC9.out HC9.out.size h)) 4).trans rfl⟩⟩⟩
  have HD9 : Below w9.heap.size w9 w9.drew := below_drew (Below.refl _ _)
  refine Za.regionL (fun w' => (w'.cell? ⟨N7, 0, none⟩ = some (.slice G0 x.f0.length g0) ∧ w'.cell? ⟨N7, 1, none⟩ = some (.slice G1 x.f1.length g1) ∧ w'.cell? ⟨N7, 2, none⟩ = some (.slice G2 x.f2.length g2) ∧ w'.cell? ⟨N7, 3, none⟩ = some (.slice G3 x.f3.length g3) ∧ w'.cell? ⟨N7, 4, none⟩ = some (.slice G4 x.f4.length g4)) ∧ (w'.cell? ⟨w.heap.size, 0, none⟩ = some (.slice A0 x.f0.length c0) ∧ w'.cell? ⟨w.heap.size, 1, none⟩ = some (.slice A1 x.f1.length c1) ∧ w'.cell? ⟨w.heap.size, 2, none⟩ = some (.slice A2 x.f2.length c2) ∧ w'.cell? ⟨w.heap.size, 3, none⟩ = some (.slice A3 x.f3.length c3) ∧ w'.cell? ⟨w.heap.size, 4, none⟩ = some (.slice A4 x.f4.length c4))) [] (by kernel_rfl) ?_
  have HS : (fun w' => (w'.cell? ⟨N7, 0, none⟩ = some (.slice G0 x.f0.length g0) ∧ w'.cell? ⟨N7, 1, none⟩ = some (.slice G1 x.f1.length g1) ∧ w'.cell? ⟨N7, 2, none⟩ = some (.slice G2 x.f2.length g2) ∧ w'.cell? ⟨N7, 3, none⟩ = some (.slice G3 x.f3.length g3) ∧ w'.cell? ⟨N7, 4, none⟩ = some (.slice G4 x.f4.length g4)) ∧ (w'.cell? ⟨w.heap.size, 0, none⟩ = some (.slice A0 x.f0.length c0) ∧ w'.cell? ⟨w.heap.size, 1, none⟩ = some (.slice A1 x.f1.length c1) ∧ w'.cell? ⟨w.heap.size, 2, none⟩ = some (.slice A2 x.f2.length c2) ∧ w'.cell? ⟨w.heap.size, 3, none⟩ = some (.slice A3 x.f3.length c3) ∧ w'.cell? ⟨w.heap.size, 4, none⟩ = some (.slice A4 x.f4.length c4))) w9.drew := F9.out _ HD9
  refine Za.takeL 0 (v := ?vb0) rfl (by kernel_rfl) (by kernel_rfl) (by kernel_rfl) (by kernel_rfl) (fun _ _ _ h => h) (Or.inl ⟨by rfl, ?hyb0⟩) HS ?restb0
  case hyb0 => (intro w hSw; (try dsimp only at hSw); go_simp; try with_reducible rfl)
  (try simp only [Act.put, List.setIfInBounds_toArray, List.set_cons_zero, List.set_cons_succ])
  refine Za.takeL 1 (v := ?vb1) rfl (by kernel_rfl) (by kernel_rfl) (by kernel_rfl) (by kernel_rfl) (fun _ _ _ h => h) (Or.inl ⟨by rfl, ?hyb1⟩) HS ?restb1
  case hyb1 => (intro w hSw; (try dsimp only at hSw); go_simp; try with_reducible rfl)
  (try simp only [Act.put, List.setIfInBounds_toArray, List.set_cons_zero, List.set_cons_succ])
  clear HS
  refine Za.nextL 2 (by kernel_rfl) rfl (fun K' hK => ?_)
  go_simp
  (go_at_call 6; refine (toEng_any x A0 c0 A1 c1 A2 c2 A3 c3 A4 c4 _ hcx (HA0.out.below (below_then HC9.out HC9.out.size HD9)) (HA1.out.below (below_then HC9.out HC9.out.size HD9)) (HA2.out.below (below_then HC9.out HC9.out.size HD9)) (HA3.out.below (below_then HC9.out HC9.out.size HD9)) (HA4.out.below (below_then HC9.out HC9.out.size HD9))).mono ?_; rintro e w10 ⟨v0, v1, v2, v3, v4, rfl, s0, s1, s2, s3, s4, hb⟩; obtain ⟨Z0, z0, rfl⟩ := Kd.S_slice s0; obtain ⟨Z1, z1, rfl⟩ := Kd.S_slice s1; obtain ⟨Z2, z2, rfl⟩ := Kd.S_slice s2; obtain ⟨Z3, z3, rfl⟩ := Kd.S_slice s3; obtain ⟨Z4, z4, rfl⟩ := Kd.S_slice s4; have HZ0 := Aside0.mk (S_isS s0).2; have HZ1 := Aside0.mk (S_isS s1).2; have HZ2 := Aside0.mk (S_isS s2).2; have HZ3 := Aside0.mk (S_isS s3).2; have HZ4 := Aside0.mk (S_isS s4).2; have HV10 : Below w9.heap.size w9 w10 := keepD hb; clear hb s0 s1 s2 s3 s4)
  go_wp2_with fail
  refine hK.out _ _ ⟨fun _ => F9.out _ HV10, ?_⟩
  clear hK K'
  (try simp only [Act.put, List.setIfInBounds_toArray, List.set_cons_zero, List.set_cons_succ])
  have HS : (fun w' => (w'.cell? ⟨N7, 0, none⟩ = some (.slice G0 x.f0.length g0) ∧ w'.cell? ⟨N7, 1, none⟩ = some (.slice G1 x.f1.length g1) ∧ w'.cell? ⟨N7, 2, none⟩ = some (.slice G2 x.f2.length g2) ∧ w'.cell? ⟨N7, 3, none⟩ = some (.slice G3 x.f3.length g3) ∧ w'.cell? ⟨N7, 4, none⟩ = some (.slice G4 x.f4.length g4)) ∧ (w'.cell? ⟨w.heap.size, 0, none⟩ = some (.slice A0 x.f0.length c0) ∧ w'.cell? ⟨w.heap.size, 1, none⟩ = some (.slice A1 x.f1.length c1) ∧ w'.cell? ⟨w.heap.size, 2, none⟩ = some (.slice A2 x.f2.length c2) ∧ w'.cell? ⟨w.heap.size, 3, none⟩ = some (.slice A3 x.f3.length c3) ∧ w'.cell? ⟨w.heap.size, 4, none⟩ = some (.slice A4 x.f4.length c4))) w10 := F9.out _ HV10
  clear HS
  refine Za.nextL 3 (by kernel_rfl) rfl (fun K' hK => ?_)
  go_simp
  (go_at_call 8; refine (eqEng_any x G0 g0 G1 g1 G2 g2 G3 g3 G4 g4 Z0 z0 Z1 z1 Z2 z2 Z3 z3 Z4 z4 _ (HY0.out.below (below_then HL9.out HL9.out.size HV10)) (HY1.out.below (below_then HL9.out HL9.out.size HV10)) (HY2.out.below (below_then HL9.out HL9.out.size HV10)) (HY3.out.below (below_then HL9.out HL9.out.size HV10)) (HY4.out.below (below_then HL9.out HL9.out.size HV10)) HZ0.out HZ1.out HZ2.out HZ3.out HZ4.out).mono ?_; rintro e w11 ⟨rfl, hb⟩; have HV11 : Below w9.heap.size w9 w11 := below_then HV10 HV10.size hb; have HC11 := Aside0.mk (below_then HC9.out HC9.out.size HV11); have HL11 := Aside0.mk (below_then HL9.out HL9.out.size HV11); clear hb)
  go_wp2_with fail
  refine hK.out _ _ ⟨fun _ => F9.out _ HV11, ?_⟩
  clear hK K'
  (try simp only [Act.put, List.setIfInBounds_toArray, List.set_cons_zero, List.set_cons_succ])
  have HS : (fun w' => (w'.cell? ⟨N7, 0, none⟩ = some (.slice G0 x.f0.length g0) ∧ w'.cell? ⟨N7, 1, none⟩ = some (.slice G1 x.f1.length g1) ∧ w'.cell? ⟨N7, 2, none⟩ = some (.slice G2 x.f2.length g2) ∧ w'.cell? ⟨N7, 3, none⟩ = some (.slice G3 x.f3.length g3) ∧ w'.cell? ⟨N7, 4, none⟩ = some (.slice G4 x.f4.length g4)) ∧ (w'.cell? ⟨w.heap.size, 0, none⟩ = some (.slice A0 x.f0.length c0) ∧ w'.cell? ⟨w.heap.size, 1, none⟩ = some (.slice A1 x.f1.length c1) ∧ w'.cell? ⟨w.heap.size, 2, none⟩ = some (.slice A2 x.f2.length c2) ∧ w'.cell? ⟨w.heap.size, 3, none⟩ = some (.slice A3 x.f3.length c3) ∧ w'.cell? ⟨w.heap.size, 4, none⟩ = some (.slice A4 x.f4.length c4))) w11 := F9.out _ HV11
  refine Za.takeL 4 (v := ?vb4) rfl (by kernel_rfl) (by kernel_rfl) (by kernel_rfl) (by kernel_rfl) (fun _ _ _ h => h) (Or.inl ⟨by rfl, ?hyb4⟩) HS ?restb4
  case hyb4 => (intro w hSw; (try dsimp only at hSw); go_simp; try with_reducible rfl)
  (try simp only [Act.put, List.setIfInBounds_toArray, List.set_cons_zero, List.set_cons_succ])
  refine Za.Walk.done (by kernel_rfl) ?_
  clear HS
  clear HV10 HV11 HD9 F9 HZ0 HZ1 HZ2 HZ3 HZ4
  go_upto_region 16 with fail
  have F11 : Aside0 (∀ w', Below w11.heap.size w11 w' → (fun w' => (w'.cell? ⟨N8, 0, none⟩ = some (.slice J0 y.f0.length j0) ∧ w'.cell? ⟨N8, 1, none⟩ = some (.slice J1 y.f1.length j1) ∧ w'.cell? ⟨N8, 2, none⟩ = some (.slice J2 y.f2.length j2) ∧ w'.cell? ⟨N8, 3, none⟩ = some (.slice J3 y.f3.length j3) ∧ w'.cell? ⟨N8, 4, none⟩ = some (.slice J4 y.f4.length j4)) ∧ (w'.cell? ⟨(w.heap.size + 1), 0, none⟩ = some (.slice B0 y.f0.length d0) ∧ w'.cell? ⟨(w.heap.size + 1), 1, none⟩ = some (.slice B1 y.f1.length d1) ∧ w'.cell? ⟨(w.heap.size + 1), 2, none⟩ = some (.slice B2 y.f2.length d2) ∧ w'.cell? ⟨(w.heap.size + 1), 3, none⟩ = some (.slice B3 y.f3.length d3) ∧ w'.cell? ⟨(w.heap.size + 1), 4, none⟩ = some (.slice B4 y.f4.length d4))) w') := ⟨fun w' h => ⟨⟨(blk_cell (blk_below B8.out (below_then HL11.out HL11.out.size h)) 0).trans rfl, (blk_cell (blk_below B8.out (below_then HL11.out HL11.out.size h)) 1).trans rfl, (blk_cell (blk_below B8.out (below_then HL11.out HL11.out.size h)) 2).trans rfl, (blk_cell (blk_below B8.out (below_then HL11.out HL11.out.size h)) 3).trans rfl, (blk_cell (blk_below B8.out (below_then HL11.out HL11.out.size h)) 4).trans rfl⟩, ⟨(blk_cell (blk_below BB.out (below_then HC11.out HC11.out.size h)) 0).trans rfl, (blk_cell (blk_below BB.out (below_then HC11.out HC11.out.size h)) 1).trans rfl, (blk_cell (blk_below BB.out (below_then HC11.out HC11.out.size h)) 2).trans rfl, (blk_cell (blk_below BB.out (below_then HC11.out HC11.out.size h)) 3).trans rfl, (blk_cell (blk_below BB.out (below_then HC11.out HC11.out.size h)) 4).trans rfl⟩⟩⟩
  have HD11 : Below w11.heap.size w11 w11.drew := below_drew (Below.refl _ _)
  refine Za.regionL (fun w' => (w'.cell? ⟨N8, 0, none⟩ = some (.slice J0 y.f0.length j0) ∧ w'.cell? ⟨N8, 1, none⟩ = some (.slice J1 y.f1.length j1) ∧ w'.cell? ⟨N8, 2, none⟩ = some (.slice J2 y.f2.length j2) ∧ w'.cell? ⟨N8, 3, none⟩ = some (.slice J3 y.f3.length j3) ∧ w'.cell? ⟨N8, 4, none⟩ = some (.slice J4 y.f4.length j4)) ∧ (w'.cell? ⟨(w.heap.size + 1), 0, none⟩ = some (.slice B0 y.f0.length d0) ∧ w'.cell? ⟨(w.heap.size + 1), 1, none⟩ = some (.slice B1 y.f1.length d1) ∧ w'.cell? ⟨(w.heap.size + 1), 2, none⟩ = some (.slice B2 y.f2.length d2) ∧ w'.cell? ⟨(w.heap.size + 1), 3, none⟩ = some (.slice B3 y.f3.length d3) ∧ w'.cell? ⟨(w.heap.size + 1), 4, none⟩ = some (.slice B4 y.f4.length d4))) [] (by kernel_rfl) ?_
  have HS : (fun w' => (w'.cell? ⟨N8, 0, none⟩ = some (.slice J0 y.f0.length j0) ∧ w'.cell? ⟨N8, 1, none⟩ = some (.slice J1 y.f1.length j1) ∧ w'.cell? ⟨N8, 2, none⟩ = some (.slice J2 y.f2.length j2) ∧ w'.cell? ⟨N8, 3, none⟩ = some (.slice J3 y.f3.length j3) ∧ w'.cell? ⟨N8, 4, none⟩ = some (.slice J4 y.f4.length j4)) ∧ (w'.cell? ⟨(w.heap.size + 1), 0, none⟩ = some (.slice B0 y.f0.length d0) ∧ w'.cell? ⟨(w.heap.size + 1), 1, none⟩ = some (.slice B1 y.f1.length d1) ∧ w'.cell? ⟨(w.heap.size + 1), 2, none⟩ = some (.slice B2 y.f2.length d2) ∧ w'.cell? ⟨(w.heap.size + 1), 3, none⟩ = some (.slice B3 y.f3.length d3) ∧ w'.cell? ⟨(w.heap.size + 1), 4, none⟩ = some (.slice B4 y.f4.length d4))) w11.drew := F11.out _ HD11
  refine Za.takeL 0 (v := ?vc0) rfl (by kernel_rfl) (by kernel_rfl) (by kernel_rfl) (by kernel_rfl) (fun _ _ _ h => h) (Or.inl ⟨by rfl, ?hyc0⟩) HS ?restc0
  case hyc0 => (intro w hSw; (try dsimp only at hSw); go_simp; try with_reducible rfl)
  (try simp only [Act.put, List.setIfInBounds_toArray, List.set_cons_zero, List.set_cons_succ])
  refine Za.takeL 1 (v := ?vc1) rfl (by kernel_rfl) (by kernel_rfl) (by kernel_rfl) (by kernel_rfl) (fun _ _ _ h => h) (Or.inl ⟨by rfl, ?hyc1⟩) HS ?restc1
  case hyc1 => (intro w hSw; (try dsimp only at hSw); go_simp; try with_reducible rfl)
  (try simp only [Act.put, List.setIfInBounds_toArray, List.set_cons_zero, List.set_cons_succ])
  clear HS
  refine Za.nextL 2 (by kernel_rfl) rfl (fun K' hK => ?_)
  go_simp
  (go_at_call 6; refine (toEng_any y B0 d0 B1 d1 B2 d2 B3 d3 B4 d4 _ hcy (HB0.out.below (below_then HC11.out HC11.out.size HD11)) (HB1.out.below (below_then HC11.out HC11.out.size HD11)) (HB2.out.below (below_then HC11.out HC11.out.size HD11)) (HB3.out.below (below_then HC11.out HC11.out.size HD11)) (HB4.out.below (below_then HC11.out HC11.out.size HD11))).mono ?_; rintro e w12 ⟨v0, v1, v2, v3, v4, rfl, s0, s1, s2, s3, s4, hb⟩; obtain ⟨Z0, z0, rfl⟩ := Kd.S_slice s0; obtain ⟨Z1, z1, rfl⟩ := Kd.S_slice s1; obtain ⟨Z2, z2, rfl⟩ := Kd.S_slice s2; obtain ⟨Z3, z3, rfl⟩ := Kd.S_slice s3; obtain ⟨Z4, z4, rfl⟩ := Kd.S_slice s4; have HZ0 := Aside0.mk (S_isS s0).2; have HZ1 := Aside0.mk (S_isS s1).2; have HZ2 := Aside0.mk (S_isS s2).2; have HZ3 := Aside0.mk (S_isS s3).2; have HZ4 := Aside0.mk (S_isS s4).2; have HV12 : Below w11.heap.size w11 w12 := keepD hb; clear hb s0 s1 s2 s3 s4)
  go_wp2_with fail
  refine hK.out _ _ ⟨fun _ => F11.out _ HV12, ?_⟩
  clear hK K'
  (try simp only [Act.put, List.setIfInBounds_toArray, List.set_cons_zero, List.set_cons_succ])
  have HS : (fun w' => (w'.cell? ⟨N8, 0, none⟩ = some (.slice J0 y.f0.length j0) ∧ w'.cell? ⟨N8, 1, none⟩ = some (.slice J1 y.f1.length j1) ∧ w'.cell? ⟨N8, 2, none⟩ = some (.slice J2 y.f2.length j2) ∧ w'.cell? ⟨N8, 3, none⟩ = some (.slice J3 y.f3.length j3) ∧ w'.cell? ⟨N8, 4, none⟩ = some (.slice J4 y.f4.length j4)) ∧ (w'.cell? ⟨(w.heap.size + 1), 0, none⟩ = some (.slice B0 y.f0.length d0) ∧ w'.cell? ⟨(w.heap.size + 1), 1, none⟩ = some (.slice B1 y.f1.length d1) ∧ w'.cell? ⟨(w.heap.size + 1), 2, none⟩ = some (.slice B2 y.f2.length d2) ∧ w'.cell? ⟨(w.heap.size + 1), 3, none⟩ = some (.slice B3 y.f3.length d3) ∧ w'.cell? ⟨(w.heap.size + 1), 4, none⟩ = some (.slice B4 y.f4.length d4))) w12 := F11.out _ HV12
  clear HS
  refine Za.nextL 3 (by kernel_rfl) rfl (fun K' hK => ?_)
  go_simp
  (go_at_call 8; refine (eqEng_any y J0 j0 J1 j1 J2 j2 J3 j3 J4 j4 Z0 z0 Z1 z1 Z2 z2 Z3 z3 Z4 z4 _ (HXJ0.out.below (below_then HL11.out HL11.out.size HV12)) (HXJ1.out.below (below_then HL11.out HL11.out.size HV12)) (HXJ2.out.below (below_then HL11.out HL11.out.size HV12)) (HXJ3.out.below (below_then HL11.out HL11.out.size HV12)) (HXJ4.out.below (below_then HL11.out HL11.out.size HV12)) HZ0.out HZ1.out HZ2.out HZ3.out HZ4.out).mono ?_; rintro e w13 ⟨rfl, hb⟩; have HV13 : Below w11.heap.size w11 w13 := below_then HV12 HV12.size hb; have HC13 := Aside0.mk (below_then HC11.out HC11.out.size HV13); have HL13 := Aside0.mk (below_then HL11.out HL11.out.size HV13); clear hb)
  go_wp2_with fail
  refine hK.out _ _ ⟨fun _ => F11.out _ HV13, ?_⟩
  clear hK K'
  (try simp only [Act.put, List.setIfInBounds_toArray, List.set_cons_zero, List.set_cons_succ])
  have HS : (fun w' => (w'.cell? ⟨N8, 0, none⟩ = some (.slice J0 y.f0.length j0) ∧ w'.cell? ⟨N8, 1, none⟩ = some (.slice J1 y.f1.length j1) ∧ w'.cell? ⟨N8, 2, none⟩ = some (.slice J2 y.f2.length j2) ∧ w'.cell? ⟨N8, 3, none⟩ = some (.slice J3 y.f3.length j3) ∧ w'.cell? ⟨N8, 4, none⟩ = some (.slice J4 y.f4.length j4)) ∧ (w'.cell? ⟨(w.heap.size + 1), 0, none⟩ = some (.slice B0 y.f0.length d0) ∧ w'.cell? ⟨(w.heap.size + 1), 1, none⟩ = some (.slice B1 y.f1.length d1) ∧ w'.cell? ⟨(w.heap.size + 1), 2, none⟩ = some (.slice B2 y.f2.length d2) ∧ w'.cell? ⟨(w.heap.size + 1), 3, none⟩ = some (.slice B3 y.f3.length d3) ∧ w'.cell? ⟨(w.heap.size + 1), 4, none⟩ = some (.slice B4 y.f4.length d4))) w13 := F11.out _ HV13
  refine Za.takeL 4 (v := ?vc4) rfl (by kernel_rfl) (by kernel_rfl) (by kernel_rfl) (by kernel_rfl) (fun _ _ _ h => h) (Or.inl ⟨by rfl, ?hyc4⟩) HS ?restc4
  case hyc4 => (intro w hSw; (try dsimp only at hSw); go_simp; try with_reducible rfl)
  (try simp only [Act.put, List.setIfInBounds_toArray, List.set_cons_zero, List.set_cons_succ])
  refine Za.Walk.done (by kernel_rfl) ?_
  clear HS
  clear HV12 HV13 HD11 F11 HZ0 HZ1 HZ2 HZ3 HZ4
  go_wp2
  go_ret
  exact ⟨rfl, below_then HX.out HX.out.size HC13.out⟩
end Go.Proofs.Ytbbdkhffacoglaa.Kt
