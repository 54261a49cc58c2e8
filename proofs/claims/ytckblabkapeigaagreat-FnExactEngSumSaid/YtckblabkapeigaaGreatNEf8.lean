
/- Are rules valid together: the reference's. -/
import Derived.Test.YtckblabkapeigaaGreatNEe8
import Derived.Test.YtckblabkapeigaaGreatNZa
set_option linter.unusedVariables false
set_option linter.unusedSimpArgs false
namespace Go.Proofs.YtckblabkapeigaaGreat.Ef8
open Go.RowKit Go.Proofs.YtckblabkapeigaaGreatW.PrintWords Go.Proofs.YtckblabkapeigaaGreat.Ja Go.Proofs.YtckblabkapeigaaGreat.Jb Go.Proofs.YtckblabkapeigaaGreat.Jc Go.Proofs.YtckblabkapeigaaGreat.Jd Go.Proofs.YtckblabkapeigaaGreat.Jg Go.Proofs.YtckblabkapeigaaGreat.Ka Go.Proofs.YtckblabkapeigaaGreat.Kb Go.Proofs.YtckblabkapeigaaGreat.Kd2 Go.Proofs.YtckblabkapeigaaGreat.Ea8 Go.Proofs.YtckblabkapeigaaGreat.Eb8 Go.Proofs.YtckblabkapeigaaGreat.Ec8 Go.Proofs.YtckblabkapeigaaGreat.Ee8

set_option maxHeartbeats 4000000 in
set_option maxRecDepth 100000 in
theorem sRulesOk_any (A : Option Addr) (c : Nat) (l : List TRule) (w : World) (hl : l.length ≤ 1048576) (hn : ∀ x ∈ l, x.f0.size ≤ 9223372036854775807) (hc : ∀ x ∈ l, cntL x.f3.f3 ≤ 1048576) (hL : IsS kRule w l A c) :
  Calls Tryz.prog 36 #[.slice A l.length c] w fun e w' => e = .returned (.bool (rulesB l)) ∧ Below w.heap.size w w' := by
 have HL := Aside0.mk hL
 have HN := Aside0.mk hn
 have HC := Aside0.mk hc
 clear hL hn hc
 by_cases h4 : l.length ≤ 4
 rotate_left
 ·have d1 : decide ((l.length : Int) > 4) = true := decide_eq_true (by omega)
  have HE : Aside0 (rulesB l = false) := ⟨by unfold rulesB; rw [decide_eq_false h4]; rfl⟩
  clear h4
  go_enter Tryz.func36, Tryz.ntmps36
  go_wp2
  go_ret
  exact ⟨by rw [HE.out]; rfl, Below.refl _ _⟩
 have d1 : decide ((l.length : Int) > 4) = false := decide_eq_false (by omega)
 have H4 := Aside0.mk h4
 clear h4
 go_enter Tryz.func36, Tryz.ntmps36
 go_upto_region 4 with fail
 clear d1
 go_loopw [3] (fun vi wr => ∃ (k : Nat), k ≤ l.length ∧ vi = .int .i64 k ∧ Aside0 (oksTo l k = true) ∧ Aside0 (Below w.heap.size w wr)) (fun vi _ => l.length - (intOf vi).toNat)
 case atStart => exact ⟨0, Nat.zero_le _, rfl, ⟨rfl⟩, ⟨Below.refl _ _⟩⟩
 case round =>
  obtain ⟨k, hk, rfl, HO, HB⟩ := hrel
  by_cases hlt : k < l.length
  ·have g1 : decide (k < l.length) = true := decide_eq_true hlt
   have i1 : (k : Int) < l.length := by omega
   obtain ⟨ad, A2, c2, rfl, y0, y1, y2, y3, y4, y5, y6, y7, y8, y9, y10, y11, hIs⟩ := atRule (HL.out.below HB.out) k hlt
   have hz1 := HN.out _ (getR_mem hlt)
   have hz2 := HC.out _ (getR_mem hlt)
   have HS := Aside0.mk (oks_succ l k)
   have HNO := Aside0.mk (oks_no hlt)
   have HGA : Aside0 (goodAt l k = (ruleB (l.getD k zRule) && !((l.take k).any (sameN (l.getD k zRule).f0)))) := ⟨rfl⟩
   generalize l.getD k zRule = z at y0 y1 y2 y3 y4 y5 y6 y7 y8 y9 y10 y11 hIs hz1 hz2 HGA
   have HIS := Aside0.mk hIs
   clear hIs
   cases hr : ruleB z with
   | false =>
    have HE : Aside0 (rulesB l = false) := ⟨HNO.out (by rw [HGA.out, hr]; rfl)⟩
    have HR := Aside0.mk hr
    clear hr
    go_wp2_with (go_at_call 69; refine (sRuleOk_any z A2 c2 _ hz1 hz2 HIS.out).mono ?_; rintro e w2 ⟨rfl, hb2⟩; rw [HR.out]; have HB2 := Aside0.mk (below_then HB.out HB.out.size hb2); clear hb2)
    go_ret
    exact ⟨by rw [HE.out]; rfl, HB2.out⟩
   | true =>
    have HR := Aside0.mk hr
    clear hr
    have Z0 := Aside0.mk y0
    go_upto_region 9 with (go_at_call 69; refine (sRuleOk_any z A2 c2 _ hz1 hz2 HIS.out).mono ?_; rintro e w2 ⟨rfl, hb2⟩; rw [HR.out]; have HB2b := Aside0.mk hb2; have HB2 := Aside0.mk (below_then HB.out HB.out.size hb2); clear hb2)
    clear y0 y1 y2 y3 y4 y5 y6 y7 y8 y9 y10 y11 hz1 hz2 g1
    go_loopw [4] (fun vj wi => ∃ (j : Nat), j ≤ k ∧ vj = .int .i64 j ∧ Aside0 ((l.take j).any (sameN z.f0) = false) ∧ Aside0 (Below w2.heap.size w2 wi)) (fun vj _ => k - (intOf vj).toNat)
    case atStart => exact ⟨0, Nat.zero_le _, rfl, ⟨by simp⟩, ⟨Below.refl _ _⟩⟩
    case round =>
     obtain ⟨j, hj, rfl, HA, HBI⟩ := hrel
     by_cases hlj : j < k
     ·have g2 : decide (j < k) = true := decide_eq_true hlj
      have j1 : (j : Int) < l.length := by omega
      obtain ⟨ad', A3, c3, eA, x0, -⟩ := atRule (HL.out.below (below_then HB2.out HB2.out.size HBI.out)) j (by omega)
      obtain rfl : ad = ad' := Option.some.inj eA
      have HAS := Aside0.mk (anyR_snoc (sameN z.f0) (show j < l.length by omega))
      have z0 := pw_cell_below HBI.out (pw_cell_below HB2b.out Z0.out)
      generalize l.getD j zRule = y at x0 HAS
      cases hd : sameN z.f0 y with
      | true =>
       have q1 : (y.f0.toList == z.f0.toList) = true := hd
       have HE : Aside0 (rulesB l = false) := ⟨HNO.out (by
        rw [HGA.out]
        have h : (l.take k).any (sameN z.f0) = true := by
         have h2 := HAS.out
         rw [hd, Bool.or_true] at h2
         obtain ⟨u, hu, hu2⟩ := List.any_eq_true.1 h2
         exact List.any_eq_true.2 ⟨u, List.take_subset_take_left l (by omega) hu, hu2⟩
        rw [h]; simp)⟩
       clear hd
       go_upto_region 11 with fail
       refine Za.regionL (fun w' => w'.cell? (ad.add (j * 12)) = some (.string y.f0) ∧ w'.cell? (ad.add (k * 12)) = some (.string z.f0)) [] (by kernel_rfl) ?_
       have HD : Aside0 (Below wr.heap.size wr wr.drew) := ⟨below_drew (Below.refl _ _)⟩
       generalize wr.drew = wd at HD ⊢
       have HS : (fun w' => w'.cell? (ad.add (j * 12)) = some (.string y.f0) ∧ w'.cell? (ad.add (k * 12)) = some (.string z.f0)) wd := ⟨pw_cell_below HD.out x0, pw_cell_below HD.out z0⟩
       refine Za.takeL 0 (v := ?va0) rfl (by kernel_rfl) (by kernel_rfl) (by kernel_rfl) (by kernel_rfl) (fun _ _ _ h => h) (Or.inl ⟨by rfl, ?hya0⟩) HS ?resta0
       case hya0 => (intro w hSw; (try dsimp only at hSw); go_simp; try with_reducible rfl)
       (try simp only [Act.put, List.setIfInBounds_toArray, List.set_cons_zero, List.set_cons_succ])
       refine Za.takeL 1 (v := ?va1) rfl (by kernel_rfl) (by kernel_rfl) (by kernel_rfl) (by kernel_rfl) (fun _ _ _ h => h) (Or.inl ⟨by rfl, ?hya1⟩) HS ?resta1
       case hya1 => (intro w hSw; (try dsimp only at hSw); go_simp; try with_reducible rfl)
       (try simp only [Act.put, List.setIfInBounds_toArray, List.set_cons_zero, List.set_cons_succ])
       refine Za.takeL 2 (v := ?va2) rfl (by kernel_rfl) (by kernel_rfl) (by kernel_rfl) (by kernel_rfl) (fun _ _ _ h => h) (Or.inl ⟨by rfl, ?hya2⟩) HS ?resta2
       case hya2 => (intro w hSw; (try dsimp only at hSw); go_simp; try with_reducible rfl)
       (try simp only [Act.put, List.setIfInBounds_toArray, List.set_cons_zero, List.set_cons_succ])
       refine Za.takeL 3 (v := ?va3) rfl (by kernel_rfl) (by kernel_rfl) (by kernel_rfl) (by kernel_rfl) (fun _ _ _ h => h) (Or.inl ⟨by rfl, ?hya3⟩) HS ?resta3
       case hya3 => (intro w hSw; (try dsimp only at hSw); go_simp; try with_reducible rfl)
       (try simp only [Act.put, List.setIfInBounds_toArray, List.set_cons_zero, List.set_cons_succ])
       refine Za.takeL 4 (v := ?va4) rfl (by kernel_rfl) (by kernel_rfl) (by kernel_rfl) (by kernel_rfl) (fun _ _ _ h => h) (Or.inl ⟨by rfl, ?hya4⟩) HS ?resta4
       case hya4 => (intro w hSw; (try dsimp only at hSw); go_simp; try with_reducible rfl)
       (try simp only [Act.put, List.setIfInBounds_toArray, List.set_cons_zero, List.set_cons_succ])
       refine Za.takeL 5 (v := ?va5) rfl (by kernel_rfl) (by kernel_rfl) (by kernel_rfl) (by kernel_rfl) (fun _ _ _ h => h) (Or.inl ⟨by rfl, ?hya5⟩) HS ?resta5
       case hya5 => (intro w hSw; (try dsimp only at hSw); go_simp; try with_reducible rfl)
       (try simp only [Act.put, List.setIfInBounds_toArray, List.set_cons_zero, List.set_cons_succ])
       refine Za.takeL 6 (v := ?va6) rfl (by kernel_rfl) (by kernel_rfl) (by kernel_rfl) (by kernel_rfl) (fun _ _ _ h => h) (Or.inl ⟨by rfl, ?hya6⟩) HS ?resta6
       case hya6 => (intro w hSw; (try dsimp only at hSw); go_simp; try with_reducible rfl)
       (try simp only [Act.put, List.setIfInBounds_toArray, List.set_cons_zero, List.set_cons_succ])
       refine Za.takeL 7 (v := ?va7) rfl (by kernel_rfl) (by kernel_rfl) (by kernel_rfl) (by kernel_rfl) (fun _ _ _ h => h) (Or.inl ⟨by rfl, ?hya7⟩) HS ?resta7
       case hya7 => (intro w hSw; (try dsimp only at hSw); go_simp; try with_reducible rfl)
       (try simp only [Act.put, List.setIfInBounds_toArray, List.set_cons_zero, List.set_cons_succ])
       refine Za.takeL 8 (v := ?va8) rfl (by kernel_rfl) (by kernel_rfl) (by kernel_rfl) (by kernel_rfl) (fun _ _ _ h => h) (Or.inl ⟨by rfl, ?hya8⟩) HS ?resta8
       case hya8 => (intro w hSw; (try dsimp only at hSw); go_simp; try with_reducible rfl)
       (try simp only [Act.put, List.setIfInBounds_toArray, List.set_cons_zero, List.set_cons_succ])
       refine Za.takeL 9 (v := ?va9) rfl (by kernel_rfl) (by kernel_rfl) (by kernel_rfl) (by kernel_rfl) (fun _ _ _ h => h) (Or.inl ⟨by rfl, ?hya9⟩) HS ?resta9
       case hya9 => (intro w hSw; (try dsimp only at hSw); go_simp; try with_reducible rfl)
       (try simp only [Act.put, List.setIfInBounds_toArray, List.set_cons_zero, List.set_cons_succ])
       refine Za.takeL 10 (v := ?va10) rfl (by kernel_rfl) (by kernel_rfl) (by kernel_rfl) (by kernel_rfl) (fun _ _ _ h => h) (Or.inl ⟨by rfl, ?hya10⟩) HS ?resta10
       case hya10 => (intro w hSw; (try dsimp only at hSw); go_simp; try with_reducible rfl)
       (try simp only [Act.put, List.setIfInBounds_toArray, List.set_cons_zero, List.set_cons_succ])
       clear HS
       refine Za.Walk.done (by kernel_rfl) ?_
       go_wp2
       go_ret
       exact ⟨by rw [HE.out]; rfl, below_then HB2.out HB2.out.size (below_then HBI.out HBI.out.size HD.out)⟩
      | false =>
       have q1 : (y.f0.toList == z.f0.toList) = false := hd
       have HA2 : Aside0 ((l.take (j + 1)).any (sameN z.f0) = false) := ⟨by rw [HAS.out, HA.out, hd]; rfl⟩
       clear hd
       go_upto_region 11 with fail
       refine Za.regionL (fun w' => w'.cell? (ad.add (j * 12)) = some (.string y.f0) ∧ w'.cell? (ad.add (k * 12)) = some (.string z.f0)) [] (by kernel_rfl) ?_
       have HD : Aside0 (Below wr.heap.size wr wr.drew) := ⟨below_drew (Below.refl _ _)⟩
       generalize wr.drew = wd at HD ⊢
       have HS : (fun w' => w'.cell? (ad.add (j * 12)) = some (.string y.f0) ∧ w'.cell? (ad.add (k * 12)) = some (.string z.f0)) wd := ⟨pw_cell_below HD.out x0, pw_cell_below HD.out z0⟩
       refine Za.takeL 0 (v := ?vb0) rfl (by kernel_rfl) (by kernel_rfl) (by kernel_rfl) (by kernel_rfl) (fun _ _ _ h => h) (Or.inl ⟨by rfl, ?hyb0⟩) HS ?restb0
       case hyb0 => (intro w hSw; (try dsimp only at hSw); go_simp; try with_reducible rfl)
       (try simp only [Act.put, List.setIfInBounds_toArray, List.set_cons_zero, List.set_cons_succ])
       refine Za.takeL 1 (v := ?vb1) rfl (by kernel_rfl) (by kernel_rfl) (by kernel_rfl) (by kernel_rfl) (fun _ _ _ h => h) (Or.inl ⟨by rfl, ?hyb1⟩) HS ?restb1
       case hyb1 => (intro w hSw; (try dsimp only at hSw); go_simp; try with_reducible rfl)
       (try simp only [Act.put, List.setIfInBounds_toArray, List.set_cons_zero, List.set_cons_succ])
       refine Za.takeL 2 (v := ?vb2) rfl (by kernel_rfl) (by kernel_rfl) (by kernel_rfl) (by kernel_rfl) (fun _ _ _ h => h) (Or.inl ⟨by rfl, ?hyb2⟩) HS ?restb2
       case hyb2 => (intro w hSw; (try dsimp only at hSw); go_simp; try with_reducible rfl)
       (try simp only [Act.put, List.setIfInBounds_toArray, List.set_cons_zero, List.set_cons_succ])
       refine Za.takeL 3 (v := ?vb3) rfl (by kernel_rfl) (by kernel_rfl) (by kernel_rfl) (by kernel_rfl) (fun _ _ _ h => h) (Or.inl ⟨by rfl, ?hyb3⟩) HS ?restb3
       case hyb3 => (intro w hSw; (try dsimp only at hSw); go_simp; try with_reducible rfl)
       (try simp only [Act.put, List.setIfInBounds_toArray, List.set_cons_zero, List.set_cons_succ])
       refine Za.takeL 4 (v := ?vb4) rfl (by kernel_rfl) (by kernel_rfl) (by kernel_rfl) (by kernel_rfl) (fun _ _ _ h => h) (Or.inl ⟨by rfl, ?hyb4⟩) HS ?restb4
       case hyb4 => (intro w hSw; (try dsimp only at hSw); go_simp; try with_reducible rfl)
       (try simp only [Act.put, List.setIfInBounds_toArray, List.set_cons_zero, List.set_cons_succ])
       refine Za.takeL 5 (v := ?vb5) rfl (by kernel_rfl) (by kernel_rfl) (by kernel_rfl) (by kernel_rfl) (fun _ _ _ h => h) (Or.inl ⟨by rfl, ?hyb5⟩) HS ?restb5
       case hyb5 => (intro w hSw; (try dsimp only at hSw); go_simp; try with_reducible rfl)
       (try simp only [Act.put, List.setIfInBounds_toArray, List.set_cons_zero, List.set_cons_succ])
       refine Za.takeL 6 (v := ?vb6) rfl (by kernel_rfl) (by kernel_rfl) (by kernel_rfl) (by kernel_rfl) (fun _ _ _ h => h) (Or.inl ⟨by rfl, ?hyb6⟩) HS ?restb6
       case hyb6 => (intro w hSw; (try dsimp only at hSw); go_simp; try with_reducible rfl)
       (try simp only [Act.put, List.setIfInBounds_toArray, List.set_cons_zero, List.set_cons_succ])
       refine Za.takeL 7 (v := ?vb7) rfl (by kernel_rfl) (by kernel_rfl) (by kernel_rfl) (by kernel_rfl) (fun _ _ _ h => h) (Or.inl ⟨by rfl, ?hyb7⟩) HS ?restb7
       case hyb7 => (intro w hSw; (try dsimp only at hSw); go_simp; try with_reducible rfl)
       (try simp only [Act.put, List.setIfInBounds_toArray, List.set_cons_zero, List.set_cons_succ])
       refine Za.takeL 8 (v := ?vb8) rfl (by kernel_rfl) (by kernel_rfl) (by kernel_rfl) (by kernel_rfl) (fun _ _ _ h => h) (Or.inl ⟨by rfl, ?hyb8⟩) HS ?restb8
       case hyb8 => (intro w hSw; (try dsimp only at hSw); go_simp; try with_reducible rfl)
       (try simp only [Act.put, List.setIfInBounds_toArray, List.set_cons_zero, List.set_cons_succ])
       refine Za.takeL 9 (v := ?vb9) rfl (by kernel_rfl) (by kernel_rfl) (by kernel_rfl) (by kernel_rfl) (fun _ _ _ h => h) (Or.inl ⟨by rfl, ?hyb9⟩) HS ?restb9
       case hyb9 => (intro w hSw; (try dsimp only at hSw); go_simp; try with_reducible rfl)
       (try simp only [Act.put, List.setIfInBounds_toArray, List.set_cons_zero, List.set_cons_succ])
       refine Za.takeL 10 (v := ?vb10) rfl (by kernel_rfl) (by kernel_rfl) (by kernel_rfl) (by kernel_rfl) (fun _ _ _ h => h) (Or.inl ⟨by rfl, ?hyb10⟩) HS ?restb10
       case hyb10 => (intro w hSw; (try dsimp only at hSw); go_simp; try with_reducible rfl)
       (try simp only [Act.put, List.setIfInBounds_toArray, List.set_cons_zero, List.set_cons_succ])
       clear HS
       refine Za.Walk.done (by kernel_rfl) ?_
       have HBJ := Aside0.mk (below_then HBI.out HBI.out.size HD.out)
       go_wp2
       go_roundw
       case rel => exact ⟨j + 1, by omega, by go_num, HA2, HBJ⟩
       case measure => simp [intOf]; omega
     ·have hje : j = k := by omega
      subst hje
      have g2 : decide (j < j) = false := decide_eq_false (by omega)
      have HE : Aside0 (oksTo l (j + 1) = true) := ⟨by rw [HS.out, HO.out, HGA.out, HR.out, HA.out]; rfl⟩
      have HBJ := Aside0.mk (below_then HB2.out HB2.out.size HBI.out)
      go_wp2
      go_roundw
      case rel => exact ⟨j + 1, by omega, by go_num, HE, HBJ⟩
      case measure => simp [intOf]; omega
  ·have hke : k = l.length := by omega
   subst hke
   have g1 : decide (l.length < l.length) = false := decide_eq_false (by omega)
   have HE : Aside0 (true = rulesB l) := ⟨by unfold rulesB; rw [HO.out, decide_eq_true H4.out]; rfl⟩
   go_wp2
   go_ret
   exact ⟨by rw [← HE.out]; rfl, HB.out⟩
end Go.Proofs.YtckblabkapeigaaGreat.Ef8
