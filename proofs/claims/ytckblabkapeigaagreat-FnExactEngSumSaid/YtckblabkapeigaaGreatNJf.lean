
/- Marks of expressions: the laws' own functions. -/
import Derived.Test.YtckblabkapeigaaGreatNJd
set_option linter.unusedVariables false
set_option linter.unusedSimpArgs false
namespace Go.Proofs.YtckblabkapeigaaGreat.Jf
open Go.RowKit Go.Proofs.YtckblabkapeigaaGreatW.PrintWords Go.Proofs.YtckblabkapeigaaGreat.Ja Go.Proofs.YtckblabkapeigaaGreat.Jb Go.Proofs.YtckblabkapeigaaGreat.Jc Go.Proofs.YtckblabkapeigaaGreat.Jd

mutual
def mkX : Ex → Int → Ex
 | .mk _ _ _ l, k => .mk k (k + 1) (k + 1 + 1) (mkL l (k + 1 + 1 + 1))
def mkL : List Ex → Int → List Ex
 | [], _ => []
 | x :: xs, k => mkX x k :: mkL xs (k + 3 * (1 + (cnt x : Int)))
end
theorem mkX_eq (x : Ex) (k : Int) : mkX x k = .mk k (k + 1) (k + 1 + 1) (mkL x.f3 (k + 1 + 1 + 1)) := by cases x; simp [mkX, Ex.f3]
theorem mkL_nil (k : Int) : mkL [] k = [] := by simp [mkL]
theorem mkL_cons (x : Ex) (xs : List Ex) (k : Int) : mkL (x :: xs) k = mkX x k :: mkL xs (k + 3 * (1 + (cntL x.f3 : Int))) := by rw [mkL, cnt_eq]
theorem mkL_length : ∀ (l : List Ex) (k : Int), (mkL l k).length = l.length
 | [], k => by rw [mkL_nil]
 | x :: xs, k => by rw [mkL_cons, List.length_cons, List.length_cons, mkL_length xs]
theorem mkL_append : ∀ (l m : List Ex) (k : Int), mkL (l ++ m) k = mkL l k ++ mkL m (k + 3 * (cntL l : Int))
 | [], m, k => by rw [mkL_nil, cntL_nil]; simp
 | x :: xs, m, k => by
  rw [List.cons_append, mkL_cons, mkL_append xs m, mkL_cons, List.cons_append, cntL_cons]
  congr 3
  omega
theorem mkL_snoc (l : List Ex) (i : Nat) (h : i < l.length) (k : Int) : mkL (l.take (i + 1)) k = mkL (l.take i) k ++ [mkX (l.getD i zE) (k + 3 * (cntL (l.take i) : Int))] := by
 rw [take_snoc l i zE h, mkL_append, mkL_cons, mkL_nil]
/-! marks -/
set_option maxHeartbeats 4000000 in
set_option maxRecDepth 100000 in
theorem markExS_of (base : Nat) (ok : Nat → Prop) (v : Value) (l : List Ex) (k : Int) (w : World) (hk : 0 ≤ k) (hk2 : k + 3 * (cntL l : Int) ≤ 4611686018427387904) (hS : SE w base ok v l)
  (hE : ∀ x, x ∈ l → ∀ ok v w k, 0 ≤ k → k + 3 * (cntL x.f3 : Int) ≤ 4611686018427387904 → SE w base ok v x.f3 → Calls Tryz.prog 64 #[v, .int .i64 k] w fun e w' => e = .returned (.int .i64 (k + 3 * (cntL x.f3 : Int))) ∧ SE w' base ok v (mkL x.f3 k) ∧ Fr (fun j => ok j ∧ base ≤ j) w w') :
  Calls Tryz.prog 64 #[v, .int .i64 k] w fun e w' => e = .returned (.int .i64 (k + 3 * (cntL l : Int))) ∧ SE w' base ok v (mkL l k) ∧ Fr (fun j => ok j ∧ base ≤ j) w w' := by
 obtain ⟨A, c, rfl⟩ := Kd.S_slice hS
 have hn := (S_isEL hS).2.len
 have h00 : mkL (l.take 0) k ++ l.drop 0 = l := by simp [mkL_nil]
 have HS0 : Aside0 (SE w base (fun j => ok j ∧ base ≤ j) (.slice A l.length c) (mkL (l.take 0) k ++ l.drop 0)) := ⟨by rw [h00]; exact Kd.S_mono (Kd.S_bound hS) (fun j hj => ⟨hj.1, hj.2.1⟩)⟩
 have HF0 : Aside0 (Fr (fun j => ok j ∧ base ≤ j) w w) := ⟨Fr.refl _ _⟩
 have HE := Aside0.mk hE
 clear h00 hS hE
 go_enter Tryz.func64, Tryz.ntmps64
 go_wp2
 go_loopw [1, 5] (fun v1 vi wr => ∃ (i : Nat) (kk : Int), i ≤ l.length ∧ kk = k + 3 * (cntL (l.take i) : Int) ∧ vi = .int .i64 i ∧ v1 = .int .i64 kk ∧ Aside0 (SE wr base (fun j => ok j ∧ base ≤ j) (.slice A l.length c) (mkL (l.take i) k ++ l.drop i)) ∧ Aside0 (Fr (fun j => ok j ∧ base ≤ j) w wr)) (fun _ vi _ => l.length - (intOf vi).toNat)
 case atStart => exact ⟨0, k, Nat.zero_le _, by simp [cntL_nil], rfl, rfl, HS0, HF0⟩
 case round =>
  clear HS0 HF0
  obtain ⟨i, kk, hi, hkk, rfl, rfl, HS, HF⟩ := hrel
  by_cases hlt : i < l.length
  ·have g1 : decide (i < l.length) = true := decide_eq_true hlt
   have i1 : (i : Int) < l.length := by omega
   have hpl : (mkL (l.take i) k).length = i := by rw [mkL_length, List.length_take]; omega
   have hlen : (mkL (l.take i) k ++ l.drop i).length = l.length := mid_length _ _ _ hpl hi
   have hwt := cntL_snoc l i hlt
   have hwl := cntL_take_le l (i + 1)
   have HSET := Aside0.mk (show (mkL (l.take i) k ++ l.drop i).set ((i : Int)).toNat (mkX (l.getD i zE) kk) = mkL (l.take (i + 1)) k ++ l.drop (i + 1) by
    rw [Int.toNat_natCast, mid_set _ _ _ _ hpl hlt, mkL_snoc l i hlt k, hkk])
   have hgd := mid_getD (mkL (l.take i) k) l i zE hpl
   have HQ := Aside0.mk (HE.out _ (getE_mem hlt))
   obtain ⟨g, cap, hv, hgb, hgl, hcl⟩ := Kd.S_form HS.out (by omega)
   injection hv with hA hl2 hc2
   subst hA
   clear hl2 hc2 hcl hgl
   obtain ⟨oki, ce, hce1, hM, hcc, hfr, hoki, hH⟩ := Kd.S_elem HS.out zE (i : Int) (by omega) (by omega)
   rw [Int.toNat_natCast] at hM hcc hfr
   rw [hgd] at hM
   have hk0 : 0 ≤ kk := by omega
   have hk1 : kk + 3 * (1 + (cntL (l.getD i zE).f3 : Int)) ≤ 4611686018427387904 := by omega
   have HKK : Aside0 (kk + 3 * (1 + (cntL (l.getD i zE).f3 : Int)) = k + 3 * (cntL (l.take (i + 1)) : Int)) := ⟨by omega⟩
   clear hwt hwl hkk hpl hlen hgd
   generalize l.getD i zE = o at hM hk1 HSET HKK HQ
   obtain ⟨v2, hce, hR2⟩ := kE_openM hM
   subst hce
   obtain ⟨A2, c2, rfl⟩ := Kd.S_slice hR2
   have e0 : wr.cell? ⟨g, i * 4, none⟩ = some (.int .i64 o.f0) := hcc 0 _ rfl
   have e1 : wr.cell? ⟨g, i * 4 + 1, none⟩ = some (.int .i64 o.f1) := hcc 1 _ rfl
   have e2 : wr.cell? ⟨g, i * 4 + 2, none⟩ = some (.int .i64 o.f2) := hcc 2 _ rfl
   have e3 : wr.cell? ⟨g, i * 4 + 3, none⟩ = some (.slice A2 o.f3.length c2) := hcc 3 _ rfl
   have z0 : wr.frozen? ⟨g, i * 4, none⟩ = false := hfr 0
   have z1 : wr.frozen? ⟨g, i * 4 + 1, none⟩ = false := hfr 1
   have z2 : wr.frozen? ⟨g, i * 4 + 2, none⟩ = false := hfr 2
   obtain ⟨hH2, hg2⟩ := Kd.H_seg hH (by omega) (by omega) (seg := [.int .i64 kk, .int .i64 (kk + 1), .int .i64 (kk + 1 + 1)]) (j := 0) (show 0 + 3 ≤ 4 by decide) (by intro q hq; simp at hq; rcases hq with rfl | rfl | rfl <;> rfl)
   rw [Int.toNat_natCast] at hH2 hg2
   have hf2 : Fr (fun j => ok j ∧ base ≤ j) w (wr.setCells g (i * (kE 50).sz + 0) [.int .i64 kk, .int .i64 (kk + 1), .int .i64 (kk + 1 + 1)]) := Fr.trans HF.out (Fr.of_grown (S := fun j => j = g) hg2 (fun j e => by injection e)) (fun j hj _ => by subst hj; exact (Kd.S_R HS.out).1 j (by simp [Value.ownBlock]))
   have hR3 := Kd.S_grown hR2 hg2 (fun j hj e => (hoki j hj).2 (by injection e))
   obtain ⟨W2, hW2⟩ : ∃ W2, W2 = wr.setCells g (i * (kE 50).sz + 0) [.int .i64 kk, .int .i64 (kk + 1), .int .i64 (kk + 1 + 1)] := ⟨_, rfl⟩
   have e33 : W2.cell? ⟨g, i * 4 + 3, none⟩ = some (.slice A2 o.f3.length c2) := by
    rw [hW2]
    show (((wr.setCell ⟨g, i * 4 + 0, none⟩ (.int .i64 kk)).setCell ⟨g, i * 4 + 0 + 1, none⟩ (.int .i64 (kk + 1))).setCell ⟨g, i * 4 + 0 + 1 + 1, none⟩ (.int .i64 (kk + 1 + 1))).cell? ⟨g, i * 4 + 3, none⟩ = _
    exact (World.cell?_setCell_other _ ⟨g, i * 4 + 0 + 1 + 1, none⟩ ⟨g, i * 4 + 3, none⟩ _ (by simp)).trans ((World.cell?_setCell_other _ ⟨g, i * 4 + 0 + 1, none⟩ ⟨g, i * 4 + 3, none⟩ _ (by simp)).trans ((World.cell?_setCell_other _ ⟨g, i * 4 + 0, none⟩ ⟨g, i * 4 + 3, none⟩ _ (by simp)).trans e3))
   rw [← hW2] at hH2 hf2 hR3
   have HH2 := Aside0.mk hH2
   have HF2 := Aside0.mk hf2
   have HR3 := Aside0.mk hR3
   have HOKI := Aside0.mk hoki
   have HW2 := Aside0.mk (hW2.trans (show _ = ((wr.setCell ⟨g, i * 4, none⟩ (.int .i64 kk)).setCell ⟨g, i * 4 + 1, none⟩ (.int .i64 (kk + 1))).setCell ⟨g, i * 4 + 2, none⟩ (.int .i64 (kk + 1 + 1)) from rfl))
   clear hH2 hf2 hR3 hW2 hoki hH hg2 hM hcc hfr hce1 hR2
   go_upto_region 10 with fail
   rw [← HW2.out]
   obtain ⟨r, hr⟩ : ∃ r : Int, r = kk + 1 + 1 + 1 + 3 * (cntL o.f3 : Int) := ⟨_, rfl⟩
   have HRR := Aside0.mk hr
   clear hr e0 e1 e2 e3 z0 z1 z2
   go_wp2_with (go_at_call 64; refine (HQ.out oki (.slice A2 o.f3.length c2) _ (kk + 1 + 1 + 1) (by omega) (by omega) HR3.out).mono ?_; rintro e w3 ⟨rfl, hr3, hf3⟩; rw [← HRR.out]; have hs3 := Kd.H_back (Kd.H_step HH2.out (fun j hj hn hlt => hf3.block j hlt (fun h => hn h.1))) (x' := mkX o kk) (by rw [mkX_eq]; exact kE_mkM (.mk kk (kk + 1) (kk + 1 + 1) (mkL o.f3 (kk + 1 + 1 + 1))) (show SE w3 base oki (.slice A2 o.f3.length c2) (mkL o.f3 (kk + 1 + 1 + 1)) from hr3)) (fun _ h => h); rw [HSET.out] at hs3; have HS3 := Aside0.mk hs3; have HF3 := Aside0.mk (Fr.trans HF2.out hf3 (fun j hj _ => (HOKI.out j hj.1).1)); clear hr3 hf3 hs3)
   go_roundw
   case rel => exact ⟨i + 1, r, by omega, by have := HKK.out; have := HRR.out; omega, by go_num, rfl, HS3, HF3⟩
   case measure => simp [intOf]; omega
  ·have hke : i = l.length := by omega
   subst hke
   have g1 : decide (l.length < l.length) = false := decide_eq_false (by omega)
   have hR := HS.out
   rw [List.drop_of_length_le (Nat.le_refl _), List.append_nil, List.take_length] at hR
   rw [List.take_length] at hkk
   have HR2 := Aside0.mk (Kd.S_mono hR (fun j hj => hj.1))
   have HKK := Aside0.mk hkk
   clear hR hkk
   go_wp2
   go_ret
   exact ⟨by (rw [HKK.out]; try rfl), HR2.out, HF.out⟩
theorem markExS_any (l : List Ex) (base : Nat) (ok : Nat → Prop) (v : Value) (k : Int) (w : World) (hk : 0 ≤ k) (hk2 : k + 3 * (cntL l : Int) ≤ 4611686018427387904) (hS : SE w base ok v l) :
  Calls Tryz.prog 64 #[v, .int .i64 k] w fun e w' => e = .returned (.int .i64 (k + 3 * (cntL l : Int))) ∧ SE w' base ok v (mkL l k) ∧ Fr (fun j => ok j ∧ base ≤ j) w w' :=
 markExS_of base ok v l k w hk hk2 hS (fun x hx ok2 v2 w2 k2 h1 h2 h3 =>
  have := cnt_mem hx
  markExS_any x.f3 base ok2 v2 k2 w2 h1 h2 h3)
termination_by cntL l
/-! marks that still stand -/
end Go.Proofs.YtckblabkapeigaaGreat.Jf
