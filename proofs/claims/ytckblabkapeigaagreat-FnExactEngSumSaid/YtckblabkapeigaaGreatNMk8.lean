
/- Marks of rows of the program's struct types: the laws' own functions. Printed by genMk8.py. -/
import Derived.Test.YtckblabkapeigaaGreatNKd2
import Derived.Test.YtckblabkapeigaaGreatNJf
import Derived.Test.YtckblabkapeigaaGreatNEi8
import Derived.Test.YtckblabkapeigaaGreatNEj8
set_option linter.unusedVariables false
set_option linter.unusedSimpArgs false
namespace Go.Proofs.YtckblabkapeigaaGreat.Mk8
open Go.RowKit Go.Proofs.YtckblabkapeigaaGreatW.PrintWords Go.Proofs.YtckblabkapeigaaGreat.Ja Go.Proofs.YtckblabkapeigaaGreat.Jb Go.Proofs.YtckblabkapeigaaGreat.Jc Go.Proofs.YtckblabkapeigaaGreat.Jd Go.Proofs.YtckblabkapeigaaGreat.Jf Go.Proofs.YtckblabkapeigaaGreat.Ka Go.Proofs.YtckblabkapeigaaGreat.Kb Go.Proofs.YtckblabkapeigaaGreat.Kd2 Go.Proofs.YtckblabkapeigaaGreat.Nd Go.Proofs.YtckblabkapeigaaGreat.Ei8 Go.Proofs.YtckblabkapeigaaGreat.Ej8

theorem H_cells {α : Type} {d : Kd α} {e g n cap : Nat} {W : World} {base : Nat} {ok oki : Nat → Prop} {xs : List α} {i : Int} {c : List Value} (h : Kd.H d e W base ok (.slice (some ⟨g, 0, none⟩) n cap) xs i oki c) (h0 : 0 ≤ i) (h1 : i < n) :
  (∀ j u, c[j]? = some u → W.cell? ⟨g, i.toNat * d.sz + j, none⟩ = some u) ∧ (∀ j, W.frozen? ⟨g, i.toNat * d.sz + j, none⟩ = false) := by
 obtain ⟨rows, _, hraw, _, _, hcc, _⟩ := Kd.H_raw h h0 h1
 obtain ⟨_, _, _, _, hfr⟩ := Kd.R_elem hraw [] i h0 h1
 exact ⟨hcc, hfr⟩
def cmS {α : Type} (c : α → Nat) (l : List α) : Nat := (l.map c).sum
def mkS {α : Type} (f : α → Int → α) (c : α → Nat) : List α → Int → List α
 | [], _ => []
 | x :: xs, k => f x k :: mkS f c xs (k + (c x : Int))
section
variable {α : Type} (f : α → Int → α) (c : α → Nat) (z : α)
theorem cmS_cons (x : α) (xs : List α) : cmS c (x :: xs) = c x + cmS c xs := by simp [cmS]
theorem mkS_len : ∀ (l : List α) (k : Int), (mkS f c l k).length = l.length
 | [], _ => rfl
 | x :: xs, k => by rw [mkS, List.length_cons, List.length_cons, mkS_len xs]
theorem mkS_app : ∀ (l m : List α) (k : Int), mkS f c (l ++ m) k = mkS f c l k ++ mkS f c m (k + (cmS c l : Int))
 | [], m, k => by simp [mkS, cmS]
 | x :: xs, m, k => by
  rw [List.cons_append, mkS, mkS_app xs m, mkS, List.cons_append, cmS_cons]
  congr 3
  omega
theorem mkS_snoc (l : List α) (i : Nat) (h : i < l.length) (k : Int) : mkS f c (l.take (i + 1)) k = mkS f c (l.take i) k ++ [f (l.getD i z) (k + (cmS c (l.take i) : Int))] := by
 rw [take_snoc l i z h, mkS_app, mkS, mkS]
theorem cmS_snoc (l : List α) (i : Nat) (h : i < l.length) : cmS c (l.take (i + 1)) = cmS c (l.take i) + c (l.getD i z) := sum_snoc c z l i h
theorem cmS_le (l : List α) (i : Nat) : cmS c (l.take i) ≤ cmS c l := sum_le c l i
end
def cmOcc (x : TOcc) : Nat := 2 + x.f2.length
def mkOccP (x : TOcc) (k : Int) (r2 : Int) : TOcc := ⟨k, k + 1, (Ej8.mkI (k + 1 + 1) x.f2.length)⟩
def mkOcc (x : TOcc) (k : Int) : TOcc := mkOccP x k (k + 1 + 1 + (x.f2.length : Int))
def cmEv (x : TEv) : Nat := 3
def mkEvP (x : TEv) (k : Int) : TEv := ⟨k, k + 1, k + 1 + 1⟩
def mkEv (x : TEv) (k : Int) : TEv := mkEvP x k
def cmFire (x : TFire) : Nat := 3 + x.f1.f2.length
def mkFireP (x : TFire) (k : Int) (r3 : Int) : TFire := ⟨k, ⟨k + 1, k + 1 + 1, (Ej8.mkI (k + 1 + 1 + 1) x.f1.f2.length)⟩⟩
def mkFire (x : TFire) (k : Int) : TFire := mkFireP x k (k + 1 + 1 + 1 + (x.f1.f2.length : Int))
def cmNode (x : TNode) : Nat := 4 + x.f3.length + cmS cmOcc x.f4.f0 + cmS cmOcc x.f4.f1 + cmS cmOcc x.f5.f0 + cmS cmOcc x.f5.f1 + cmS cmOcc x.f6
def mkNodeP (x : TNode) (k : Int) (r3 : Int) (r4 : Int) (r5 : Int) (r6 : Int) (r7 : Int) (r8 : Int) : TNode := ⟨k, k + 1, k + 1 + 1, (Ej8.mkI (k + 1 + 1 + 1) x.f3.length), ⟨(mkS mkOcc cmOcc x.f4.f0 (r3)), (mkS mkOcc cmOcc x.f4.f1 (r4))⟩, ⟨(mkS mkOcc cmOcc x.f5.f0 (r5)), (mkS mkOcc cmOcc x.f5.f1 (r6))⟩, (mkS mkOcc cmOcc x.f6 (r7)), r8⟩
def mkNode (x : TNode) (k : Int) : TNode := mkNodeP x k (k + 1 + 1 + 1 + (x.f3.length : Int)) ((k + 1 + 1 + 1 + (x.f3.length : Int)) + (cmS cmOcc x.f4.f0 : Int)) (((k + 1 + 1 + 1 + (x.f3.length : Int)) + (cmS cmOcc x.f4.f0 : Int)) + (cmS cmOcc x.f4.f1 : Int)) ((((k + 1 + 1 + 1 + (x.f3.length : Int)) + (cmS cmOcc x.f4.f0 : Int)) + (cmS cmOcc x.f4.f1 : Int)) + (cmS cmOcc x.f5.f0 : Int)) (((((k + 1 + 1 + 1 + (x.f3.length : Int)) + (cmS cmOcc x.f4.f0 : Int)) + (cmS cmOcc x.f4.f1 : Int)) + (cmS cmOcc x.f5.f0 : Int)) + (cmS cmOcc x.f5.f1 : Int)) ((((((k + 1 + 1 + 1 + (x.f3.length : Int)) + (cmS cmOcc x.f4.f0 : Int)) + (cmS cmOcc x.f4.f1 : Int)) + (cmS cmOcc x.f5.f0 : Int)) + (cmS cmOcc x.f5.f1 : Int)) + (cmS cmOcc x.f6 : Int))
def cmGraph (x : TGraph) : Nat := 4 + cmS cmNode x.f1
def mkGraphP (x : TGraph) (k : Int) (r1 : Int) : TGraph := ⟨k, (mkS mkNode cmNode x.f1 (k + 1)), r1, r1 + 1, ((r1 + 1 + 1) % 3 == 0)⟩
def mkGraph (x : TGraph) (k : Int) : TGraph := mkGraphP x k (k + 1 + (cmS cmNode x.f1 : Int))
def cmRule (x : TRule) : Nat := 11 + 3 * cntL x.f3.f3
def mkRuleP (x : TRule) (k : Int) (r6 : Int) : TRule := ⟨(bs (markB (k))), k + 1, k + 1 + 1, (.mk (k + 1 + 1 + 1) (k + 1 + 1 + 1 + 1) (k + 1 + 1 + 1 + 1 + 1) ((mkL x.f3.f3 (k + 1 + 1 + 1 + 1 + 1 + 1)))), r6, r6 + 1, r6 + 1 + 1, r6 + 1 + 1 + 1, r6 + 1 + 1 + 1 + 1⟩
def mkRule (x : TRule) (k : Int) : TRule := mkRuleP x k (k + 1 + 1 + 1 + 1 + 1 + 1 + 3 * (cntL x.f3.f3 : Int))
theorem Ap.and : ∀ {os : List (Nat → Prop)} {ok : Nat → Prop} {base : Nat}, Ap ok os → Ap (fun b => ok b ∧ base ≤ b) (os.map (fun p b => p b ∧ base ≤ b))
 | [], _, _, _ => trivial
 | _ :: _, _, _, h => ⟨fun k hk => ⟨h.1 k hk.1, hk.2⟩, fun p hp k hk => by
  obtain ⟨q, hq, rfl⟩ := List.mem_map.1 hp
  exact fun h2 => h.2.1 q hq k hk.1 h2.1, Ap.and h.2.2⟩
set_option maxHeartbeats 8000000 in
set_option maxRecDepth 100000 in
theorem markOccS_any (base : Nat) (ok : Nat → Prop) (v : Value) (l : List TOcc) (k : Int) (w : World) (hk : 0 ≤ k) (hk2 : k + (cmS cmOcc l : Int) ≤ 4611686018427387904) (hS : Kd.S kOcc 54 w base ok v l) :
  Calls Tryz.prog 92 #[v, .int .i64 k] w fun e w' => e = .returned (.int .i64 (k + (cmS cmOcc l : Int))) ∧ Kd.S kOcc 54 w' base ok v (mkS mkOcc cmOcc l k) ∧ Fr (fun j => ok j ∧ base ≤ j) w w' := by
 obtain ⟨A, c, rfl⟩ := Kd.S_slice hS
 have hn := (S_isS hS).2.len
 have h00 : mkS mkOcc cmOcc (l.take 0) k ++ l.drop 0 = l := by simp [mkS]
 have HS0 : Aside0 (Kd.S kOcc 54 w base (fun j => ok j ∧ base ≤ j) (.slice A l.length c) (mkS mkOcc cmOcc (l.take 0) k ++ l.drop 0)) := ⟨by rw [h00]; exact Kd.S_mono (Kd.S_bound hS) (fun j hj => ⟨hj.1, hj.2.1⟩)⟩
 have HF0 : Aside0 (Fr (fun j => ok j ∧ base ≤ j) w w) := ⟨Fr.refl _ _⟩
 clear h00 hS
 go_enter Tryz.func92, Tryz.ntmps92
 go_wp2
 go_loopw [1, 5] (fun v1 vi wr => ∃ (i : Nat) (kk : Int), i ≤ l.length ∧ kk = k + (cmS cmOcc (l.take i) : Int) ∧ vi = .int .i64 i ∧ v1 = .int .i64 kk ∧ Aside0 (Kd.S kOcc 54 wr base (fun j => ok j ∧ base ≤ j) (.slice A l.length c) (mkS mkOcc cmOcc (l.take i) k ++ l.drop i)) ∧ Aside0 (Fr (fun j => ok j ∧ base ≤ j) w wr)) (fun _ vi _ => l.length - (intOf vi).toNat)
 case atStart => exact ⟨0, k, Nat.zero_le _, by simp [cmS], rfl, rfl, HS0, HF0⟩
 case round =>
  clear HS0 HF0
  obtain ⟨i, kk, hi, hkk, rfl, rfl, HS, HF⟩ := hrel
  by_cases hlt : i < l.length
  ·have g1 : decide (i < l.length) = true := decide_eq_true hlt
   have i1 : (i : Int) < l.length := by omega
   have hpl : (mkS mkOcc cmOcc (l.take i) k).length = i := by rw [mkS_len, List.length_take]; omega
   have hlen : (mkS mkOcc cmOcc (l.take i) k ++ l.drop i).length = l.length := mid_length _ _ _ hpl hi
   have hwt := cmS_snoc cmOcc zOcc l i hlt
   have hwl := cmS_le cmOcc l (i + 1)
   have HSET := Aside0.mk (show (mkS mkOcc cmOcc (l.take i) k ++ l.drop i).set ((i : Int)).toNat (mkOcc (l.getD i zOcc) kk) = mkS mkOcc cmOcc (l.take (i + 1)) k ++ l.drop (i + 1) by
    rw [Int.toNat_natCast, mid_set _ _ _ _ hpl hlt, mkS_snoc mkOcc cmOcc zOcc l i hlt k, hkk])
   have hgd := mid_getD (mkS mkOcc cmOcc (l.take i) k) l i zOcc hpl
   obtain ⟨g, cap, hv, hgb, hgl, hcl⟩ := Kd.S_form HS.out (by omega)
   injection hv with hA hl2 hc2
   subst hA
   clear hl2 hc2 hcl hgl
   obtain ⟨oki, ce, hce1, hM, hcc, hfr, hoki, hH⟩ := Kd.S_elem HS.out zOcc (i : Int) (by omega) (by omega)
   rw [Int.toNat_natCast] at hM
   rw [hgd] at hM
   have hk0 : 0 ≤ kk := by omega
   have hk1 : kk + (cmOcc (l.getD i zOcc) : Int) ≤ 4611686018427387904 := by omega
   have HKK : Aside0 (kk + (cmOcc (l.getD i zOcc) : Int) = k + (cmS cmOcc (l.take (i + 1)) : Int)) := ⟨by omega⟩
   have HGO := Aside0.mk ((Kd.S_R HS.out).1 g (by simp [Value.ownBlock]))
   clear hwt hwl hkk hpl hlen hgd hcc hfr hce1
   generalize l.getD i zOcc = o at hM hk1 HSET HKK
   generalize mkS mkOcc cmOcc (l.take i) k ++ l.drop i = row at hH HSET HS
   obtain ⟨v2, rfl, e2⟩ := kOcc_openM hM
   obtain ⟨A2, c2, rfl⟩ := Kd.S_slice e2
   have HOKI := Aside0.mk hoki
   have HR2 : Aside0 (Kd.S (Kd.int .i64) 3 wr base (fun b => oki b ∧ base ≤ b) (.slice A2 o.f2.length c2) o.f2) := ⟨Kd.S_mono (Kd.S_bound e2) (fun b hb => ⟨hb.1, hb.2.1⟩)⟩
   have HH := Aside0.mk hH
   clear hoki hH hM  e2
   have hcm : (cmOcc o : Int) = (2 : Int) + (o.f2.length : Int) := by unfold cmOcc; omega
   rw [hcm] at hk1
   have HCM := Aside0.mk hcm
   clear hcm
   obtain ⟨hcc, hfr⟩ := H_cells HH.out (by omega) (by omega)
   rw [Int.toNat_natCast] at hcc hfr
   have c0_ : wr.cell? ⟨g, i * 3, none⟩ = some (.int .i64 o.f0) := hcc 0 _ rfl
   have z0_ : wr.frozen? ⟨g, i * 3, none⟩ = false := hfr 0
   have c1_ : wr.cell? ⟨g, i * 3 + 1, none⟩ = some (.int .i64 o.f1) := hcc 1 _ rfl
   have z1_ : wr.frozen? ⟨g, i * 3 + 1, none⟩ = false := hfr 1
   clear hcc hfr
   go_upto_region 8 with fail
   obtain ⟨hH2, hg2⟩ := Kd.H_seg HH.out (by omega) (by omega) (seg := [.int .i64 (kk), .int .i64 (kk + 1)]) (j := 0) (show 0 + 2 ≤ 3 by decide) (by intro q hq; simp at hq; rcases hq with rfl | rfl <;> rfl)
   rw [Int.toNat_natCast] at hH2 hg2
   have HH' : Aside0 (Kd.H kOcc 54 ((wr.setCell ⟨g, i * 3, none⟩ (.int .i64 (kk))).setCell ⟨g, i * 3 + 1, none⟩ (.int .i64 (kk + 1))) base (fun j => ok j ∧ base ≤ j) (.slice (some ⟨g, 0, none⟩) l.length c) row (i : Int) oki [.int .i64 (kk), .int .i64 (kk + 1), .slice A2 o.f2.length c2]) := ⟨hH2⟩
   have hg3 : wr.grownBy ((wr.setCell ⟨g, i * 3, none⟩ (.int .i64 (kk))).setCell ⟨g, i * 3 + 1, none⟩ (.int .i64 (kk + 1))) (some g) := hg2
   have HF' := Aside0.mk (Fr.trans HF.out (Fr.of_grown (S := fun j => j = g) hg3 (fun j e => by injection e)) (fun j hj _ => by subst hj; exact HGO.out))
   have HR2' := Aside0.mk (Kd.S_grown HR2.out hg3 (fun b hb e => (HOKI.out b hb.1).2 (by injection e)))
   generalize ((wr.setCell ⟨g, i * 3, none⟩ (.int .i64 (kk))).setCell ⟨g, i * 3 + 1, none⟩ (.int .i64 (kk + 1))) = W0 at HH' HF' HR2' ⊢
   clear hH2 hg2 hg3 HH HF HR2 c0_ z0_ c1_ z1_
   have HH := HH'
   have HF := HF'
   have HR2 := HR2'
   clear HH' HF' HR2'
   obtain ⟨hcc, hfr⟩ := H_cells HH.out (by omega) (by omega)
   rw [Int.toNat_natCast] at hcc hfr
   have c2_ : W0.cell? ⟨g, i * 3 + 2, none⟩ = some (.slice A2 o.f2.length c2) := hcc 2 _ rfl
   clear hcc hfr
   obtain ⟨r2, hr2⟩ : ∃ r : Int, r = kk + 1 + 1 + (o.f2.length : Int) := ⟨_, rfl⟩
   have RR2 := Aside0.mk hr2
   clear hr2
   go_upto_region 3 with (go_at_call 11; refine (markIntS_any base (fun b => oki b ∧ base ≤ b) (.slice A2 o.f2.length c2) o.f2 (kk + 1 + 1) _ (by omega) (by omega) (Kd.S_R HR2.out)).mono ?_; rintro e W1 ⟨rfl, hs, hf⟩; rw [← RR2.out]; have hs2 := S_ints hs; have hf2 : Fr (fun b => oki b ∧ base ≤ b) W0 W1 := hf.mono (fun b hb _ => (Kd.S_R HR2.out).1 b hb.symm); have HH' := Aside0.mk (Kd.H_step HH.out (fun b hb hn hlt => hf2.block b hlt (fun h => hn h.1))); have HF' := Aside0.mk (Fr.trans HF.out hf2 (fun b hb _ => (HOKI.out b hb.1).1)); have HR2' := Aside0.mk hs2; clear hs hf hs2 hf2)
   clear HH HF HR2 c2_
   have HH := HH'
   have HF := HF'
   have HR2 := HR2'
   clear HH' HF' HR2'
   have hb2 : 0 ≤ r2 := by have := RR2.out; omega
   have hk12 : r2 + (0 : Int) ≤ 4611686018427387904 := by have := RR2.out; omega
   have HX : Aside0 (mkOccP o kk r2 = mkOcc o kk) := ⟨by unfold mkOcc; rw [RR2.out]⟩
   have hl2 : o.f2.length = (mkOccP o kk r2).f2.length := by show _ = (Ej8.mkI _ _).length; rw [Ej8.mkI_len]
   have hs9 := Kd.H_back HH.out (kOcc_mkM W1 base (fun b => oki b ∧ base ≤ b) (mkOccP o kk r2) (v2 := .slice A2 o.f2.length c2) HR2.out) (fun b hb => hb.1)
   rw [HX.out, HSET.out] at hs9
   have HS9 := Aside0.mk hs9
   clear hs9 hl2
   clear HH HR2
   go_wp2
   go_roundw
   case rel => exact ⟨i + 1, r2, by omega, by have := HKK.out; have := HCM.out; have := RR2.out; omega, by go_num, rfl, HS9, HF⟩
   case measure => simp [intOf]; omega
  ·have hke : i = l.length := by omega
   subst hke
   have g1 : decide (l.length < l.length) = false := decide_eq_false (by omega)
   have hR := HS.out
   rw [List.drop_of_length_le (Nat.le_refl _), List.append_nil, List.take_length] at hR
   rw [List.take_length] at hkk
   have HR2 := Aside0.mk (Kd.S_mono hR (fun j hj => hj.1))
   have HKK := Aside0.mk hkk
   clear hR hkk
   go_wp2
   go_ret
   exact ⟨by (rw [HKK.out]; try rfl), HR2.out, HF.out⟩
set_option maxHeartbeats 8000000 in
set_option maxRecDepth 100000 in
theorem markEvS_any (base : Nat) (ok : Nat → Prop) (v : Value) (l : List TEv) (k : Int) (w : World) (hk : 0 ≤ k) (hk2 : k + (cmS cmEv l : Int) ≤ 4611686018427387904) (hS : Kd.S kEv 97 w base ok v l) :
  Calls Tryz.prog 31 #[v, .int .i64 k] w fun e w' => e = .returned (.int .i64 (k + (cmS cmEv l : Int))) ∧ Kd.S kEv 97 w' base ok v (mkS mkEv cmEv l k) ∧ Fr (fun j => ok j ∧ base ≤ j) w w' := by
 obtain ⟨A, c, rfl⟩ := Kd.S_slice hS
 have hn := (S_isS hS).2.len
 have h00 : mkS mkEv cmEv (l.take 0) k ++ l.drop 0 = l := by simp [mkS]
 have HS0 : Aside0 (Kd.S kEv 97 w base (fun j => ok j ∧ base ≤ j) (.slice A l.length c) (mkS mkEv cmEv (l.take 0) k ++ l.drop 0)) := ⟨by rw [h00]; exact Kd.S_mono (Kd.S_bound hS) (fun j hj => ⟨hj.1, hj.2.1⟩)⟩
 have HF0 : Aside0 (Fr (fun j => ok j ∧ base ≤ j) w w) := ⟨Fr.refl _ _⟩
 clear h00 hS
 go_enter Tryz.func31, Tryz.ntmps31
 go_wp2
 go_loopw [1, 5] (fun v1 vi wr => ∃ (i : Nat) (kk : Int), i ≤ l.length ∧ kk = k + (cmS cmEv (l.take i) : Int) ∧ vi = .int .i64 i ∧ v1 = .int .i64 kk ∧ Aside0 (Kd.S kEv 97 wr base (fun j => ok j ∧ base ≤ j) (.slice A l.length c) (mkS mkEv cmEv (l.take i) k ++ l.drop i)) ∧ Aside0 (Fr (fun j => ok j ∧ base ≤ j) w wr)) (fun _ vi _ => l.length - (intOf vi).toNat)
 case atStart => exact ⟨0, k, Nat.zero_le _, by simp [cmS], rfl, rfl, HS0, HF0⟩
 case round =>
  clear HS0 HF0
  obtain ⟨i, kk, hi, hkk, rfl, rfl, HS, HF⟩ := hrel
  by_cases hlt : i < l.length
  ·have g1 : decide (i < l.length) = true := decide_eq_true hlt
   have i1 : (i : Int) < l.length := by omega
   have hpl : (mkS mkEv cmEv (l.take i) k).length = i := by rw [mkS_len, List.length_take]; omega
   have hlen : (mkS mkEv cmEv (l.take i) k ++ l.drop i).length = l.length := mid_length _ _ _ hpl hi
   have hwt := cmS_snoc cmEv zEv l i hlt
   have hwl := cmS_le cmEv l (i + 1)
   have HSET := Aside0.mk (show (mkS mkEv cmEv (l.take i) k ++ l.drop i).set ((i : Int)).toNat (mkEv (l.getD i zEv) kk) = mkS mkEv cmEv (l.take (i + 1)) k ++ l.drop (i + 1) by
    rw [Int.toNat_natCast, mid_set _ _ _ _ hpl hlt, mkS_snoc mkEv cmEv zEv l i hlt k, hkk])
   have hgd := mid_getD (mkS mkEv cmEv (l.take i) k) l i zEv hpl
   obtain ⟨g, cap, hv, hgb, hgl, hcl⟩ := Kd.S_form HS.out (by omega)
   injection hv with hA hl2 hc2
   subst hA
   clear hl2 hc2 hcl hgl
   obtain ⟨oki, ce, hce1, hM, hcc, hfr, hoki, hH⟩ := Kd.S_elem HS.out zEv (i : Int) (by omega) (by omega)
   rw [Int.toNat_natCast] at hM
   rw [hgd] at hM
   have hk0 : 0 ≤ kk := by omega
   have hk1 : kk + (cmEv (l.getD i zEv) : Int) ≤ 4611686018427387904 := by omega
   have HKK : Aside0 (kk + (cmEv (l.getD i zEv) : Int) = k + (cmS cmEv (l.take (i + 1)) : Int)) := ⟨by omega⟩
   have HGO := Aside0.mk ((Kd.S_R HS.out).1 g (by simp [Value.ownBlock]))
   clear hwt hwl hkk hpl hlen hgd hcc hfr hce1
   generalize l.getD i zEv = o at hM hk1 HSET HKK
   generalize mkS mkEv cmEv (l.take i) k ++ l.drop i = row at hH HSET HS
   obtain rfl := kEv_openM hM
   have HOKI := Aside0.mk hoki
   have HH := Aside0.mk hH
   clear hoki hH hM
   have hcm : (cmEv o : Int) = (3 : Int) := by unfold cmEv; omega
   rw [hcm] at hk1
   have HCM := Aside0.mk hcm
   clear hcm
   obtain ⟨hcc, hfr⟩ := H_cells HH.out (by omega) (by omega)
   rw [Int.toNat_natCast] at hcc hfr
   have c0_ : wr.cell? ⟨g, i * 3, none⟩ = some (.int .i64 o.f0) := hcc 0 _ rfl
   have z0_ : wr.frozen? ⟨g, i * 3, none⟩ = false := hfr 0
   have c1_ : wr.cell? ⟨g, i * 3 + 1, none⟩ = some (.int .i64 o.f1) := hcc 1 _ rfl
   have z1_ : wr.frozen? ⟨g, i * 3 + 1, none⟩ = false := hfr 1
   have c2_ : wr.cell? ⟨g, i * 3 + 2, none⟩ = some (.int .i64 o.f2) := hcc 2 _ rfl
   have z2_ : wr.frozen? ⟨g, i * 3 + 2, none⟩ = false := hfr 2
   clear hcc hfr
   go_upto_region 3 with fail
   obtain ⟨hH2, hg2⟩ := Kd.H_seg HH.out (by omega) (by omega) (seg := [.int .i64 (kk), .int .i64 (kk + 1), .int .i64 (kk + 1 + 1)]) (j := 0) (show 0 + 3 ≤ 3 by decide) (by intro q hq; simp at hq; rcases hq with rfl | rfl | rfl <;> rfl)
   rw [Int.toNat_natCast] at hH2 hg2
   have HH' : Aside0 (Kd.H kEv 97 (((wr.setCell ⟨g, i * 3, none⟩ (.int .i64 (kk))).setCell ⟨g, i * 3 + 1, none⟩ (.int .i64 (kk + 1))).setCell ⟨g, i * 3 + 2, none⟩ (.int .i64 (kk + 1 + 1))) base (fun j => ok j ∧ base ≤ j) (.slice (some ⟨g, 0, none⟩) l.length c) row (i : Int) oki [.int .i64 (kk), .int .i64 (kk + 1), .int .i64 (kk + 1 + 1)]) := ⟨hH2⟩
   have hg3 : wr.grownBy (((wr.setCell ⟨g, i * 3, none⟩ (.int .i64 (kk))).setCell ⟨g, i * 3 + 1, none⟩ (.int .i64 (kk + 1))).setCell ⟨g, i * 3 + 2, none⟩ (.int .i64 (kk + 1 + 1))) (some g) := hg2
   have HF' := Aside0.mk (Fr.trans HF.out (Fr.of_grown (S := fun j => j = g) hg3 (fun j e => by injection e)) (fun j hj _ => by subst hj; exact HGO.out))
   generalize (((wr.setCell ⟨g, i * 3, none⟩ (.int .i64 (kk))).setCell ⟨g, i * 3 + 1, none⟩ (.int .i64 (kk + 1))).setCell ⟨g, i * 3 + 2, none⟩ (.int .i64 (kk + 1 + 1))) = W0 at HH' HF'  ⊢
   clear hH2 hg2 hg3 HH HF  c0_ z0_ c1_ z1_ c2_ z2_
   have HH := HH'
   have HF := HF'
   clear HH' HF'
   have HX : Aside0 (mkEvP o kk = mkEv o kk) := ⟨rfl⟩
   have hs9 := Kd.H_back HH.out (kEv_mkM W0 base (fun b => oki b ∧ base ≤ b) (mkEvP o kk)) (fun b hb => hb.1)
   rw [HX.out, HSET.out] at hs9
   have HS9 := Aside0.mk hs9
   clear hs9
   clear HH
   go_wp2
   go_roundw
   case rel => exact ⟨i + 1, kk + 1 + 1 + 1, by omega, by have := HKK.out; have := HCM.out; omega, by go_num, rfl, HS9, HF⟩
   case measure => simp [intOf]; omega
  ·have hke : i = l.length := by omega
   subst hke
   have g1 : decide (l.length < l.length) = false := decide_eq_false (by omega)
   have hR := HS.out
   rw [List.drop_of_length_le (Nat.le_refl _), List.append_nil, List.take_length] at hR
   rw [List.take_length] at hkk
   have HR2 := Aside0.mk (Kd.S_mono hR (fun j hj => hj.1))
   have HKK := Aside0.mk hkk
   clear hR hkk
   go_wp2
   go_ret
   exact ⟨by (rw [HKK.out]; try rfl), HR2.out, HF.out⟩
set_option maxHeartbeats 8000000 in
set_option maxRecDepth 100000 in
theorem markFireS_any (base : Nat) (ok : Nat → Prop) (v : Value) (l : List TFire) (k : Int) (w : World) (hk : 0 ≤ k) (hk2 : k + (cmS cmFire l : Int) ≤ 4611686018427387904) (hS : Kd.S kFire 56 w base ok v l) :
  Calls Tryz.prog 32 #[v, .int .i64 k] w fun e w' => e = .returned (.int .i64 (k + (cmS cmFire l : Int))) ∧ Kd.S kFire 56 w' base ok v (mkS mkFire cmFire l k) ∧ Fr (fun j => ok j ∧ base ≤ j) w w' := by
 obtain ⟨A, c, rfl⟩ := Kd.S_slice hS
 have hn := (S_isS hS).2.len
 have h00 : mkS mkFire cmFire (l.take 0) k ++ l.drop 0 = l := by simp [mkS]
 have HS0 : Aside0 (Kd.S kFire 56 w base (fun j => ok j ∧ base ≤ j) (.slice A l.length c) (mkS mkFire cmFire (l.take 0) k ++ l.drop 0)) := ⟨by rw [h00]; exact Kd.S_mono (Kd.S_bound hS) (fun j hj => ⟨hj.1, hj.2.1⟩)⟩
 have HF0 : Aside0 (Fr (fun j => ok j ∧ base ≤ j) w w) := ⟨Fr.refl _ _⟩
 clear h00 hS
 go_enter Tryz.func32, Tryz.ntmps32
 go_wp2
 go_loopw [1, 5] (fun v1 vi wr => ∃ (i : Nat) (kk : Int), i ≤ l.length ∧ kk = k + (cmS cmFire (l.take i) : Int) ∧ vi = .int .i64 i ∧ v1 = .int .i64 kk ∧ Aside0 (Kd.S kFire 56 wr base (fun j => ok j ∧ base ≤ j) (.slice A l.length c) (mkS mkFire cmFire (l.take i) k ++ l.drop i)) ∧ Aside0 (Fr (fun j => ok j ∧ base ≤ j) w wr)) (fun _ vi _ => l.length - (intOf vi).toNat)
 case atStart => exact ⟨0, k, Nat.zero_le _, by simp [cmS], rfl, rfl, HS0, HF0⟩
 case round =>
  clear HS0 HF0
  obtain ⟨i, kk, hi, hkk, rfl, rfl, HS, HF⟩ := hrel
  by_cases hlt : i < l.length
  ·have g1 : decide (i < l.length) = true := decide_eq_true hlt
   have i1 : (i : Int) < l.length := by omega
   have hpl : (mkS mkFire cmFire (l.take i) k).length = i := by rw [mkS_len, List.length_take]; omega
   have hlen : (mkS mkFire cmFire (l.take i) k ++ l.drop i).length = l.length := mid_length _ _ _ hpl hi
   have hwt := cmS_snoc cmFire zFire l i hlt
   have hwl := cmS_le cmFire l (i + 1)
   have HSET := Aside0.mk (show (mkS mkFire cmFire (l.take i) k ++ l.drop i).set ((i : Int)).toNat (mkFire (l.getD i zFire) kk) = mkS mkFire cmFire (l.take (i + 1)) k ++ l.drop (i + 1) by
    rw [Int.toNat_natCast, mid_set _ _ _ _ hpl hlt, mkS_snoc mkFire cmFire zFire l i hlt k, hkk])
   have hgd := mid_getD (mkS mkFire cmFire (l.take i) k) l i zFire hpl
   obtain ⟨g, cap, hv, hgb, hgl, hcl⟩ := Kd.S_form HS.out (by omega)
   injection hv with hA hl2 hc2
   subst hA
   clear hl2 hc2 hcl hgl
   obtain ⟨oki, ce, hce1, hM, hcc, hfr, hoki, hH⟩ := Kd.S_elem HS.out zFire (i : Int) (by omega) (by omega)
   rw [Int.toNat_natCast] at hM
   rw [hgd] at hM
   have hk0 : 0 ≤ kk := by omega
   have hk1 : kk + (cmFire (l.getD i zFire) : Int) ≤ 4611686018427387904 := by omega
   have HKK : Aside0 (kk + (cmFire (l.getD i zFire) : Int) = k + (cmS cmFire (l.take (i + 1)) : Int)) := ⟨by omega⟩
   have HGO := Aside0.mk ((Kd.S_R HS.out).1 g (by simp [Value.ownBlock]))
   clear hwt hwl hkk hpl hlen hgd hcc hfr hce1
   generalize l.getD i zFire = o at hM hk1 HSET HKK
   generalize mkS mkFire cmFire (l.take i) k ++ l.drop i = row at hH HSET HS
   obtain ⟨v3, rfl, e3⟩ := kFire_openM hM
   obtain ⟨A3, c3, rfl⟩ := Kd.S_slice e3
   have HOKI := Aside0.mk hoki
   have HR3 : Aside0 (Kd.S (Kd.int .i64) 3 wr base (fun b => oki b ∧ base ≤ b) (.slice A3 o.f1.f2.length c3) o.f1.f2) := ⟨Kd.S_mono (Kd.S_bound e3) (fun b hb => ⟨hb.1, hb.2.1⟩)⟩
   have HH := Aside0.mk hH
   clear hoki hH hM  e3
   have hcm : (cmFire o : Int) = (3 : Int) + (o.f1.f2.length : Int) := by unfold cmFire; omega
   rw [hcm] at hk1
   have HCM := Aside0.mk hcm
   clear hcm
   obtain ⟨hcc, hfr⟩ := H_cells HH.out (by omega) (by omega)
   rw [Int.toNat_natCast] at hcc hfr
   have c0_ : wr.cell? ⟨g, i * 4, none⟩ = some (.int .i64 o.f0) := hcc 0 _ rfl
   have z0_ : wr.frozen? ⟨g, i * 4, none⟩ = false := hfr 0
   have c1_ : wr.cell? ⟨g, i * 4 + 1, none⟩ = some (.int .i64 o.f1.f0) := hcc 1 _ rfl
   have z1_ : wr.frozen? ⟨g, i * 4 + 1, none⟩ = false := hfr 1
   have c2_ : wr.cell? ⟨g, i * 4 + 2, none⟩ = some (.int .i64 o.f1.f1) := hcc 2 _ rfl
   have z2_ : wr.frozen? ⟨g, i * 4 + 2, none⟩ = false := hfr 2
   clear hcc hfr
   go_upto_region 10 with fail
   obtain ⟨hH2, hg2⟩ := Kd.H_seg HH.out (by omega) (by omega) (seg := [.int .i64 (kk), .int .i64 (kk + 1), .int .i64 (kk + 1 + 1)]) (j := 0) (show 0 + 3 ≤ 4 by decide) (by intro q hq; simp at hq; rcases hq with rfl | rfl | rfl <;> rfl)
   rw [Int.toNat_natCast] at hH2 hg2
   have HH' : Aside0 (Kd.H kFire 56 (((wr.setCell ⟨g, i * 4, none⟩ (.int .i64 (kk))).setCell ⟨g, i * 4 + 1, none⟩ (.int .i64 (kk + 1))).setCell ⟨g, i * 4 + 2, none⟩ (.int .i64 (kk + 1 + 1))) base (fun j => ok j ∧ base ≤ j) (.slice (some ⟨g, 0, none⟩) l.length c) row (i : Int) oki [.int .i64 (kk), .int .i64 (kk + 1), .int .i64 (kk + 1 + 1), .slice A3 o.f1.f2.length c3]) := ⟨hH2⟩
   have hg3 : wr.grownBy (((wr.setCell ⟨g, i * 4, none⟩ (.int .i64 (kk))).setCell ⟨g, i * 4 + 1, none⟩ (.int .i64 (kk + 1))).setCell ⟨g, i * 4 + 2, none⟩ (.int .i64 (kk + 1 + 1))) (some g) := hg2
   have HF' := Aside0.mk (Fr.trans HF.out (Fr.of_grown (S := fun j => j = g) hg3 (fun j e => by injection e)) (fun j hj _ => by subst hj; exact HGO.out))
   have HR3' := Aside0.mk (Kd.S_grown HR3.out hg3 (fun b hb e => (HOKI.out b hb.1).2 (by injection e)))
   generalize (((wr.setCell ⟨g, i * 4, none⟩ (.int .i64 (kk))).setCell ⟨g, i * 4 + 1, none⟩ (.int .i64 (kk + 1))).setCell ⟨g, i * 4 + 2, none⟩ (.int .i64 (kk + 1 + 1))) = W0 at HH' HF' HR3' ⊢
   clear hH2 hg2 hg3 HH HF HR3 c0_ z0_ c1_ z1_ c2_ z2_
   have HH := HH'
   have HF := HF'
   have HR3 := HR3'
   clear HH' HF' HR3'
   obtain ⟨hcc, hfr⟩ := H_cells HH.out (by omega) (by omega)
   rw [Int.toNat_natCast] at hcc hfr
   have c3_ : W0.cell? ⟨g, i * 4 + 3, none⟩ = some (.slice A3 o.f1.f2.length c3) := hcc 3 _ rfl
   clear hcc hfr
   obtain ⟨r3, hr3⟩ : ∃ r : Int, r = kk + 1 + 1 + 1 + (o.f1.f2.length : Int) := ⟨_, rfl⟩
   have RR3 := Aside0.mk hr3
   clear hr3
   go_upto_region 3 with (go_at_call 11; refine (markIntS_any base (fun b => oki b ∧ base ≤ b) (.slice A3 o.f1.f2.length c3) o.f1.f2 (kk + 1 + 1 + 1) _ (by omega) (by omega) (Kd.S_R HR3.out)).mono ?_; rintro e W1 ⟨rfl, hs, hf⟩; rw [← RR3.out]; have hs2 := S_ints hs; have hf2 : Fr (fun b => oki b ∧ base ≤ b) W0 W1 := hf.mono (fun b hb _ => (Kd.S_R HR3.out).1 b hb.symm); have HH' := Aside0.mk (Kd.H_step HH.out (fun b hb hn hlt => hf2.block b hlt (fun h => hn h.1))); have HF' := Aside0.mk (Fr.trans HF.out hf2 (fun b hb _ => (HOKI.out b hb.1).1)); have HR3' := Aside0.mk hs2; clear hs hf hs2 hf2)
   clear HH HF HR3 c3_
   have HH := HH'
   have HF := HF'
   have HR3 := HR3'
   clear HH' HF' HR3'
   have hb3 : 0 ≤ r3 := by have := RR3.out; omega
   have hk13 : r3 + (0 : Int) ≤ 4611686018427387904 := by have := RR3.out; omega
   have HX : Aside0 (mkFireP o kk r3 = mkFire o kk) := ⟨by unfold mkFire; rw [RR3.out]⟩
   have hl3 : o.f1.f2.length = (mkFireP o kk r3).f1.f2.length := by show _ = (Ej8.mkI _ _).length; rw [Ej8.mkI_len]
   have hs9 := Kd.H_back HH.out (kFire_mkM W1 base (fun b => oki b ∧ base ≤ b) (mkFireP o kk r3) (v3 := .slice A3 o.f1.f2.length c3) HR3.out) (fun b hb => hb.1)
   rw [HX.out, HSET.out] at hs9
   have HS9 := Aside0.mk hs9
   clear hs9 hl3
   clear HH HR3
   go_wp2
   go_roundw
   case rel => exact ⟨i + 1, r3, by omega, by have := HKK.out; have := HCM.out; have := RR3.out; omega, by go_num, rfl, HS9, HF⟩
   case measure => simp [intOf]; omega
  ·have hke : i = l.length := by omega
   subst hke
   have g1 : decide (l.length < l.length) = false := decide_eq_false (by omega)
   have hR := HS.out
   rw [List.drop_of_length_le (Nat.le_refl _), List.append_nil, List.take_length] at hR
   rw [List.take_length] at hkk
   have HR2 := Aside0.mk (Kd.S_mono hR (fun j hj => hj.1))
   have HKK := Aside0.mk hkk
   clear hR hkk
   go_wp2
   go_ret
   exact ⟨by (rw [HKK.out]; try rfl), HR2.out, HF.out⟩
set_option maxHeartbeats 8000000 in
set_option maxRecDepth 100000 in
theorem markNodeS_any (base : Nat) (ok : Nat → Prop) (v : Value) (l : List TNode) (k : Int) (w : World) (hk : 0 ≤ k) (hk2 : k + (cmS cmNode l : Int) ≤ 4611686018427387904) (hS : Kd.S kNode 126 w base ok v l) :
  Calls Tryz.prog 65 #[v, .int .i64 k] w fun e w' => e = .returned (.int .i64 (k + (cmS cmNode l : Int))) ∧ Kd.S kNode 126 w' base ok v (mkS mkNode cmNode l k) ∧ Fr (fun j => ok j ∧ base ≤ j) w w' := by
 obtain ⟨A, c, rfl⟩ := Kd.S_slice hS
 have hn := (S_isS hS).2.len
 have h00 : mkS mkNode cmNode (l.take 0) k ++ l.drop 0 = l := by simp [mkS]
 have HS0 : Aside0 (Kd.S kNode 126 w base (fun j => ok j ∧ base ≤ j) (.slice A l.length c) (mkS mkNode cmNode (l.take 0) k ++ l.drop 0)) := ⟨by rw [h00]; exact Kd.S_mono (Kd.S_bound hS) (fun j hj => ⟨hj.1, hj.2.1⟩)⟩
 have HF0 : Aside0 (Fr (fun j => ok j ∧ base ≤ j) w w) := ⟨Fr.refl _ _⟩
 clear h00 hS
 go_enter Tryz.func65, Tryz.ntmps65
 go_wp2
 go_loopw [1, 5] (fun v1 vi wr => ∃ (i : Nat) (kk : Int), i ≤ l.length ∧ kk = k + (cmS cmNode (l.take i) : Int) ∧ vi = .int .i64 i ∧ v1 = .int .i64 kk ∧ Aside0 (Kd.S kNode 126 wr base (fun j => ok j ∧ base ≤ j) (.slice A l.length c) (mkS mkNode cmNode (l.take i) k ++ l.drop i)) ∧ Aside0 (Fr (fun j => ok j ∧ base ≤ j) w wr)) (fun _ vi _ => l.length - (intOf vi).toNat)
 case atStart => exact ⟨0, k, Nat.zero_le _, by simp [cmS], rfl, rfl, HS0, HF0⟩
 case round =>
  clear HS0 HF0
  obtain ⟨i, kk, hi, hkk, rfl, rfl, HS, HF⟩ := hrel
  by_cases hlt : i < l.length
  ·have g1 : decide (i < l.length) = true := decide_eq_true hlt
   have i1 : (i : Int) < l.length := by omega
   have hpl : (mkS mkNode cmNode (l.take i) k).length = i := by rw [mkS_len, List.length_take]; omega
   have hlen : (mkS mkNode cmNode (l.take i) k ++ l.drop i).length = l.length := mid_length _ _ _ hpl hi
   have hwt := cmS_snoc cmNode zNode l i hlt
   have hwl := cmS_le cmNode l (i + 1)
   have HSET := Aside0.mk (show (mkS mkNode cmNode (l.take i) k ++ l.drop i).set ((i : Int)).toNat (mkNode (l.getD i zNode) kk) = mkS mkNode cmNode (l.take (i + 1)) k ++ l.drop (i + 1) by
    rw [Int.toNat_natCast, mid_set _ _ _ _ hpl hlt, mkS_snoc mkNode cmNode zNode l i hlt k, hkk])
   have hgd := mid_getD (mkS mkNode cmNode (l.take i) k) l i zNode hpl
   obtain ⟨g, cap, hv, hgb, hgl, hcl⟩ := Kd.S_form HS.out (by omega)
   injection hv with hA hl2 hc2
   subst hA
   clear hl2 hc2 hcl hgl
   obtain ⟨oki, ce, hce1, hM, hcc, hfr, hoki, hH⟩ := Kd.S_elem HS.out zNode (i : Int) (by omega) (by omega)
   rw [Int.toNat_natCast] at hM
   rw [hgd] at hM
   have hk0 : 0 ≤ kk := by omega
   have hk1 : kk + (cmNode (l.getD i zNode) : Int) ≤ 4611686018427387904 := by omega
   have HKK : Aside0 (kk + (cmNode (l.getD i zNode) : Int) = k + (cmS cmNode (l.take (i + 1)) : Int)) := ⟨by omega⟩
   have HGO := Aside0.mk ((Kd.S_R HS.out).1 g (by simp [Value.ownBlock]))
   clear hwt hwl hkk hpl hlen hgd hcc hfr hce1
   generalize l.getD i zNode = o at hM hk1 HSET HKK
   generalize mkS mkNode cmNode (l.take i) k ++ l.drop i = row at hH HSET HS
   obtain ⟨v3, v4, v5, v6, v7, v8, o3, o4, o5, o6, o7, o8, rfl, e3, e4, e5, e6, e7, e8, ap⟩ := kNode_openM hM
   obtain ⟨A3, c3, rfl⟩ := Kd.S_slice e3
   obtain ⟨A4, c4, rfl⟩ := Kd.S_slice e4
   obtain ⟨A5, c5, rfl⟩ := Kd.S_slice e5
   obtain ⟨A6, c6, rfl⟩ := Kd.S_slice e6
   obtain ⟨A7, c7, rfl⟩ := Kd.S_slice e7
   obtain ⟨A8, c8, rfl⟩ := Kd.S_slice e8
   have HOKI := Aside0.mk hoki
   have HAP := Aside0.mk ap
   simp only [Ap, List.mem_cons, List.not_mem_nil, or_false, forall_eq_or_imp, forall_eq, false_imp_iff, implies_true, and_true] at ap
   have HAQ := Aside0.mk ap
   have HR3 : Aside0 (Kd.S (Kd.int .i64) 3 wr base (fun b => o3 b ∧ base ≤ b) (.slice A3 o.f3.length c3) o.f3) := ⟨Kd.S_mono (Kd.S_bound e3) (fun b hb => ⟨hb.1, hb.2.1⟩)⟩
   have HO3 : Aside0 (∀ b, o3 b → oki b) := ⟨by grind⟩
   have HR4 : Aside0 (Kd.S kOcc 54 wr base (fun b => o4 b ∧ base ≤ b) (.slice A4 o.f4.f0.length c4) o.f4.f0) := ⟨Kd.S_mono (Kd.S_bound e4) (fun b hb => ⟨hb.1, hb.2.1⟩)⟩
   have HO4 : Aside0 (∀ b, o4 b → oki b) := ⟨by grind⟩
   have HR5 : Aside0 (Kd.S kOcc 54 wr base (fun b => o5 b ∧ base ≤ b) (.slice A5 o.f4.f1.length c5) o.f4.f1) := ⟨Kd.S_mono (Kd.S_bound e5) (fun b hb => ⟨hb.1, hb.2.1⟩)⟩
   have HO5 : Aside0 (∀ b, o5 b → oki b) := ⟨by grind⟩
   have HR6 : Aside0 (Kd.S kOcc 54 wr base (fun b => o6 b ∧ base ≤ b) (.slice A6 o.f5.f0.length c6) o.f5.f0) := ⟨Kd.S_mono (Kd.S_bound e6) (fun b hb => ⟨hb.1, hb.2.1⟩)⟩
   have HO6 : Aside0 (∀ b, o6 b → oki b) := ⟨by grind⟩
   have HR7 : Aside0 (Kd.S kOcc 54 wr base (fun b => o7 b ∧ base ≤ b) (.slice A7 o.f5.f1.length c7) o.f5.f1) := ⟨Kd.S_mono (Kd.S_bound e7) (fun b hb => ⟨hb.1, hb.2.1⟩)⟩
   have HO7 : Aside0 (∀ b, o7 b → oki b) := ⟨by grind⟩
   have HR8 : Aside0 (Kd.S kOcc 54 wr base (fun b => o8 b ∧ base ≤ b) (.slice A8 o.f6.length c8) o.f6) := ⟨Kd.S_mono (Kd.S_bound e8) (fun b hb => ⟨hb.1, hb.2.1⟩)⟩
   have HO8 : Aside0 (∀ b, o8 b → oki b) := ⟨by grind⟩
   have HD3_4 : Aside0 (∀ b, o3 b → ¬ o4 b) := ⟨by grind⟩
   have HD3_5 : Aside0 (∀ b, o3 b → ¬ o5 b) := ⟨by grind⟩
   have HD3_6 : Aside0 (∀ b, o3 b → ¬ o6 b) := ⟨by grind⟩
   have HD3_7 : Aside0 (∀ b, o3 b → ¬ o7 b) := ⟨by grind⟩
   have HD3_8 : Aside0 (∀ b, o3 b → ¬ o8 b) := ⟨by grind⟩
   have HD4_5 : Aside0 (∀ b, o4 b → ¬ o5 b) := ⟨by grind⟩
   have HD4_6 : Aside0 (∀ b, o4 b → ¬ o6 b) := ⟨by grind⟩
   have HD4_7 : Aside0 (∀ b, o4 b → ¬ o7 b) := ⟨by grind⟩
   have HD4_8 : Aside0 (∀ b, o4 b → ¬ o8 b) := ⟨by grind⟩
   have HD5_6 : Aside0 (∀ b, o5 b → ¬ o6 b) := ⟨by grind⟩
   have HD5_7 : Aside0 (∀ b, o5 b → ¬ o7 b) := ⟨by grind⟩
   have HD5_8 : Aside0 (∀ b, o5 b → ¬ o8 b) := ⟨by grind⟩
   have HD6_7 : Aside0 (∀ b, o6 b → ¬ o7 b) := ⟨by grind⟩
   have HD6_8 : Aside0 (∀ b, o6 b → ¬ o8 b) := ⟨by grind⟩
   have HD7_8 : Aside0 (∀ b, o7 b → ¬ o8 b) := ⟨by grind⟩
   have HH := Aside0.mk hH
   clear hoki hH hM  ap HAQ e3 e4 e5 e6 e7 e8
   have hcm : (cmNode o : Int) = (4 : Int) + (o.f3.length : Int) + (cmS cmOcc o.f4.f0 : Int) + (cmS cmOcc o.f4.f1 : Int) + (cmS cmOcc o.f5.f0 : Int) + (cmS cmOcc o.f5.f1 : Int) + (cmS cmOcc o.f6 : Int) := by unfold cmNode; omega
   rw [hcm] at hk1
   have HCM := Aside0.mk hcm
   clear hcm
   obtain ⟨hcc, hfr⟩ := H_cells HH.out (by omega) (by omega)
   rw [Int.toNat_natCast] at hcc hfr
   have c0_ : wr.cell? ⟨g, i * 10, none⟩ = some (.int .i64 o.f0) := hcc 0 _ rfl
   have z0_ : wr.frozen? ⟨g, i * 10, none⟩ = false := hfr 0
   have c1_ : wr.cell? ⟨g, i * 10 + 1, none⟩ = some (.int .i64 o.f1) := hcc 1 _ rfl
   have z1_ : wr.frozen? ⟨g, i * 10 + 1, none⟩ = false := hfr 1
   have c2_ : wr.cell? ⟨g, i * 10 + 2, none⟩ = some (.int .i64 o.f2) := hcc 2 _ rfl
   have z2_ : wr.frozen? ⟨g, i * 10 + 2, none⟩ = false := hfr 2
   clear hcc hfr
   go_upto_region 10 with fail
   obtain ⟨hH2, hg2⟩ := Kd.H_seg HH.out (by omega) (by omega) (seg := [.int .i64 (kk), .int .i64 (kk + 1), .int .i64 (kk + 1 + 1)]) (j := 0) (show 0 + 3 ≤ 10 by decide) (by intro q hq; simp at hq; rcases hq with rfl | rfl | rfl <;> rfl)
   rw [Int.toNat_natCast] at hH2 hg2
   have HH' : Aside0 (Kd.H kNode 126 (((wr.setCell ⟨g, i * 10, none⟩ (.int .i64 (kk))).setCell ⟨g, i * 10 + 1, none⟩ (.int .i64 (kk + 1))).setCell ⟨g, i * 10 + 2, none⟩ (.int .i64 (kk + 1 + 1))) base (fun j => ok j ∧ base ≤ j) (.slice (some ⟨g, 0, none⟩) l.length c) row (i : Int) oki [.int .i64 (kk), .int .i64 (kk + 1), .int .i64 (kk + 1 + 1), .slice A3 o.f3.length c3, .slice A4 o.f4.f0.length c4, .slice A5 o.f4.f1.length c5, .slice A6 o.f5.f0.length c6, .slice A7 o.f5.f1.length c7, .slice A8 o.f6.length c8, .int .i64 o.f7]) := ⟨hH2⟩
   have hg3 : wr.grownBy (((wr.setCell ⟨g, i * 10, none⟩ (.int .i64 (kk))).setCell ⟨g, i * 10 + 1, none⟩ (.int .i64 (kk + 1))).setCell ⟨g, i * 10 + 2, none⟩ (.int .i64 (kk + 1 + 1))) (some g) := hg2
   have HF' := Aside0.mk (Fr.trans HF.out (Fr.of_grown (S := fun j => j = g) hg3 (fun j e => by injection e)) (fun j hj _ => by subst hj; exact HGO.out))
   have HR3' := Aside0.mk (Kd.S_grown HR3.out hg3 (fun b hb e => (HOKI.out b (HO3.out b hb.1)).2 (by injection e)))
   have HR4' := Aside0.mk (Kd.S_grown HR4.out hg3 (fun b hb e => (HOKI.out b (HO4.out b hb.1)).2 (by injection e)))
   have HR5' := Aside0.mk (Kd.S_grown HR5.out hg3 (fun b hb e => (HOKI.out b (HO5.out b hb.1)).2 (by injection e)))
   have HR6' := Aside0.mk (Kd.S_grown HR6.out hg3 (fun b hb e => (HOKI.out b (HO6.out b hb.1)).2 (by injection e)))
   have HR7' := Aside0.mk (Kd.S_grown HR7.out hg3 (fun b hb e => (HOKI.out b (HO7.out b hb.1)).2 (by injection e)))
   have HR8' := Aside0.mk (Kd.S_grown HR8.out hg3 (fun b hb e => (HOKI.out b (HO8.out b hb.1)).2 (by injection e)))
   generalize (((wr.setCell ⟨g, i * 10, none⟩ (.int .i64 (kk))).setCell ⟨g, i * 10 + 1, none⟩ (.int .i64 (kk + 1))).setCell ⟨g, i * 10 + 2, none⟩ (.int .i64 (kk + 1 + 1))) = W0 at HH' HF' HR3' HR4' HR5' HR6' HR7' HR8' ⊢
   clear hH2 hg2 hg3 HH HF HR3 HR4 HR5 HR6 HR7 HR8 c0_ z0_ c1_ z1_ c2_ z2_
   have HH := HH'
   have HF := HF'
   have HR3 := HR3'
   have HR4 := HR4'
   have HR5 := HR5'
   have HR6 := HR6'
   have HR7 := HR7'
   have HR8 := HR8'
   clear HH' HF' HR3' HR4' HR5' HR6' HR7' HR8'
   obtain ⟨hcc, hfr⟩ := H_cells HH.out (by omega) (by omega)
   rw [Int.toNat_natCast] at hcc hfr
   have c3_ : W0.cell? ⟨g, i * 10 + 3, none⟩ = some (.slice A3 o.f3.length c3) := hcc 3 _ rfl
   clear hcc hfr
   obtain ⟨r3, hr3⟩ : ∃ r : Int, r = kk + 1 + 1 + 1 + (o.f3.length : Int) := ⟨_, rfl⟩
   have RR3 := Aside0.mk hr3
   clear hr3
   go_upto_region 11 with (go_at_call 11; refine (markIntS_any base (fun b => o3 b ∧ base ≤ b) (.slice A3 o.f3.length c3) o.f3 (kk + 1 + 1 + 1) _ (by omega) (by omega) (Kd.S_R HR3.out)).mono ?_; rintro e W1 ⟨rfl, hs, hf⟩; rw [← RR3.out]; have hs2 := S_ints hs; have hf2 : Fr (fun b => o3 b ∧ base ≤ b) W0 W1 := hf.mono (fun b hb _ => (Kd.S_R HR3.out).1 b hb.symm); have HH' := Aside0.mk (Kd.H_step HH.out (fun b hb hn hlt => hf2.block b hlt (fun h => hn (HO3.out b h.1)))); have HF' := Aside0.mk (Fr.trans HF.out hf2 (fun b hb _ => (HOKI.out b (HO3.out b hb.1)).1)); have HR3' := Aside0.mk hs2; have HR4' := Aside0.mk (Kd.S_step HR4.out (fun b hb hlt => hf2.block b hlt (fun h => HD3_4.out b h.1 hb.1))); have HR5' := Aside0.mk (Kd.S_step HR5.out (fun b hb hlt => hf2.block b hlt (fun h => HD3_5.out b h.1 hb.1))); have HR6' := Aside0.mk (Kd.S_step HR6.out (fun b hb hlt => hf2.block b hlt (fun h => HD3_6.out b h.1 hb.1))); have HR7' := Aside0.mk (Kd.S_step HR7.out (fun b hb hlt => hf2.block b hlt (fun h => HD3_7.out b h.1 hb.1))); have HR8' := Aside0.mk (Kd.S_step HR8.out (fun b hb hlt => hf2.block b hlt (fun h => HD3_8.out b h.1 hb.1))); clear hs hf hs2 hf2)
   clear HH HF HR3 HR4 HR5 HR6 HR7 HR8 c3_
   have HH := HH'
   have HF := HF'
   have HR3 := HR3'
   have HR4 := HR4'
   have HR5 := HR5'
   have HR6 := HR6'
   have HR7 := HR7'
   have HR8 := HR8'
   clear HH' HF' HR3' HR4' HR5' HR6' HR7' HR8'
   have hb3 : 0 ≤ r3 := by have := RR3.out; omega
   have hk13 : r3 + (1 : Int) + (cmS cmOcc o.f4.f0 : Int) + (cmS cmOcc o.f4.f1 : Int) + (cmS cmOcc o.f5.f0 : Int) + (cmS cmOcc o.f5.f1 : Int) + (cmS cmOcc o.f6 : Int) ≤ 4611686018427387904 := by have := RR3.out; omega
   obtain ⟨hcc, hfr⟩ := H_cells HH.out (by omega) (by omega)
   rw [Int.toNat_natCast] at hcc hfr
   have c4_ : W1.cell? ⟨g, i * 10 + 4, none⟩ = some (.slice A4 o.f4.f0.length c4) := hcc 4 _ rfl
   clear hcc hfr
   obtain ⟨r4, hr4⟩ : ∃ r : Int, r = r3 + (cmS cmOcc o.f4.f0 : Int) := ⟨_, rfl⟩
   have RR4 := Aside0.mk hr4
   clear hr4
   go_upto_region 12 with (go_at_call 92; refine (markOccS_any base (fun b => o4 b ∧ base ≤ b) (.slice A4 o.f4.f0.length c4) o.f4.f0 (r3) _ (by omega) (by omega) HR4.out).mono ?_; rintro e W2 ⟨rfl, hs, hf⟩; rw [← RR4.out]; have hs2 := hs; have hf2 : Fr (fun b => o4 b ∧ base ≤ b) W1 W2 := hf.mono (fun b hb _ => hb.1); have HH' := Aside0.mk (Kd.H_step HH.out (fun b hb hn hlt => hf2.block b hlt (fun h => hn (HO4.out b h.1)))); have HF' := Aside0.mk (Fr.trans HF.out hf2 (fun b hb _ => (HOKI.out b (HO4.out b hb.1)).1)); have HR3' := Aside0.mk (Kd.S_step HR3.out (fun b hb hlt => hf2.block b hlt (fun h => HD3_4.out b hb.1 h.1))); have HR4' := Aside0.mk hs2; have HR5' := Aside0.mk (Kd.S_step HR5.out (fun b hb hlt => hf2.block b hlt (fun h => HD4_5.out b h.1 hb.1))); have HR6' := Aside0.mk (Kd.S_step HR6.out (fun b hb hlt => hf2.block b hlt (fun h => HD4_6.out b h.1 hb.1))); have HR7' := Aside0.mk (Kd.S_step HR7.out (fun b hb hlt => hf2.block b hlt (fun h => HD4_7.out b h.1 hb.1))); have HR8' := Aside0.mk (Kd.S_step HR8.out (fun b hb hlt => hf2.block b hlt (fun h => HD4_8.out b h.1 hb.1))); clear hs hf hs2 hf2)
   clear HH HF HR3 HR4 HR5 HR6 HR7 HR8 c4_
   have HH := HH'
   have HF := HF'
   have HR3 := HR3'
   have HR4 := HR4'
   have HR5 := HR5'
   have HR6 := HR6'
   have HR7 := HR7'
   have HR8 := HR8'
   clear HH' HF' HR3' HR4' HR5' HR6' HR7' HR8'
   have hb4 : 0 ≤ r4 := by have := RR4.out; omega
   have hk14 : r4 + (1 : Int) + (cmS cmOcc o.f4.f1 : Int) + (cmS cmOcc o.f5.f0 : Int) + (cmS cmOcc o.f5.f1 : Int) + (cmS cmOcc o.f6 : Int) ≤ 4611686018427387904 := by have := RR4.out; omega
   obtain ⟨hcc, hfr⟩ := H_cells HH.out (by omega) (by omega)
   rw [Int.toNat_natCast] at hcc hfr
   have c5_ : W2.cell? ⟨g, i * 10 + 5, none⟩ = some (.slice A5 o.f4.f1.length c5) := hcc 5 _ rfl
   clear hcc hfr
   obtain ⟨r5, hr5⟩ : ∃ r : Int, r = r4 + (cmS cmOcc o.f4.f1 : Int) := ⟨_, rfl⟩
   have RR5 := Aside0.mk hr5
   clear hr5
   go_upto_region 13 with (go_at_call 92; refine (markOccS_any base (fun b => o5 b ∧ base ≤ b) (.slice A5 o.f4.f1.length c5) o.f4.f1 (r4) _ (by omega) (by omega) HR5.out).mono ?_; rintro e W3 ⟨rfl, hs, hf⟩; rw [← RR5.out]; have hs2 := hs; have hf2 : Fr (fun b => o5 b ∧ base ≤ b) W2 W3 := hf.mono (fun b hb _ => hb.1); have HH' := Aside0.mk (Kd.H_step HH.out (fun b hb hn hlt => hf2.block b hlt (fun h => hn (HO5.out b h.1)))); have HF' := Aside0.mk (Fr.trans HF.out hf2 (fun b hb _ => (HOKI.out b (HO5.out b hb.1)).1)); have HR3' := Aside0.mk (Kd.S_step HR3.out (fun b hb hlt => hf2.block b hlt (fun h => HD3_5.out b hb.1 h.1))); have HR4' := Aside0.mk (Kd.S_step HR4.out (fun b hb hlt => hf2.block b hlt (fun h => HD4_5.out b hb.1 h.1))); have HR5' := Aside0.mk hs2; have HR6' := Aside0.mk (Kd.S_step HR6.out (fun b hb hlt => hf2.block b hlt (fun h => HD5_6.out b h.1 hb.1))); have HR7' := Aside0.mk (Kd.S_step HR7.out (fun b hb hlt => hf2.block b hlt (fun h => HD5_7.out b h.1 hb.1))); have HR8' := Aside0.mk (Kd.S_step HR8.out (fun b hb hlt => hf2.block b hlt (fun h => HD5_8.out b h.1 hb.1))); clear hs hf hs2 hf2)
   clear HH HF HR3 HR4 HR5 HR6 HR7 HR8 c5_
   have HH := HH'
   have HF := HF'
   have HR3 := HR3'
   have HR4 := HR4'
   have HR5 := HR5'
   have HR6 := HR6'
   have HR7 := HR7'
   have HR8 := HR8'
   clear HH' HF' HR3' HR4' HR5' HR6' HR7' HR8'
   have hb5 : 0 ≤ r5 := by have := RR5.out; omega
   have hk15 : r5 + (1 : Int) + (cmS cmOcc o.f5.f0 : Int) + (cmS cmOcc o.f5.f1 : Int) + (cmS cmOcc o.f6 : Int) ≤ 4611686018427387904 := by have := RR5.out; omega
   obtain ⟨hcc, hfr⟩ := H_cells HH.out (by omega) (by omega)
   rw [Int.toNat_natCast] at hcc hfr
   have c6_ : W3.cell? ⟨g, i * 10 + 6, none⟩ = some (.slice A6 o.f5.f0.length c6) := hcc 6 _ rfl
   clear hcc hfr
   obtain ⟨r6, hr6⟩ : ∃ r : Int, r = r5 + (cmS cmOcc o.f5.f0 : Int) := ⟨_, rfl⟩
   have RR6 := Aside0.mk hr6
   clear hr6
   go_upto_region 14 with (go_at_call 92; refine (markOccS_any base (fun b => o6 b ∧ base ≤ b) (.slice A6 o.f5.f0.length c6) o.f5.f0 (r5) _ (by omega) (by omega) HR6.out).mono ?_; rintro e W4 ⟨rfl, hs, hf⟩; rw [← RR6.out]; have hs2 := hs; have hf2 : Fr (fun b => o6 b ∧ base ≤ b) W3 W4 := hf.mono (fun b hb _ => hb.1); have HH' := Aside0.mk (Kd.H_step HH.out (fun b hb hn hlt => hf2.block b hlt (fun h => hn (HO6.out b h.1)))); have HF' := Aside0.mk (Fr.trans HF.out hf2 (fun b hb _ => (HOKI.out b (HO6.out b hb.1)).1)); have HR3' := Aside0.mk (Kd.S_step HR3.out (fun b hb hlt => hf2.block b hlt (fun h => HD3_6.out b hb.1 h.1))); have HR4' := Aside0.mk (Kd.S_step HR4.out (fun b hb hlt => hf2.block b hlt (fun h => HD4_6.out b hb.1 h.1))); have HR5' := Aside0.mk (Kd.S_step HR5.out (fun b hb hlt => hf2.block b hlt (fun h => HD5_6.out b hb.1 h.1))); have HR6' := Aside0.mk hs2; have HR7' := Aside0.mk (Kd.S_step HR7.out (fun b hb hlt => hf2.block b hlt (fun h => HD6_7.out b h.1 hb.1))); have HR8' := Aside0.mk (Kd.S_step HR8.out (fun b hb hlt => hf2.block b hlt (fun h => HD6_8.out b h.1 hb.1))); clear hs hf hs2 hf2)
   clear HH HF HR3 HR4 HR5 HR6 HR7 HR8 c6_
   have HH := HH'
   have HF := HF'
   have HR3 := HR3'
   have HR4 := HR4'
   have HR5 := HR5'
   have HR6 := HR6'
   have HR7 := HR7'
   have HR8 := HR8'
   clear HH' HF' HR3' HR4' HR5' HR6' HR7' HR8'
   have hb6 : 0 ≤ r6 := by have := RR6.out; omega
   have hk16 : r6 + (1 : Int) + (cmS cmOcc o.f5.f1 : Int) + (cmS cmOcc o.f6 : Int) ≤ 4611686018427387904 := by have := RR6.out; omega
   obtain ⟨hcc, hfr⟩ := H_cells HH.out (by omega) (by omega)
   rw [Int.toNat_natCast] at hcc hfr
   have c7_ : W4.cell? ⟨g, i * 10 + 7, none⟩ = some (.slice A7 o.f5.f1.length c7) := hcc 7 _ rfl
   clear hcc hfr
   obtain ⟨r7, hr7⟩ : ∃ r : Int, r = r6 + (cmS cmOcc o.f5.f1 : Int) := ⟨_, rfl⟩
   have RR7 := Aside0.mk hr7
   clear hr7
   go_upto_region 15 with (go_at_call 92; refine (markOccS_any base (fun b => o7 b ∧ base ≤ b) (.slice A7 o.f5.f1.length c7) o.f5.f1 (r6) _ (by omega) (by omega) HR7.out).mono ?_; rintro e W5 ⟨rfl, hs, hf⟩; rw [← RR7.out]; have hs2 := hs; have hf2 : Fr (fun b => o7 b ∧ base ≤ b) W4 W5 := hf.mono (fun b hb _ => hb.1); have HH' := Aside0.mk (Kd.H_step HH.out (fun b hb hn hlt => hf2.block b hlt (fun h => hn (HO7.out b h.1)))); have HF' := Aside0.mk (Fr.trans HF.out hf2 (fun b hb _ => (HOKI.out b (HO7.out b hb.1)).1)); have HR3' := Aside0.mk (Kd.S_step HR3.out (fun b hb hlt => hf2.block b hlt (fun h => HD3_7.out b hb.1 h.1))); have HR4' := Aside0.mk (Kd.S_step HR4.out (fun b hb hlt => hf2.block b hlt (fun h => HD4_7.out b hb.1 h.1))); have HR5' := Aside0.mk (Kd.S_step HR5.out (fun b hb hlt => hf2.block b hlt (fun h => HD5_7.out b hb.1 h.1))); have HR6' := Aside0.mk (Kd.S_step HR6.out (fun b hb hlt => hf2.block b hlt (fun h => HD6_7.out b hb.1 h.1))); have HR7' := Aside0.mk hs2; have HR8' := Aside0.mk (Kd.S_step HR8.out (fun b hb hlt => hf2.block b hlt (fun h => HD7_8.out b h.1 hb.1))); clear hs hf hs2 hf2)
   clear HH HF HR3 HR4 HR5 HR6 HR7 HR8 c7_
   have HH := HH'
   have HF := HF'
   have HR3 := HR3'
   have HR4 := HR4'
   have HR5 := HR5'
   have HR6 := HR6'
   have HR7 := HR7'
   have HR8 := HR8'
   clear HH' HF' HR3' HR4' HR5' HR6' HR7' HR8'
   have hb7 : 0 ≤ r7 := by have := RR7.out; omega
   have hk17 : r7 + (1 : Int) + (cmS cmOcc o.f6 : Int) ≤ 4611686018427387904 := by have := RR7.out; omega
   obtain ⟨hcc, hfr⟩ := H_cells HH.out (by omega) (by omega)
   rw [Int.toNat_natCast] at hcc hfr
   have c8_ : W5.cell? ⟨g, i * 10 + 8, none⟩ = some (.slice A8 o.f6.length c8) := hcc 8 _ rfl
   clear hcc hfr
   obtain ⟨r8, hr8⟩ : ∃ r : Int, r = r7 + (cmS cmOcc o.f6 : Int) := ⟨_, rfl⟩
   have RR8 := Aside0.mk hr8
   clear hr8
   go_upto_region 16 with (go_at_call 92; refine (markOccS_any base (fun b => o8 b ∧ base ≤ b) (.slice A8 o.f6.length c8) o.f6 (r7) _ (by omega) (by omega) HR8.out).mono ?_; rintro e W6 ⟨rfl, hs, hf⟩; rw [← RR8.out]; have hs2 := hs; have hf2 : Fr (fun b => o8 b ∧ base ≤ b) W5 W6 := hf.mono (fun b hb _ => hb.1); have HH' := Aside0.mk (Kd.H_step HH.out (fun b hb hn hlt => hf2.block b hlt (fun h => hn (HO8.out b h.1)))); have HF' := Aside0.mk (Fr.trans HF.out hf2 (fun b hb _ => (HOKI.out b (HO8.out b hb.1)).1)); have HR3' := Aside0.mk (Kd.S_step HR3.out (fun b hb hlt => hf2.block b hlt (fun h => HD3_8.out b hb.1 h.1))); have HR4' := Aside0.mk (Kd.S_step HR4.out (fun b hb hlt => hf2.block b hlt (fun h => HD4_8.out b hb.1 h.1))); have HR5' := Aside0.mk (Kd.S_step HR5.out (fun b hb hlt => hf2.block b hlt (fun h => HD5_8.out b hb.1 h.1))); have HR6' := Aside0.mk (Kd.S_step HR6.out (fun b hb hlt => hf2.block b hlt (fun h => HD6_8.out b hb.1 h.1))); have HR7' := Aside0.mk (Kd.S_step HR7.out (fun b hb hlt => hf2.block b hlt (fun h => HD7_8.out b hb.1 h.1))); have HR8' := Aside0.mk hs2; clear hs hf hs2 hf2)
   clear HH HF HR3 HR4 HR5 HR6 HR7 HR8 c8_
   have HH := HH'
   have HF := HF'
   have HR3 := HR3'
   have HR4 := HR4'
   have HR5 := HR5'
   have HR6 := HR6'
   have HR7 := HR7'
   have HR8 := HR8'
   clear HH' HF' HR3' HR4' HR5' HR6' HR7' HR8'
   have hb8 : 0 ≤ r8 := by have := RR8.out; omega
   have hk18 : r8 + (1 : Int) ≤ 4611686018427387904 := by have := RR8.out; omega
   obtain ⟨hcc, hfr⟩ := H_cells HH.out (by omega) (by omega)
   rw [Int.toNat_natCast] at hcc hfr
   have c9_ : W6.cell? ⟨g, i * 10 + 9, none⟩ = some (.int .i64 o.f7) := hcc 9 _ rfl
   have z9_ : W6.frozen? ⟨g, i * 10 + 9, none⟩ = false := hfr 9
   clear hcc hfr
   go_upto_region 3 with fail
   obtain ⟨hH2, hg2⟩ := Kd.H_seg HH.out (by omega) (by omega) (seg := [.int .i64 (r8)]) (j := 9) (show 9 + 1 ≤ 10 by decide) (by intro q hq; simp at hq; rcases hq with rfl <;> rfl)
   rw [Int.toNat_natCast] at hH2 hg2
   have HH' : Aside0 (Kd.H kNode 126 (W6.setCell ⟨g, i * 10 + 9, none⟩ (.int .i64 (r8))) base (fun j => ok j ∧ base ≤ j) (.slice (some ⟨g, 0, none⟩) l.length c) row (i : Int) oki [.int .i64 (kk), .int .i64 (kk + 1), .int .i64 (kk + 1 + 1), .slice A3 o.f3.length c3, .slice A4 o.f4.f0.length c4, .slice A5 o.f4.f1.length c5, .slice A6 o.f5.f0.length c6, .slice A7 o.f5.f1.length c7, .slice A8 o.f6.length c8, .int .i64 (r8)]) := ⟨hH2⟩
   have hg3 : W6.grownBy (W6.setCell ⟨g, i * 10 + 9, none⟩ (.int .i64 (r8))) (some g) := hg2
   have HF' := Aside0.mk (Fr.trans HF.out (Fr.of_grown (S := fun j => j = g) hg3 (fun j e => by injection e)) (fun j hj _ => by subst hj; exact HGO.out))
   have HR3' := Aside0.mk (Kd.S_grown HR3.out hg3 (fun b hb e => (HOKI.out b (HO3.out b hb.1)).2 (by injection e)))
   have HR4' := Aside0.mk (Kd.S_grown HR4.out hg3 (fun b hb e => (HOKI.out b (HO4.out b hb.1)).2 (by injection e)))
   have HR5' := Aside0.mk (Kd.S_grown HR5.out hg3 (fun b hb e => (HOKI.out b (HO5.out b hb.1)).2 (by injection e)))
   have HR6' := Aside0.mk (Kd.S_grown HR6.out hg3 (fun b hb e => (HOKI.out b (HO6.out b hb.1)).2 (by injection e)))
   have HR7' := Aside0.mk (Kd.S_grown HR7.out hg3 (fun b hb e => (HOKI.out b (HO7.out b hb.1)).2 (by injection e)))
   have HR8' := Aside0.mk (Kd.S_grown HR8.out hg3 (fun b hb e => (HOKI.out b (HO8.out b hb.1)).2 (by injection e)))
   generalize (W6.setCell ⟨g, i * 10 + 9, none⟩ (.int .i64 (r8))) = W7 at HH' HF' HR3' HR4' HR5' HR6' HR7' HR8' ⊢
   clear hH2 hg2 hg3 HH HF HR3 HR4 HR5 HR6 HR7 HR8 c9_ z9_
   have HH := HH'
   have HF := HF'
   have HR3 := HR3'
   have HR4 := HR4'
   have HR5 := HR5'
   have HR6 := HR6'
   have HR7 := HR7'
   have HR8 := HR8'
   clear HH' HF' HR3' HR4' HR5' HR6' HR7' HR8'
   have HX : Aside0 (mkNodeP o kk r3 r4 r5 r6 r7 r8 = mkNode o kk) := ⟨by unfold mkNode; rw [RR8.out, RR7.out, RR6.out, RR5.out, RR4.out, RR3.out]⟩
   have hl3 : o.f3.length = (mkNodeP o kk r3 r4 r5 r6 r7 r8).f3.length := by show _ = (Ej8.mkI _ _).length; rw [Ej8.mkI_len]
   have hl4 : o.f4.f0.length = (mkNodeP o kk r3 r4 r5 r6 r7 r8).f4.f0.length := by show _ = (mkS _ _ _ _).length; rw [mkS_len]
   have hl5 : o.f4.f1.length = (mkNodeP o kk r3 r4 r5 r6 r7 r8).f4.f1.length := by show _ = (mkS _ _ _ _).length; rw [mkS_len]
   have hl6 : o.f5.f0.length = (mkNodeP o kk r3 r4 r5 r6 r7 r8).f5.f0.length := by show _ = (mkS _ _ _ _).length; rw [mkS_len]
   have hl7 : o.f5.f1.length = (mkNodeP o kk r3 r4 r5 r6 r7 r8).f5.f1.length := by show _ = (mkS _ _ _ _).length; rw [mkS_len]
   have hl8 : o.f6.length = (mkNodeP o kk r3 r4 r5 r6 r7 r8).f6.length := by show _ = (mkS _ _ _ _).length; rw [mkS_len]
   have hs9 := Kd.H_back HH.out (kNode_mkM W7 base (fun b => oki b ∧ base ≤ b) (mkNodeP o kk r3 r4 r5 r6 r7 r8) (v3 := .slice A3 o.f3.length c3) (v4 := .slice A4 o.f4.f0.length c4) (v5 := .slice A5 o.f4.f1.length c5) (v6 := .slice A6 o.f5.f0.length c6) (v7 := .slice A7 o.f5.f1.length c7) (v8 := .slice A8 o.f6.length c8) (o3 := fun b => o3 b ∧ base ≤ b) (o4 := fun b => o4 b ∧ base ≤ b) (o5 := fun b => o5 b ∧ base ≤ b) (o6 := fun b => o6 b ∧ base ≤ b) (o7 := fun b => o7 b ∧ base ≤ b) (o8 := fun b => o8 b ∧ base ≤ b) HR3.out HR4.out HR5.out HR6.out HR7.out HR8.out (Ap.and HAP.out)) (fun b hb => hb.1)
   rw [HX.out, HSET.out] at hs9
   have HS9 := Aside0.mk hs9
   clear hs9 hl3 hl4 hl5 hl6 hl7 hl8
   clear HH HR3 HR4 HR5 HR6 HR7 HR8
   go_wp2
   go_roundw
   case rel => exact ⟨i + 1, r8 + 1, by omega, by have := HKK.out; have := HCM.out; have := RR3.out; have := RR4.out; have := RR5.out; have := RR6.out; have := RR7.out; have := RR8.out; omega, by go_num, rfl, HS9, HF⟩
   case measure => simp [intOf]; omega
  ·have hke : i = l.length := by omega
   subst hke
   have g1 : decide (l.length < l.length) = false := decide_eq_false (by omega)
   have hR := HS.out
   rw [List.drop_of_length_le (Nat.le_refl _), List.append_nil, List.take_length] at hR
   rw [List.take_length] at hkk
   have HR2 := Aside0.mk (Kd.S_mono hR (fun j hj => hj.1))
   have HKK := Aside0.mk hkk
   clear hR hkk
   go_wp2
   go_ret
   exact ⟨by (rw [HKK.out]; try rfl), HR2.out, HF.out⟩
set_option maxHeartbeats 8000000 in
set_option maxRecDepth 100000 in
theorem markGraphS_any (base : Nat) (ok : Nat → Prop) (v : Value) (l : List TGraph) (k : Int) (w : World) (hk : 0 ≤ k) (hk2 : k + (cmS cmGraph l : Int) ≤ 4611686018427387904) (hS : Kd.S kGraph 89 w base ok v l) :
  Calls Tryz.prog 30 #[v, .int .i64 k] w fun e w' => e = .returned (.int .i64 (k + (cmS cmGraph l : Int))) ∧ Kd.S kGraph 89 w' base ok v (mkS mkGraph cmGraph l k) ∧ Fr (fun j => ok j ∧ base ≤ j) w w' := by
 obtain ⟨A, c, rfl⟩ := Kd.S_slice hS
 have hn := (S_isS hS).2.len
 have h00 : mkS mkGraph cmGraph (l.take 0) k ++ l.drop 0 = l := by simp [mkS]
 have HS0 : Aside0 (Kd.S kGraph 89 w base (fun j => ok j ∧ base ≤ j) (.slice A l.length c) (mkS mkGraph cmGraph (l.take 0) k ++ l.drop 0)) := ⟨by rw [h00]; exact Kd.S_mono (Kd.S_bound hS) (fun j hj => ⟨hj.1, hj.2.1⟩)⟩
 have HF0 : Aside0 (Fr (fun j => ok j ∧ base ≤ j) w w) := ⟨Fr.refl _ _⟩
 clear h00 hS
 go_enter Tryz.func30, Tryz.ntmps30
 go_wp2
 go_loopw [1, 5] (fun v1 vi wr => ∃ (i : Nat) (kk : Int), i ≤ l.length ∧ kk = k + (cmS cmGraph (l.take i) : Int) ∧ vi = .int .i64 i ∧ v1 = .int .i64 kk ∧ Aside0 (Kd.S kGraph 89 wr base (fun j => ok j ∧ base ≤ j) (.slice A l.length c) (mkS mkGraph cmGraph (l.take i) k ++ l.drop i)) ∧ Aside0 (Fr (fun j => ok j ∧ base ≤ j) w wr)) (fun _ vi _ => l.length - (intOf vi).toNat)
 case atStart => exact ⟨0, k, Nat.zero_le _, by simp [cmS], rfl, rfl, HS0, HF0⟩
 case round =>
  clear HS0 HF0
  obtain ⟨i, kk, hi, hkk, rfl, rfl, HS, HF⟩ := hrel
  by_cases hlt : i < l.length
  ·have g1 : decide (i < l.length) = true := decide_eq_true hlt
   have i1 : (i : Int) < l.length := by omega
   have hpl : (mkS mkGraph cmGraph (l.take i) k).length = i := by rw [mkS_len, List.length_take]; omega
   have hlen : (mkS mkGraph cmGraph (l.take i) k ++ l.drop i).length = l.length := mid_length _ _ _ hpl hi
   have hwt := cmS_snoc cmGraph zGraph l i hlt
   have hwl := cmS_le cmGraph l (i + 1)
   have HSET := Aside0.mk (show (mkS mkGraph cmGraph (l.take i) k ++ l.drop i).set ((i : Int)).toNat (mkGraph (l.getD i zGraph) kk) = mkS mkGraph cmGraph (l.take (i + 1)) k ++ l.drop (i + 1) by
    rw [Int.toNat_natCast, mid_set _ _ _ _ hpl hlt, mkS_snoc mkGraph cmGraph zGraph l i hlt k, hkk])
   have hgd := mid_getD (mkS mkGraph cmGraph (l.take i) k) l i zGraph hpl
   obtain ⟨g, cap, hv, hgb, hgl, hcl⟩ := Kd.S_form HS.out (by omega)
   injection hv with hA hl2 hc2
   subst hA
   clear hl2 hc2 hcl hgl
   obtain ⟨oki, ce, hce1, hM, hcc, hfr, hoki, hH⟩ := Kd.S_elem HS.out zGraph (i : Int) (by omega) (by omega)
   rw [Int.toNat_natCast] at hM
   rw [hgd] at hM
   have hk0 : 0 ≤ kk := by omega
   have hk1 : kk + (cmGraph (l.getD i zGraph) : Int) ≤ 4611686018427387904 := by omega
   have HKK : Aside0 (kk + (cmGraph (l.getD i zGraph) : Int) = k + (cmS cmGraph (l.take (i + 1)) : Int)) := ⟨by omega⟩
   have HGO := Aside0.mk ((Kd.S_R HS.out).1 g (by simp [Value.ownBlock]))
   clear hwt hwl hkk hpl hlen hgd hcc hfr hce1
   generalize l.getD i zGraph = o at hM hk1 HSET HKK
   generalize mkS mkGraph cmGraph (l.take i) k ++ l.drop i = row at hH HSET HS
   obtain ⟨v1, rfl, e1⟩ := kGraph_openM hM
   obtain ⟨A1, c1, rfl⟩ := Kd.S_slice e1
   have HOKI := Aside0.mk hoki
   have HR1 : Aside0 (Kd.S kNode 126 wr base (fun b => oki b ∧ base ≤ b) (.slice A1 o.f1.length c1) o.f1) := ⟨Kd.S_mono (Kd.S_bound e1) (fun b hb => ⟨hb.1, hb.2.1⟩)⟩
   have HH := Aside0.mk hH
   clear hoki hH hM  e1
   have hcm : (cmGraph o : Int) = (4 : Int) + (cmS cmNode o.f1 : Int) := by unfold cmGraph; omega
   rw [hcm] at hk1
   have HCM := Aside0.mk hcm
   clear hcm
   obtain ⟨hcc, hfr⟩ := H_cells HH.out (by omega) (by omega)
   rw [Int.toNat_natCast] at hcc hfr
   have c0_ : wr.cell? ⟨g, i * 5, none⟩ = some (.int .i64 o.f0) := hcc 0 _ rfl
   have z0_ : wr.frozen? ⟨g, i * 5, none⟩ = false := hfr 0
   clear hcc hfr
   go_upto_region 6 with fail
   obtain ⟨hH2, hg2⟩ := Kd.H_seg HH.out (by omega) (by omega) (seg := [.int .i64 (kk)]) (j := 0) (show 0 + 1 ≤ 5 by decide) (by intro q hq; simp at hq; rcases hq with rfl <;> rfl)
   rw [Int.toNat_natCast] at hH2 hg2
   have HH' : Aside0 (Kd.H kGraph 89 (wr.setCell ⟨g, i * 5, none⟩ (.int .i64 (kk))) base (fun j => ok j ∧ base ≤ j) (.slice (some ⟨g, 0, none⟩) l.length c) row (i : Int) oki [.int .i64 (kk), .slice A1 o.f1.length c1, .int .i64 o.f2, .int .i64 o.f3, .bool o.f4]) := ⟨hH2⟩
   have hg3 : wr.grownBy (wr.setCell ⟨g, i * 5, none⟩ (.int .i64 (kk))) (some g) := hg2
   have HF' := Aside0.mk (Fr.trans HF.out (Fr.of_grown (S := fun j => j = g) hg3 (fun j e => by injection e)) (fun j hj _ => by subst hj; exact HGO.out))
   have HR1' := Aside0.mk (Kd.S_grown HR1.out hg3 (fun b hb e => (HOKI.out b hb.1).2 (by injection e)))
   generalize (wr.setCell ⟨g, i * 5, none⟩ (.int .i64 (kk))) = W0 at HH' HF' HR1' ⊢
   clear hH2 hg2 hg3 HH HF HR1 c0_ z0_
   have HH := HH'
   have HF := HF'
   have HR1 := HR1'
   clear HH' HF' HR1'
   obtain ⟨hcc, hfr⟩ := H_cells HH.out (by omega) (by omega)
   rw [Int.toNat_natCast] at hcc hfr
   have c1_ : W0.cell? ⟨g, i * 5 + 1, none⟩ = some (.slice A1 o.f1.length c1) := hcc 1 _ rfl
   clear hcc hfr
   obtain ⟨r1, hr1⟩ : ∃ r : Int, r = kk + 1 + (cmS cmNode o.f1 : Int) := ⟨_, rfl⟩
   have RR1 := Aside0.mk hr1
   clear hr1
   go_upto_region 7 with (go_at_call 65; refine (markNodeS_any base (fun b => oki b ∧ base ≤ b) (.slice A1 o.f1.length c1) o.f1 (kk + 1) _ (by omega) (by omega) HR1.out).mono ?_; rintro e W1 ⟨rfl, hs, hf⟩; rw [← RR1.out]; have hs2 := hs; have hf2 : Fr (fun b => oki b ∧ base ≤ b) W0 W1 := hf.mono (fun b hb _ => hb.1); have HH' := Aside0.mk (Kd.H_step HH.out (fun b hb hn hlt => hf2.block b hlt (fun h => hn h.1))); have HF' := Aside0.mk (Fr.trans HF.out hf2 (fun b hb _ => (HOKI.out b hb.1).1)); have HR1' := Aside0.mk hs2; clear hs hf hs2 hf2)
   clear HH HF HR1 c1_
   have HH := HH'
   have HF := HF'
   have HR1 := HR1'
   clear HH' HF' HR1'
   have hb1 : 0 ≤ r1 := by have := RR1.out; omega
   have hk11 : r1 + (3 : Int) ≤ 4611686018427387904 := by have := RR1.out; omega
   obtain ⟨hcc, hfr⟩ := H_cells HH.out (by omega) (by omega)
   rw [Int.toNat_natCast] at hcc hfr
   have c2_ : W1.cell? ⟨g, i * 5 + 2, none⟩ = some (.int .i64 o.f2) := hcc 2 _ rfl
   have z2_ : W1.frozen? ⟨g, i * 5 + 2, none⟩ = false := hfr 2
   have c3_ : W1.cell? ⟨g, i * 5 + 3, none⟩ = some (.int .i64 o.f3) := hcc 3 _ rfl
   have z3_ : W1.frozen? ⟨g, i * 5 + 3, none⟩ = false := hfr 3
   have c4_ : W1.cell? ⟨g, i * 5 + 4, none⟩ = some (.bool o.f4) := hcc 4 _ rfl
   have z4_ : W1.frozen? ⟨g, i * 5 + 4, none⟩ = false := hfr 4
   clear hcc hfr
   go_upto_region 3 with fail
   obtain ⟨hH2, hg2⟩ := Kd.H_seg HH.out (by omega) (by omega) (seg := [.int .i64 (r1), .int .i64 (r1 + 1), .bool ((r1 + 1 + 1) % 3 == 0)]) (j := 2) (show 2 + 3 ≤ 5 by decide) (by intro q hq; simp at hq; rcases hq with rfl | rfl | rfl <;> rfl)
   rw [Int.toNat_natCast] at hH2 hg2
   have HH' : Aside0 (Kd.H kGraph 89 (((W1.setCell ⟨g, i * 5 + 2, none⟩ (.int .i64 (r1))).setCell ⟨g, i * 5 + 3, none⟩ (.int .i64 (r1 + 1))).setCell ⟨g, i * 5 + 4, none⟩ (.bool ((r1 + 1 + 1) % 3 == 0))) base (fun j => ok j ∧ base ≤ j) (.slice (some ⟨g, 0, none⟩) l.length c) row (i : Int) oki [.int .i64 (kk), .slice A1 o.f1.length c1, .int .i64 (r1), .int .i64 (r1 + 1), .bool ((r1 + 1 + 1) % 3 == 0)]) := ⟨hH2⟩
   have hg3 : W1.grownBy (((W1.setCell ⟨g, i * 5 + 2, none⟩ (.int .i64 (r1))).setCell ⟨g, i * 5 + 3, none⟩ (.int .i64 (r1 + 1))).setCell ⟨g, i * 5 + 4, none⟩ (.bool ((r1 + 1 + 1) % 3 == 0))) (some g) := hg2
   have HF' := Aside0.mk (Fr.trans HF.out (Fr.of_grown (S := fun j => j = g) hg3 (fun j e => by injection e)) (fun j hj _ => by subst hj; exact HGO.out))
   have HR1' := Aside0.mk (Kd.S_grown HR1.out hg3 (fun b hb e => (HOKI.out b hb.1).2 (by injection e)))
   generalize (((W1.setCell ⟨g, i * 5 + 2, none⟩ (.int .i64 (r1))).setCell ⟨g, i * 5 + 3, none⟩ (.int .i64 (r1 + 1))).setCell ⟨g, i * 5 + 4, none⟩ (.bool ((r1 + 1 + 1) % 3 == 0))) = W2 at HH' HF' HR1' ⊢
   clear hH2 hg2 hg3 HH HF HR1 c2_ z2_ c3_ z3_ c4_ z4_
   have HH := HH'
   have HF := HF'
   have HR1 := HR1'
   clear HH' HF' HR1'
   have HX : Aside0 (mkGraphP o kk r1 = mkGraph o kk) := ⟨by unfold mkGraph; rw [RR1.out]⟩
   have hl1 : o.f1.length = (mkGraphP o kk r1).f1.length := by show _ = (mkS _ _ _ _).length; rw [mkS_len]
   have hs9 := Kd.H_back HH.out (kGraph_mkM W2 base (fun b => oki b ∧ base ≤ b) (mkGraphP o kk r1) (v1 := .slice A1 o.f1.length c1) HR1.out) (fun b hb => hb.1)
   rw [HX.out, HSET.out] at hs9
   have HS9 := Aside0.mk hs9
   clear hs9 hl1
   clear HH HR1
   go_wp2
   go_roundw
   case rel => exact ⟨i + 1, r1 + 1 + 1 + 1, by omega, by have := HKK.out; have := HCM.out; have := RR1.out; omega, by go_num, rfl, HS9, HF⟩
   case measure => simp [intOf]; omega
  ·have hke : i = l.length := by omega
   subst hke
   have g1 : decide (l.length < l.length) = false := decide_eq_false (by omega)
   have hR := HS.out
   rw [List.drop_of_length_le (Nat.le_refl _), List.append_nil, List.take_length] at hR
   rw [List.take_length] at hkk
   have HR2 := Aside0.mk (Kd.S_mono hR (fun j hj => hj.1))
   have HKK := Aside0.mk hkk
   clear hR hkk
   go_wp2
   go_ret
   exact ⟨by (rw [HKK.out]; try rfl), HR2.out, HF.out⟩
set_option maxHeartbeats 8000000 in
set_option maxRecDepth 100000 in
theorem markRuleS_any (base : Nat) (ok : Nat → Prop) (v : Value) (l : List TRule) (k : Int) (w : World) (hk : 0 ≤ k) (hk2 : k + (cmS cmRule l : Int) ≤ 4611686018427387904) (hS : Kd.S kRule 52 w base ok v l) :
  Calls Tryz.prog 29 #[v, .int .i64 k] w fun e w' => e = .returned (.int .i64 (k + (cmS cmRule l : Int))) ∧ Kd.S kRule 52 w' base ok v (mkS mkRule cmRule l k) ∧ Fr (fun j => ok j ∧ base ≤ j) w w' := by
 obtain ⟨A, c, rfl⟩ := Kd.S_slice hS
 have hn := (S_isS hS).2.len
 have h00 : mkS mkRule cmRule (l.take 0) k ++ l.drop 0 = l := by simp [mkS]
 have HS0 : Aside0 (Kd.S kRule 52 w base (fun j => ok j ∧ base ≤ j) (.slice A l.length c) (mkS mkRule cmRule (l.take 0) k ++ l.drop 0)) := ⟨by rw [h00]; exact Kd.S_mono (Kd.S_bound hS) (fun j hj => ⟨hj.1, hj.2.1⟩)⟩
 have HF0 : Aside0 (Fr (fun j => ok j ∧ base ≤ j) w w) := ⟨Fr.refl _ _⟩
 clear h00 hS
 go_enter Tryz.func29, Tryz.ntmps29
 go_wp2
 go_loopw [1, 5] (fun v1 vi wr => ∃ (i : Nat) (kk : Int), i ≤ l.length ∧ kk = k + (cmS cmRule (l.take i) : Int) ∧ vi = .int .i64 i ∧ v1 = .int .i64 kk ∧ Aside0 (Kd.S kRule 52 wr base (fun j => ok j ∧ base ≤ j) (.slice A l.length c) (mkS mkRule cmRule (l.take i) k ++ l.drop i)) ∧ Aside0 (Fr (fun j => ok j ∧ base ≤ j) w wr)) (fun _ vi _ => l.length - (intOf vi).toNat)
 case atStart => exact ⟨0, k, Nat.zero_le _, by simp [cmS], rfl, rfl, HS0, HF0⟩
 case round =>
  clear HS0 HF0
  obtain ⟨i, kk, hi, hkk, rfl, rfl, HS, HF⟩ := hrel
  by_cases hlt : i < l.length
  ·have g1 : decide (i < l.length) = true := decide_eq_true hlt
   have i1 : (i : Int) < l.length := by omega
   have hpl : (mkS mkRule cmRule (l.take i) k).length = i := by rw [mkS_len, List.length_take]; omega
   have hlen : (mkS mkRule cmRule (l.take i) k ++ l.drop i).length = l.length := mid_length _ _ _ hpl hi
   have hwt := cmS_snoc cmRule zRule l i hlt
   have hwl := cmS_le cmRule l (i + 1)
   have HSET := Aside0.mk (show (mkS mkRule cmRule (l.take i) k ++ l.drop i).set ((i : Int)).toNat (mkRule (l.getD i zRule) kk) = mkS mkRule cmRule (l.take (i + 1)) k ++ l.drop (i + 1) by
    rw [Int.toNat_natCast, mid_set _ _ _ _ hpl hlt, mkS_snoc mkRule cmRule zRule l i hlt k, hkk])
   have hgd := mid_getD (mkS mkRule cmRule (l.take i) k) l i zRule hpl
   obtain ⟨g, cap, hv, hgb, hgl, hcl⟩ := Kd.S_form HS.out (by omega)
   injection hv with hA hl2 hc2
   subst hA
   clear hl2 hc2 hcl hgl
   obtain ⟨oki, ce, hce1, hM, hcc, hfr, hoki, hH⟩ := Kd.S_elem HS.out zRule (i : Int) (by omega) (by omega)
   rw [Int.toNat_natCast] at hM
   rw [hgd] at hM
   have hk0 : 0 ≤ kk := by omega
   have hk1 : kk + (cmRule (l.getD i zRule) : Int) ≤ 4611686018427387904 := by omega
   have HKK : Aside0 (kk + (cmRule (l.getD i zRule) : Int) = k + (cmS cmRule (l.take (i + 1)) : Int)) := ⟨by omega⟩
   have HGO := Aside0.mk ((Kd.S_R HS.out).1 g (by simp [Value.ownBlock]))
   clear hwt hwl hkk hpl hlen hgd hcc hfr hce1
   generalize l.getD i zRule = o at hM hk1 HSET HKK
   generalize mkS mkRule cmRule (l.take i) k ++ l.drop i = row at hH HSET HS
   obtain ⟨v6, rfl, e6⟩ := kRule_openM hM
   obtain ⟨A6, c6, rfl⟩ := Kd.S_slice e6
   have HOKI := Aside0.mk hoki
   have HR6 : Aside0 (Kd.S (kE 50) 50 wr base (fun b => oki b ∧ base ≤ b) (.slice A6 o.f3.f3.length c6) o.f3.f3) := ⟨Kd.S_mono (Kd.S_bound e6) (fun b hb => ⟨hb.1, hb.2.1⟩)⟩
   have HH := Aside0.mk hH
   clear hoki hH hM  e6
   have hcm : (cmRule o : Int) = (11 : Int) + 3 * (cntL o.f3.f3 : Int) := by unfold cmRule; omega
   rw [hcm] at hk1
   have HCM := Aside0.mk hcm
   clear hcm
   obtain ⟨hcc, hfr⟩ := H_cells HH.out (by omega) (by omega)
   rw [Int.toNat_natCast] at hcc hfr
   clear hcc hfr
   go_upto_region 6 with (go_at_call 63; refine (markText_any (kk) (by omega) _).mono ?_; rintro e wt ⟨rfl, hbt⟩; have HHt := Aside0.mk (Kd.H_below HH.out hbt); have HFt := Aside0.mk (Fr.trans HF.out (Fr.of_below (S := fun j => ok j ∧ base ≤ j) hbt) (fun j hj _ => hj)); have HRt6 := Aside0.mk (Kd.S_below HR6.out hbt); obtain ⟨hcc, hfr⟩ := H_cells HHt.out (by omega) (by omega); rw [Int.toNat_natCast] at hcc hfr; have c0_ : wt.cell? ⟨g, i * 12, none⟩ = some (.string o.f0) := hcc 0 _ rfl; have z0_ : wt.frozen? ⟨g, i * 12, none⟩ = false := hfr 0; clear hcc hfr hbt)
   clear HH HF HR6
   have HH := HHt
   have HF := HFt
   have HR6 := HRt6
   clear HHt HFt HRt6
   obtain ⟨hH2, hg2⟩ := Kd.H_seg HH.out (by omega) (by omega) (seg := [.string (bs (markB (kk)))]) (j := 0) (show 0 + 1 ≤ 12 by decide) (by intro q hq; simp at hq; rcases hq with rfl <;> rfl)
   rw [Int.toNat_natCast] at hH2 hg2
   have HH' : Aside0 (Kd.H kRule 52 (wt.setCell ⟨g, i * 12, none⟩ (.string (bs (markB (kk))))) base (fun j => ok j ∧ base ≤ j) (.slice (some ⟨g, 0, none⟩) l.length c) row (i : Int) oki [.string (bs (markB (kk))), .int .i64 o.f1, .int .i64 o.f2, .int .i64 o.f3.f0, .int .i64 o.f3.f1, .int .i64 o.f3.f2, .slice A6 o.f3.f3.length c6, .int .i64 o.f4, .int .i64 o.f5, .int .i64 o.f6, .int .i64 o.f7, .int .i64 o.f8]) := ⟨hH2⟩
   have hg3 : wt.grownBy (wt.setCell ⟨g, i * 12, none⟩ (.string (bs (markB (kk))))) (some g) := hg2
   have HF' := Aside0.mk (Fr.trans HF.out (Fr.of_grown (S := fun j => j = g) hg3 (fun j e => by injection e)) (fun j hj _ => by subst hj; exact HGO.out))
   have HR6' := Aside0.mk (Kd.S_grown HR6.out hg3 (fun b hb e => (HOKI.out b hb.1).2 (by injection e)))
   generalize (wt.setCell ⟨g, i * 12, none⟩ (.string (bs (markB (kk))))) = W0 at HH' HF' HR6' ⊢
   clear hH2 hg2 hg3 HH HF HR6 c0_ z0_
   have HH := HH'
   have HF := HF'
   have HR6 := HR6'
   clear HH' HF' HR6'
   obtain ⟨hcc, hfr⟩ := H_cells HH.out (by omega) (by omega)
   rw [Int.toNat_natCast] at hcc hfr
   have c1_ : W0.cell? ⟨g, i * 12 + 1, none⟩ = some (.int .i64 o.f1) := hcc 1 _ rfl
   have z1_ : W0.frozen? ⟨g, i * 12 + 1, none⟩ = false := hfr 1
   have c2_ : W0.cell? ⟨g, i * 12 + 2, none⟩ = some (.int .i64 o.f2) := hcc 2 _ rfl
   have z2_ : W0.frozen? ⟨g, i * 12 + 2, none⟩ = false := hfr 2
   have c3_ : W0.cell? ⟨g, i * 12 + 3, none⟩ = some (.int .i64 o.f3.f0) := hcc 3 _ rfl
   have z3_ : W0.frozen? ⟨g, i * 12 + 3, none⟩ = false := hfr 3
   have c4_ : W0.cell? ⟨g, i * 12 + 4, none⟩ = some (.int .i64 o.f3.f1) := hcc 4 _ rfl
   have z4_ : W0.frozen? ⟨g, i * 12 + 4, none⟩ = false := hfr 4
   have c5_ : W0.cell? ⟨g, i * 12 + 5, none⟩ = some (.int .i64 o.f3.f2) := hcc 5 _ rfl
   have z5_ : W0.frozen? ⟨g, i * 12 + 5, none⟩ = false := hfr 5
   clear hcc hfr
   go_upto_region 16 with fail
   obtain ⟨hH2, hg2⟩ := Kd.H_seg HH.out (by omega) (by omega) (seg := [.int .i64 (kk + 1), .int .i64 (kk + 1 + 1), .int .i64 (kk + 1 + 1 + 1), .int .i64 (kk + 1 + 1 + 1 + 1), .int .i64 (kk + 1 + 1 + 1 + 1 + 1)]) (j := 1) (show 1 + 5 ≤ 12 by decide) (by intro q hq; simp at hq; rcases hq with rfl | rfl | rfl | rfl | rfl <;> rfl)
   rw [Int.toNat_natCast] at hH2 hg2
   have HH' : Aside0 (Kd.H kRule 52 (((((W0.setCell ⟨g, i * 12 + 1, none⟩ (.int .i64 (kk + 1))).setCell ⟨g, i * 12 + 2, none⟩ (.int .i64 (kk + 1 + 1))).setCell ⟨g, i * 12 + 3, none⟩ (.int .i64 (kk + 1 + 1 + 1))).setCell ⟨g, i * 12 + 4, none⟩ (.int .i64 (kk + 1 + 1 + 1 + 1))).setCell ⟨g, i * 12 + 5, none⟩ (.int .i64 (kk + 1 + 1 + 1 + 1 + 1))) base (fun j => ok j ∧ base ≤ j) (.slice (some ⟨g, 0, none⟩) l.length c) row (i : Int) oki [.string (bs (markB (kk))), .int .i64 (kk + 1), .int .i64 (kk + 1 + 1), .int .i64 (kk + 1 + 1 + 1), .int .i64 (kk + 1 + 1 + 1 + 1), .int .i64 (kk + 1 + 1 + 1 + 1 + 1), .slice A6 o.f3.f3.length c6, .int .i64 o.f4, .int .i64 o.f5, .int .i64 o.f6, .int .i64 o.f7, .int .i64 o.f8]) := ⟨hH2⟩
   have hg3 : W0.grownBy (((((W0.setCell ⟨g, i * 12 + 1, none⟩ (.int .i64 (kk + 1))).setCell ⟨g, i * 12 + 2, none⟩ (.int .i64 (kk + 1 + 1))).setCell ⟨g, i * 12 + 3, none⟩ (.int .i64 (kk + 1 + 1 + 1))).setCell ⟨g, i * 12 + 4, none⟩ (.int .i64 (kk + 1 + 1 + 1 + 1))).setCell ⟨g, i * 12 + 5, none⟩ (.int .i64 (kk + 1 + 1 + 1 + 1 + 1))) (some g) := hg2
   have HF' := Aside0.mk (Fr.trans HF.out (Fr.of_grown (S := fun j => j = g) hg3 (fun j e => by injection e)) (fun j hj _ => by subst hj; exact HGO.out))
   have HR6' := Aside0.mk (Kd.S_grown HR6.out hg3 (fun b hb e => (HOKI.out b hb.1).2 (by injection e)))
   generalize (((((W0.setCell ⟨g, i * 12 + 1, none⟩ (.int .i64 (kk + 1))).setCell ⟨g, i * 12 + 2, none⟩ (.int .i64 (kk + 1 + 1))).setCell ⟨g, i * 12 + 3, none⟩ (.int .i64 (kk + 1 + 1 + 1))).setCell ⟨g, i * 12 + 4, none⟩ (.int .i64 (kk + 1 + 1 + 1 + 1))).setCell ⟨g, i * 12 + 5, none⟩ (.int .i64 (kk + 1 + 1 + 1 + 1 + 1))) = W1 at HH' HF' HR6' ⊢
   clear hH2 hg2 hg3 HH HF HR6 c1_ z1_ c2_ z2_ c3_ z3_ c4_ z4_ c5_ z5_
   have HH := HH'
   have HF := HF'
   have HR6 := HR6'
   clear HH' HF' HR6'
   obtain ⟨hcc, hfr⟩ := H_cells HH.out (by omega) (by omega)
   rw [Int.toNat_natCast] at hcc hfr
   have c6_ : W1.cell? ⟨g, i * 12 + 6, none⟩ = some (.slice A6 o.f3.f3.length c6) := hcc 6 _ rfl
   clear hcc hfr
   obtain ⟨r6, hr6⟩ : ∃ r : Int, r = kk + 1 + 1 + 1 + 1 + 1 + 1 + 3 * (cntL o.f3.f3 : Int) := ⟨_, rfl⟩
   have RR6 := Aside0.mk hr6
   clear hr6
   go_upto_region 17 with (go_at_call 64; refine (markExS_any o.f3.f3 base (fun b => oki b ∧ base ≤ b) (.slice A6 o.f3.f3.length c6) (kk + 1 + 1 + 1 + 1 + 1 + 1) _ (by omega) (by omega) HR6.out).mono ?_; rintro e W2 ⟨rfl, hs, hf⟩; rw [← RR6.out]; have hs2 := hs; have hf2 : Fr (fun b => oki b ∧ base ≤ b) W1 W2 := hf.mono (fun b hb _ => hb.1); have HH' := Aside0.mk (Kd.H_step HH.out (fun b hb hn hlt => hf2.block b hlt (fun h => hn h.1))); have HF' := Aside0.mk (Fr.trans HF.out hf2 (fun b hb _ => (HOKI.out b hb.1).1)); have HR6' := Aside0.mk hs2; clear hs hf hs2 hf2)
   clear HH HF HR6 c6_
   have HH := HH'
   have HF := HF'
   have HR6 := HR6'
   clear HH' HF' HR6'
   have hb6 : 0 ≤ r6 := by have := RR6.out; omega
   have hk16 : r6 + (5 : Int) ≤ 4611686018427387904 := by have := RR6.out; omega
   obtain ⟨hcc, hfr⟩ := H_cells HH.out (by omega) (by omega)
   rw [Int.toNat_natCast] at hcc hfr
   have c7_ : W2.cell? ⟨g, i * 12 + 7, none⟩ = some (.int .i64 o.f4) := hcc 7 _ rfl
   have z7_ : W2.frozen? ⟨g, i * 12 + 7, none⟩ = false := hfr 7
   have c8_ : W2.cell? ⟨g, i * 12 + 8, none⟩ = some (.int .i64 o.f5) := hcc 8 _ rfl
   have z8_ : W2.frozen? ⟨g, i * 12 + 8, none⟩ = false := hfr 8
   have c9_ : W2.cell? ⟨g, i * 12 + 9, none⟩ = some (.int .i64 o.f6) := hcc 9 _ rfl
   have z9_ : W2.frozen? ⟨g, i * 12 + 9, none⟩ = false := hfr 9
   have c10_ : W2.cell? ⟨g, i * 12 + 10, none⟩ = some (.int .i64 o.f7) := hcc 10 _ rfl
   have z10_ : W2.frozen? ⟨g, i * 12 + 10, none⟩ = false := hfr 10
   have c11_ : W2.cell? ⟨g, i * 12 + 11, none⟩ = some (.int .i64 o.f8) := hcc 11 _ rfl
   have z11_ : W2.frozen? ⟨g, i * 12 + 11, none⟩ = false := hfr 11
   clear hcc hfr
   go_upto_region 3 with fail
   obtain ⟨hH2, hg2⟩ := Kd.H_seg HH.out (by omega) (by omega) (seg := [.int .i64 (r6), .int .i64 (r6 + 1), .int .i64 (r6 + 1 + 1), .int .i64 (r6 + 1 + 1 + 1), .int .i64 (r6 + 1 + 1 + 1 + 1)]) (j := 7) (show 7 + 5 ≤ 12 by decide) (by intro q hq; simp at hq; rcases hq with rfl | rfl | rfl | rfl | rfl <;> rfl)
   rw [Int.toNat_natCast] at hH2 hg2
   have HH' : Aside0 (Kd.H kRule 52 (((((W2.setCell ⟨g, i * 12 + 7, none⟩ (.int .i64 (r6))).setCell ⟨g, i * 12 + 8, none⟩ (.int .i64 (r6 + 1))).setCell ⟨g, i * 12 + 9, none⟩ (.int .i64 (r6 + 1 + 1))).setCell ⟨g, i * 12 + 10, none⟩ (.int .i64 (r6 + 1 + 1 + 1))).setCell ⟨g, i * 12 + 11, none⟩ (.int .i64 (r6 + 1 + 1 + 1 + 1))) base (fun j => ok j ∧ base ≤ j) (.slice (some ⟨g, 0, none⟩) l.length c) row (i : Int) oki [.string (bs (markB (kk))), .int .i64 (kk + 1), .int .i64 (kk + 1 + 1), .int .i64 (kk + 1 + 1 + 1), .int .i64 (kk + 1 + 1 + 1 + 1), .int .i64 (kk + 1 + 1 + 1 + 1 + 1), .slice A6 o.f3.f3.length c6, .int .i64 (r6), .int .i64 (r6 + 1), .int .i64 (r6 + 1 + 1), .int .i64 (r6 + 1 + 1 + 1), .int .i64 (r6 + 1 + 1 + 1 + 1)]) := ⟨hH2⟩
   have hg3 : W2.grownBy (((((W2.setCell ⟨g, i * 12 + 7, none⟩ (.int .i64 (r6))).setCell ⟨g, i * 12 + 8, none⟩ (.int .i64 (r6 + 1))).setCell ⟨g, i * 12 + 9, none⟩ (.int .i64 (r6 + 1 + 1))).setCell ⟨g, i * 12 + 10, none⟩ (.int .i64 (r6 + 1 + 1 + 1))).setCell ⟨g, i * 12 + 11, none⟩ (.int .i64 (r6 + 1 + 1 + 1 + 1))) (some g) := hg2
   have HF' := Aside0.mk (Fr.trans HF.out (Fr.of_grown (S := fun j => j = g) hg3 (fun j e => by injection e)) (fun j hj _ => by subst hj; exact HGO.out))
   have HR6' := Aside0.mk (Kd.S_grown HR6.out hg3 (fun b hb e => (HOKI.out b hb.1).2 (by injection e)))
   generalize (((((W2.setCell ⟨g, i * 12 + 7, none⟩ (.int .i64 (r6))).setCell ⟨g, i * 12 + 8, none⟩ (.int .i64 (r6 + 1))).setCell ⟨g, i * 12 + 9, none⟩ (.int .i64 (r6 + 1 + 1))).setCell ⟨g, i * 12 + 10, none⟩ (.int .i64 (r6 + 1 + 1 + 1))).setCell ⟨g, i * 12 + 11, none⟩ (.int .i64 (r6 + 1 + 1 + 1 + 1))) = W3 at HH' HF' HR6' ⊢
   clear hH2 hg2 hg3 HH HF HR6 c7_ z7_ c8_ z8_ c9_ z9_ c10_ z10_ c11_ z11_
   have HH := HH'
   have HF := HF'
   have HR6 := HR6'
   clear HH' HF' HR6'
   have HX : Aside0 (mkRuleP o kk r6 = mkRule o kk) := ⟨by unfold mkRule; rw [RR6.out]⟩
   have hl6 : o.f3.f3.length = (mkRuleP o kk r6).f3.f3.length := by show _ = (mkL _ _).length; rw [mkL_length]
   have hs9 := Kd.H_back HH.out (kRule_mkM W3 base (fun b => oki b ∧ base ≤ b) (mkRuleP o kk r6) (v6 := .slice A6 o.f3.f3.length c6) HR6.out) (fun b hb => hb.1)
   rw [HX.out, HSET.out] at hs9
   have HS9 := Aside0.mk hs9
   clear hs9 hl6
   clear HH HR6
   go_wp2
   go_roundw
   case rel => exact ⟨i + 1, r6 + 1 + 1 + 1 + 1 + 1, by omega, by have := HKK.out; have := HCM.out; have := RR6.out; omega, by go_num, rfl, HS9, HF⟩
   case measure => simp [intOf]; omega
  ·have hke : i = l.length := by omega
   subst hke
   have g1 : decide (l.length < l.length) = false := decide_eq_false (by omega)
   have hR := HS.out
   rw [List.drop_of_length_le (Nat.le_refl _), List.append_nil, List.take_length] at hR
   rw [List.take_length] at hkk
   have HR2 := Aside0.mk (Kd.S_mono hR (fun j hj => hj.1))
   have HKK := Aside0.mk hkk
   clear hR hkk
   go_wp2
   go_ret
   exact ⟨by (rw [HKK.out]; try rfl), HR2.out, HF.out⟩
end Go.Proofs.YtckblabkapeigaaGreat.Mk8
