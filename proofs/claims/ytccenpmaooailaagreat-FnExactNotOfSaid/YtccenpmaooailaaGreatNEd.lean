
/- Marks of lists of occurrences: the laws' own functions. -/
import Derived.Test.YtccenpmaooailaaGreatNB7
import Derived.Test.YtccenpmaooailaaGreatNB6
import Derived.Test.YtccenpmaooailaaGreatNEa
set_option linter.unusedVariables false
set_option linter.unusedSimpArgs false
namespace Go.Proofs.YtccenpmaooailaaGreat.Ed
open Go.RowKit Go.Proofs.YtccenpmaooailaaGreatW.PrintWords Go.Proofs.YtccenpmaooailaaGreat.Wd Go.Proofs.YtccenpmaooailaaGreat.Pu Go.Proofs.YtccenpmaooailaaGreat.Pv Go.Proofs.YtccenpmaooailaaGreat.Ca Go.Proofs.YtccenpmaooailaaGreat.Cb Go.Proofs.YtccenpmaooailaaGreat.Cc Go.Proofs.YtccenpmaooailaaGreat.Cp Go.Proofs.YtccenpmaooailaaGreat.Cd Go.Proofs.YtccenpmaooailaaGreat.Ci Go.Proofs.YtccenpmaooailaaGreat.Ce Go.Proofs.YtccenpmaooailaaGreat.Cf Go.Proofs.YtccenpmaooailaaGreat.Cg Go.Proofs.YtccenpmaooailaaGreat.Sc Go.Proofs.YtccenpmaooailaaGreat.Se Go.Proofs.YtccenpmaooailaaGreat.Sh Go.Proofs.YtccenpmaooailaaGreat.Si Go.Proofs.YtccenpmaooailaaGreat.Sp Go.Proofs.YtccenpmaooailaaGreat.Ia Go.Proofs.YtccenpmaooailaaGreat.Ib Go.Proofs.YtccenpmaooailaaGreat.Ic Go.Proofs.YtccenpmaooailaaGreat.Id Go.Proofs.YtccenpmaooailaaGreat.Ie Go.Proofs.YtccenpmaooailaaGreat.If Go.Proofs.YtccenpmaooailaaGreat.Ig Go.Proofs.YtccenpmaooailaaGreat.Ih Go.Proofs.YtccenpmaooailaaGreat.Ij Go.Proofs.YtccenpmaooailaaGreat.Ik Go.Proofs.YtccenpmaooailaaGreat.Ra Go.Proofs.YtccenpmaooailaaGreat.Rb Go.Proofs.YtccenpmaooailaaGreat.Rc Go.Proofs.YtccenpmaooailaaGreat.Rd Go.Proofs.YtccenpmaooailaaGreat.Re Go.Proofs.YtccenpmaooailaaGreat.Sj Go.Proofs.YtccenpmaooailaaGreat.Ya Go.Proofs.YtccenpmaooailaaGreat.Yd Go.Proofs.YtccenpmaooailaaGreat.Yf Go.Proofs.YtccenpmaooailaaGreat.Yg Go.Proofs.YtccenpmaooailaaGreat.Ih Go.Proofs.YtccenpmaooailaaGreat.Yh Go.Proofs.YtccenpmaooailaaGreat.Yi Go.Proofs.YtccenpmaooailaaGreat.Sg Go.Proofs.YtccenpmaooailaaGreat.Sf Go.Proofs.YtccenpmaooailaaGreat.Yj Go.Proofs.YtccenpmaooailaaGreat.Ig Go.Proofs.YtccenpmaooailaaGreat.Yk Go.Proofs.YtccenpmaooailaaGreat.Ik Go.Proofs.YtccenpmaooailaaGreat.Yl Go.Proofs.YtccenpmaooailaaGreat.Ij Go.Proofs.YtccenpmaooailaaGreat.Ym Go.Proofs.YtccenpmaooailaaGreat.Il Go.Proofs.YtccenpmaooailaaGreat.Yn Go.Proofs.YtccenpmaooailaaGreat.Yo Go.Proofs.YtccenpmaooailaaGreat.In Go.Proofs.YtccenpmaooailaaGreat.Yq Go.Proofs.YtccenpmaooailaaGreat.Pw Go.Proofs.YtccenpmaooailaaGreat.Px Go.Proofs.YtccenpmaooailaaGreat.La Go.Proofs.YtccenpmaooailaaGreat.Db Go.Proofs.YtccenpmaooailaaGreat.Sh Go.Proofs.YtccenpmaooailaaGreat.Id Go.Proofs.YtccenpmaooailaaGreat.Ea

/-! marks -/
set_option maxHeartbeats 1000000 in
set_option maxRecDepth 100000 in
theorem markI_any (base : Nat) (ok : Nat → Prop) (A : Option Addr) (c : Nat) (xs : List Int) (k : Int) (w : World) (hk : 0 ≤ k) (hk2 : k + xs.length ≤ 4611686018427387904) (hR : (Kd.int .i64).R 3 w base ok (.slice A xs.length c) xs) :
    Calls Tryz.prog 75 #[.slice A xs.length c, .int .i64 k] w fun e w' => e = .returned (.int .i64 (k + xs.length)) ∧ (Kd.int .i64).R 3 w' base ok (.slice A xs.length c) (mkI k xs.length) ∧ w.grownBy w' (Value.slice A xs.length c).ownBlock := by
  have HR := Aside0.mk hR
  have hn := (Kd.R_reads' hR).2.2.2.1
  clear hR
  have h00 : mkI k 0 ++ xs.drop 0 = xs := by simp [mkI]
  have HR0 : Aside0 ((Kd.int .i64).R 3 w base ok (.slice A xs.length c) (mkI k 0 ++ xs.drop 0)) := ⟨by rw [h00]; exact HR.out⟩
  have HG0 : Aside0 (w.grownBy w (Value.slice A xs.length c).ownBlock) := ⟨grown_of_below (Below.refl _ _) _⟩
  clear h00 HR
  go_enter Tryz.func75, Tryz.ntmps75
  go_wp2
  go_loopw [1, 5] (fun v1 vi wr => ∃ (i : Nat) (kk : Int), i ≤ xs.length ∧ kk = k + i ∧ vi = .int .i64 i ∧ v1 = .int .i64 kk ∧ Aside0 ((Kd.int .i64).R 3 wr base ok (.slice A xs.length c) (mkI k i ++ xs.drop i)) ∧ Aside0 (w.grownBy wr (Value.slice A xs.length c).ownBlock)) (fun _ vi _ => xs.length - (intOf vi).toNat)
  case atStart => exact ⟨0, k, Nat.zero_le _, by simp, rfl, rfl, HR0, HG0⟩
  case round =>
    clear HR0 HG0
    obtain ⟨i, kk, hi, hkk, rfl, rfl, HR, HG⟩ := hrel
    by_cases hlt : i < xs.length
    · have g1 : decide (i < xs.length) = true := decide_eq_true hlt
      have i1 : (i : Int) < xs.length := by omega
      have hlen : (mkI k i ++ xs.drop i).length = xs.length := mid_length _ _ _ (mkI_length _ _) hi
      have hset : (mkI k i ++ xs.drop i).set i kk = mkI k (i + 1) ++ xs.drop (i + 1) := by
        rw [mid_set _ _ _ _ (mkI_length _ _) hlt, hkk, mkI_snoc]
      obtain ⟨g, cap, hv, hgb, hgl, hcl⟩ := Kd.R_form HR.out (by omega)
      injection hv with hA hl2 hc2
      subst hA
      clear hl2 hc2 hcl hgl hgb
      have hce := Kd.R_celln (0 : Int) HR.out (i : Int) (by omega) (by omega)
      have hpp := Kd.R_putg HR.out (i : Int) kk
      rw [Int.toNat_natCast] at hce hpp
      rw [hset] at hpp
      have hk0 : 0 ≤ kk := by omega
      have hk1 : kk + 1 ≤ 4611686018427387904 := by omega
      have HKK := Aside0.mk hkk
      obtain ⟨h0, h1⟩ := hce
      have HS := Aside0.mk hpp.1
      have HGS := Aside0.mk (World.grownBy.trans HG.out hpp.2)
      clear hpp hlen hset hkk
      go_wp2
      go_roundw
      case rel => exact ⟨i + 1, kk + 1, by omega, by have := HKK.out; omega, by go_num, rfl, HS, HGS⟩
      case measure => simp [intOf]; omega
    · have hke : i = xs.length := by omega
      subst hke
      have g1 : decide (xs.length < xs.length) = false := decide_eq_false (by omega)
      have hR := HR.out
      rw [List.drop_of_length_le (Nat.le_refl _), List.append_nil] at hR
      have HR2 := Aside0.mk hR
      have HKK := Aside0.mk hkk
      clear hR hkk
      go_wp2
      go_ret
      exact ⟨by (rw [HKK.out]; try rfl), HR2.out, HG.out⟩
set_option maxHeartbeats 2000000 in
set_option maxRecDepth 100000 in
theorem markO_any (base : Nat) (ok : Nat → Prop) (v : Value) (l : List Occ) (k : Int) (w : World) (hk : 0 ≤ k) (hk2 : k + wtO l ≤ 4611686018427387904) (hS : SS w base ok v l) :
    Calls Tryz.prog 36 #[v, .int .i64 k] w fun e w' => e = .returned (.int .i64 (k + wtO l)) ∧ SS w' base ok v (mkO k l) ∧ Fr (fun j => ok j ∧ base ≤ j) w w' := by
  obtain ⟨A, c, rfl⟩ := Kd.S_slice hS
  have hn := (C_len (Kd.S_reads' hS).2.2).2
  have h00 : mkO k (l.take 0) ++ l.drop 0 = l := by simp [mkO]
  have HS0 : Aside0 (SS w base (fun j => ok j ∧ base ≤ j) (.slice A l.length c) (mkO k (l.take 0) ++ l.drop 0)) := ⟨by rw [h00]; exact Kd.S_mono (Kd.S_bound hS) (fun j hj => ⟨hj.1, hj.2.1⟩)⟩
  have HF0 : Aside0 (Fr (fun j => ok j ∧ base ≤ j) w w) := ⟨Fr.refl _ _⟩
  clear h00 hS
  go_enter Tryz.func36, Tryz.ntmps36
  go_wp2
  go_loopw [1, 5] (fun v1 vi wr => ∃ (i : Nat) (kk : Int), i ≤ l.length ∧ kk = k + (wtO (l.take i) : Int) ∧ vi = .int .i64 i ∧ v1 = .int .i64 kk ∧ Aside0 (SS wr base (fun j => ok j ∧ base ≤ j) (.slice A l.length c) (mkO k (l.take i) ++ l.drop i)) ∧ Aside0 (Fr (fun j => ok j ∧ base ≤ j) w wr)) (fun _ vi _ => l.length - (intOf vi).toNat)
  case atStart => exact ⟨0, k, Nat.zero_le _, by simp [wtO], rfl, rfl, HS0, HF0⟩
  case round =>
    clear HS0 HF0
    obtain ⟨i, kk, hi, hkk, rfl, rfl, HS, HF⟩ := hrel
    by_cases hlt : i < l.length
    · have g1 : decide (i < l.length) = true := decide_eq_true hlt
      have i1 : (i : Int) < l.length := by omega
      have hpl : (mkO k (l.take i)).length = i := by rw [mkO_length, List.length_take]; omega
      have hlen : (mkO k (l.take i) ++ l.drop i).length = l.length := mid_length _ _ _ hpl hi
      have hwt := wtO_snoc l i hlt
      have hwl := wtO_take_le l (i + 1)
      have HSET := Aside0.mk (show (mkO k (l.take i) ++ l.drop i).set ((i : Int)).toNat (mk1 kk (l.getD i zO)) = mkO k (l.take (i + 1)) ++ l.drop (i + 1) by
        rw [Int.toNat_natCast, mid_set _ _ _ _ hpl hlt, mkO_snoc k l i hlt, hkk])
      have hgd := mid_getD (mkO k (l.take i)) l i zO hpl
      obtain ⟨g, cap, hv, hgb, hgl, hcl⟩ := Kd.S_form HS.out (by omega)
      injection hv with hA hl2 hc2
      subst hA
      clear hl2 hc2 hcl hgl
      obtain ⟨oki, ce, hce1, hM, hcc, hfr, hoki, hH⟩ := Kd.S_elem HS.out zO (i : Int) (by omega) (by omega)
      rw [Int.toNat_natCast] at hM hcc hfr
      rw [hgd] at hM
      have hk0 : 0 ≤ kk := by omega
      have hk1 : kk + (2 + (l.getD i zO).f2.length) ≤ 4611686018427387904 := by omega
      have HKK : Aside0 (kk + (2 + ((l.getD i zO).f2.length : Int)) = k + (wtO (l.take (i + 1)) : Int)) := ⟨by omega⟩
      clear hwt hwl hkk hpl hlen hgd
      generalize l.getD i zO = o at hM hk1 HSET HKK
      obtain ⟨v2, hce, hR2⟩ := kO_openM hM
      subst hce
      obtain ⟨A2, c2, rfl⟩ := Kd.R_slice hR2
      have e0 : wr.cell? ⟨g, i * 3, none⟩ = some (.int .i64 o.f0) := hcc 0 _ rfl
      have e1 : wr.cell? ⟨g, i * 3 + 1, none⟩ = some (.int .i64 o.f1) := hcc 1 _ rfl
      have e2 : wr.cell? ⟨g, i * 3 + 2, none⟩ = some (.slice A2 o.f2.length c2) := hcc 2 _ rfl
      have z0 : wr.frozen? ⟨g, i * 3, none⟩ = false := hfr 0
      have z1 : wr.frozen? ⟨g, i * 3 + 1, none⟩ = false := hfr 1
      obtain ⟨hH2, hg2⟩ := Kd.H_seg hH (by omega) (by omega) (seg := [.int .i64 kk, .int .i64 (kk + 1)]) (j := 0) (show 0 + 2 ≤ 3 by decide) (by intro q hq; simp at hq; rcases hq with rfl | rfl <;> rfl)
      rw [Int.toNat_natCast] at hH2 hg2
      have hf2 : Fr (fun j => ok j ∧ base ≤ j) w (wr.setCells g (i * kO.sz + 0) [.int .i64 kk, .int .i64 (kk + 1)]) := Fr.trans HF.out (Fr.of_grown (S := fun j => j = g) hg2 (fun j e => by injection e)) (fun j hj _ => by subst hj; exact (Kd.S_R HS.out).1 j (by simp [Value.ownBlock]))
      have hR3 := Kd.R_grown hR2 hg2 (fun j hj e => (hoki j hj).2 (by injection e))
      obtain ⟨W2, hW2⟩ : ∃ W2, W2 = wr.setCells g (i * kO.sz + 0) [.int .i64 kk, .int .i64 (kk + 1)] := ⟨_, rfl⟩
      have e22 : W2.cell? ⟨g, i * 3 + 2, none⟩ = some (.slice A2 o.f2.length c2) := by
        rw [hW2]
        show ((wr.setCell ⟨g, i * 3 + 0, none⟩ (.int .i64 kk)).setCell ⟨g, i * 3 + 0 + 1, none⟩ (.int .i64 (kk + 1))).cell? ⟨g, i * 3 + 2, none⟩ = _
        exact (World.cell?_setCell_other _ ⟨g, i * 3 + 0 + 1, none⟩ ⟨g, i * 3 + 2, none⟩ _ (by simp)).trans ((World.cell?_setCell_other _ ⟨g, i * 3 + 0, none⟩ ⟨g, i * 3 + 2, none⟩ _ (by simp)).trans e2)
      rw [← hW2] at hH2 hf2 hR3
      have HH2 := Aside0.mk hH2
      have HF2 := Aside0.mk hf2
      have HR3 := Aside0.mk hR3
      have HOKI := Aside0.mk hoki
      have HW2 := Aside0.mk (hW2.trans (show _ = (wr.setCell ⟨g, i * 3, none⟩ (.int .i64 kk)).setCell ⟨g, i * 3 + 1, none⟩ (.int .i64 (kk + 1)) from rfl))
      clear hH2 hf2 hR3 hW2 hoki hH hg2 hM hcc hfr hce1 hR2
      go_upto_region 8 with fail
      rw [← HW2.out]
      obtain ⟨r, hr⟩ : ∃ r : Int, r = kk + 1 + 1 + o.f2.length := ⟨_, rfl⟩
      have HRR := Aside0.mk hr
      clear hr e0 e1 e2 z0 z1
      go_wp2_with (go_at_call 75; refine (markI_any base oki A2 c2 o.f2 (kk + 1 + 1) _ (by omega) (by omega) HR3.out).mono ?_; rintro e w3 ⟨rfl, hr3, hg3⟩; rw [← HRR.out]; have hs3 := Kd.H_back (Kd.H_grown HH2.out hg3 (fun j hj => HR3.out.1 j hj)) (x' := mk1 kk o) (kO_mkM w3 base oki (mk1 kk o) hr3) (fun _ h => h); rw [HSET.out] at hs3; have HS3 := Aside0.mk hs3; have HF3 := Aside0.mk (Fr.trans HF2.out (Fr.of_grown (S := fun j => oki j) hg3 (fun j e => HR3.out.1 j e.symm)) (fun j hj _ => (HOKI.out j hj).1)); clear hr3 hg3 hs3)
      go_roundw
      case rel => exact ⟨i + 1, r, by omega, by have := HKK.out; have := HRR.out; omega, by go_num, rfl, HS3, HF3⟩
      case measure => simp [intOf]; omega
    · have hke : i = l.length := by omega
      subst hke
      have g1 : decide (l.length < l.length) = false := decide_eq_false (by omega)
      have hR := HS.out
      rw [List.drop_of_length_le (Nat.le_refl _), List.append_nil, List.take_length] at hR
      rw [List.take_length] at hkk
      have HR2 := Aside0.mk (Kd.S_mono hR (fun j hj => hj.1))
      have HKK := Aside0.mk hkk
      clear hR hkk
      go_wp2
      go_ret
      exact ⟨by (rw [HKK.out]; try rfl), HR2.out, HF.out⟩

/-! marks that still stand -/
set_option maxRecDepth 100000 in
theorem heldI_any (A : Option Addr) (n c : Nat) (k : Int) (w : World) (hk : 0 ≤ k) (hk2 : k + n ≤ 4611686018427387904) (hC : (Kd.int .i64).C w A n (mkI k n)) :
    Calls Tryz.prog 76 #[.slice A n c, .int .i64 k] w fun e w' => e = .returned (.int .i64 (k + n)) ∧ Below w.heap.size w w' := by
  have hn := (C_len hC).2
  go_enter Tryz.func76, Tryz.ntmps76
  go_wp2
  go_loopw [1, 5] (fun v1 vi wr => ∃ (i : Nat) (kk : Int), i ≤ n ∧ kk = k + i ∧ vi = .int .i64 i ∧ v1 = .int .i64 kk ∧ Aside0 (Below w.heap.size w wr)) (fun _ vi _ => n - (intOf vi).toNat)
  case atStart => exact ⟨0, k, Nat.zero_le _, by simp, rfl, rfl, ⟨Below.refl _ _⟩⟩
  case round =>
    obtain ⟨i, kk, hi, hkk, rfl, rfl, HB⟩ := hrel
    by_cases hlt : i < n
    · have g1 : decide (i < n) = true := decide_eq_true hlt
      have i1 : (i : Int) < n := by omega
      obtain ⟨ad, rfl, hc⟩ := at1 (Kd.C_below hC HB.out) i hlt
      rw [mkI_getD k n i hlt, ← hkk] at hc
      have hx : (kk != kk) = false := by simp
      have hk0 : 0 ≤ kk := by omega
      have hk1 : kk + 1 ≤ 4611686018427387904 := by omega
      have HKK := Aside0.mk hkk
      clear hkk
      go_wp2
      go_roundw
      case rel => exact ⟨i + 1, kk + 1, by omega, by have := HKK.out; omega, by go_num, rfl, HB⟩
      case measure => simp [intOf]; omega
    · have hke : i = n := by omega
      subst hke
      have g1 : decide (i < i) = false := decide_eq_false (by omega)
      have HKK := Aside0.mk hkk
      clear hkk
      go_wp2
      go_ret
      exact ⟨by (rw [HKK.out]; try rfl), HB.out⟩
set_option maxHeartbeats 1000000 in
set_option maxRecDepth 100000 in
theorem heldO_any (A : Option Addr) (c : Nat) (l : List Occ) (k : Int) (w : World) (hk : 0 ≤ k) (hk2 : k + wtO l ≤ 4611686018427387904) (hL : IsL w (mkO k l) A c) :
    Calls Tryz.prog 37 #[.slice A l.length c, .int .i64 k] w fun e w' => e = .returned (.int .i64 (k + wtO l)) ∧ Below w.heap.size w w' := by
  have hln := mkO_length k l
  have hn := (C_len hL.rd).2
  rw [hln] at hn
  have HL := Aside0.mk hL
  have HLN := Aside0.mk hln
  clear hL hln
  go_enter Tryz.func37, Tryz.ntmps37
  go_wp2
  go_loopw [1, 5] (fun v1 vi wr => ∃ (i : Nat) (kk : Int), i ≤ l.length ∧ kk = k + (wtO (l.take i) : Int) ∧ vi = .int .i64 i ∧ v1 = .int .i64 kk ∧ Aside0 (Below w.heap.size w wr)) (fun _ vi _ => l.length - (intOf vi).toNat)
  case atStart => exact ⟨0, k, Nat.zero_le _, by simp [wtO], rfl, rfl, ⟨Below.refl _ _⟩⟩
  case round =>
    obtain ⟨i, kk, hi, hkk, rfl, rfl, HB⟩ := hrel
    by_cases hlt : i < l.length
    · have g1 : decide (i < l.length) = true := decide_eq_true hlt
      have i1 : (i : Int) < l.length := by omega
      obtain ⟨ad, A3, c3, rfl, pa, pb, pc, pl, pC⟩ := atO (HL.out.below HB.out).rd i (by rw [HLN.out]; exact hlt)
      have hwt := wtO_snoc l i hlt
      have hwl := wtO_take_le l (i + 1)
      rw [mkO_getD k l i hlt, ← hkk] at pa pb pc pC
      have hk0 : 0 ≤ kk := by omega
      have hk1 : kk + (2 + (l.getD i zO).f2.length) ≤ 4611686018427387904 := by omega
      have HKK : Aside0 (kk + (2 + ((l.getD i zO).f2.length : Int)) = k + (wtO (l.take (i + 1)) : Int)) := ⟨by omega⟩
      clear hwt hwl hkk
      generalize l.getD i zO = o at pa pb pc pC hk1 HKK
      simp only [mk1, mkI_length] at pa pb pc pC
      have HC := Aside0.mk pC
      have x0 : (kk != kk) = false := by simp
      have x1 : ((kk + 1) != (kk + 1)) = false := by simp
      obtain ⟨r, hr⟩ : ∃ r : Int, r = kk + 1 + 1 + o.f2.length := ⟨_, rfl⟩
      have d : decide (r < 0) = false := decide_eq_false (by omega)
      have HR := Aside0.mk hr
      clear pl pC hr
      go_wp2_with (go_at_call 76; refine (heldI_any A3 o.f2.length c3 (kk + 1 + 1) _ (by omega) (by omega) (HC.out)).mono ?_; rintro e w2 ⟨rfl, hb2⟩; rw [← HR.out]; have HB2 := Aside0.mk (below_then HB.out HB.out.size hb2); clear hb2)
      go_roundw
      case rel => exact ⟨i + 1, r, by omega, by have := HKK.out; have := HR.out; omega, by go_num, rfl, HB2⟩
      case measure => simp [intOf]; omega
    · have hke : i = l.length := by omega
      subst hke
      have g1 : decide (l.length < l.length) = false := decide_eq_false (by omega)
      rw [List.take_length] at hkk
      have HKK := Aside0.mk hkk
      clear hkk
      go_wp2
      go_ret
      exact ⟨by (rw [HKK.out]; try rfl), HB.out⟩
end Go.Proofs.YtccenpmaooailaaGreat.Ed
