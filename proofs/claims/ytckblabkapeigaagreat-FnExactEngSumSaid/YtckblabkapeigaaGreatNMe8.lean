
/- Marks of an engine, of a graph: the laws' own functions. Printed by genMe8.py. -/
import Derived.Test.YtckblabkapeigaaGreatNMh8
import Derived.Test.YtckblabkapeigaaGreatNKc
set_option linter.unusedVariables false
set_option linter.unusedSimpArgs false
namespace Go.Proofs.YtckblabkapeigaaGreat.Me8
open Go.RowKit Go.Proofs.YtckblabkapeigaaGreatW.PrintWords Go.Proofs.YtckblabkapeigaaGreat.Ja Go.Proofs.YtckblabkapeigaaGreat.Jb Go.Proofs.YtckblabkapeigaaGreat.Jc Go.Proofs.YtckblabkapeigaaGreat.Jd Go.Proofs.YtckblabkapeigaaGreat.Jf Go.Proofs.YtckblabkapeigaaGreat.Ka Go.Proofs.YtckblabkapeigaaGreat.Kb Go.Proofs.YtckblabkapeigaaGreat.Kd2 Go.Proofs.YtckblabkapeigaaGreat.Nd Go.Proofs.YtckblabkapeigaaGreat.Ei8 Go.Proofs.YtckblabkapeigaaGreat.Ej8 Go.Proofs.YtckblabkapeigaaGreat.Mk8 Go.Proofs.YtckblabkapeigaaGreat.Mh8 Go.Proofs.YtckblabkapeigaaGreat.Kc

def mcEng (x : TEng) : Int := (cmS cmRule x.f0 : Int) + (cmS cmGraph x.f1 : Int) + (cmS cmEv x.f2 : Int) + (x.f3.length : Int) + (cmS cmFire x.f4 : Int)
set_option maxHeartbeats 8000000 in
set_option maxRecDepth 100000 in
theorem markEng_any (x : TEng) (base : Nat) (ok : Nat → Prop) (v0 : Value) (v1 : Value) (v2 : Value) (v3 : Value) (v4 : Value) (o0 : Nat → Prop) (o1 : Nat → Prop) (o2 : Nat → Prop) (o3 : Nat → Prop) (o4 : Nat → Prop) (k : Int) (w : World) (hk : 0 ≤ k) (hk2 : k + mcEng x ≤ 4611686018427387904) (hbs : base ≤ w.heap.size) (e0 : Kd.S kRule 52 w base o0 v0 x.f0) (e1 : Kd.S kGraph 89 w base o1 v1 x.f1) (e2 : Kd.S kEv 97 w base o2 v2 x.f2) (e3 : Kd.S (Kd.int .i64) 3 w base o3 v3 x.f3) (e4 : Kd.S kFire 56 w base o4 v4 x.f4) (ap : Ap ok [o0, o1, o2, o3, o4]) :
  Calls Tryz.prog 10 #[.agg #[v0, v1, v2, v3, v4], .int .i64 k] w fun e w' => e = .returned (.int .i64 (k + mcEng x)) ∧ Kd.S kRule 52 w' base o0 v0 (mkS mkRule cmRule x.f0 (k)) ∧ Kd.S kGraph 89 w' base o1 v1 (mkS mkGraph cmGraph x.f1 (k + (cmS cmRule x.f0 : Int))) ∧ Kd.S kEv 97 w' base o2 v2 (mkS mkEv cmEv x.f2 (k + (cmS cmRule x.f0 : Int) + (cmS cmGraph x.f1 : Int))) ∧ Kd.S (Kd.int .i64) 3 w' base o3 v3 (Ej8.mkI (k + (cmS cmRule x.f0 : Int) + (cmS cmGraph x.f1 : Int) + (cmS cmEv x.f2 : Int)) x.f3.length) ∧ Kd.S kFire 56 w' base o4 v4 (mkS mkFire cmFire x.f4 (k + (cmS cmRule x.f0 : Int) + (cmS cmGraph x.f1 : Int) + (cmS cmEv x.f2 : Int) + (x.f3.length : Int))) ∧ Fr (fun j => ok j ∧ base ≤ j) w w' := by
 unfold mcEng at hk2
 obtain ⟨A0, c0, rfl⟩ := Kd.S_slice e0
 obtain ⟨A1, c1, rfl⟩ := Kd.S_slice e1
 obtain ⟨A2, c2, rfl⟩ := Kd.S_slice e2
 obtain ⟨A3, c3, rfl⟩ := Kd.S_slice e3
 obtain ⟨A4, c4, rfl⟩ := Kd.S_slice e4
 have hb0 := below_alloc (Below.refl w.heap.size w) (.cells #[.slice A0 x.f0.length c0, .slice A1 x.f1.length c1, .slice A2 x.f2.length c2, .slice A3 x.f3.length c3, .slice A4 x.f4.length c4] 36)
 have bX := blk_new w (.cells #[.slice A0 x.f0.length c0, .slice A1 x.f1.length c1, .slice A2 x.f2.length c2, .slice A3 x.f3.length c3, .slice A4 x.f4.length c4] 36)
 have HR0 : Aside0 (Kd.S kRule 52 (w.alloc (.cells #[.slice A0 x.f0.length c0, .slice A1 x.f1.length c1, .slice A2 x.f2.length c2, .slice A3 x.f3.length c3, .slice A4 x.f4.length c4] 36)) base (fun b => o0 b ∧ base ≤ b ∧ b < w.heap.size) (.slice A0 x.f0.length c0) x.f0) := ⟨Kd.S_below (Kd.S_mono (Kd.S_bound e0) (fun b hb => ⟨hb.1, hb.2.1, hb.2.2.1⟩)) hb0⟩
 have HR1 : Aside0 (Kd.S kGraph 89 (w.alloc (.cells #[.slice A0 x.f0.length c0, .slice A1 x.f1.length c1, .slice A2 x.f2.length c2, .slice A3 x.f3.length c3, .slice A4 x.f4.length c4] 36)) base (fun b => o1 b ∧ base ≤ b ∧ b < w.heap.size) (.slice A1 x.f1.length c1) x.f1) := ⟨Kd.S_below (Kd.S_mono (Kd.S_bound e1) (fun b hb => ⟨hb.1, hb.2.1, hb.2.2.1⟩)) hb0⟩
 have HR2 : Aside0 (Kd.S kEv 97 (w.alloc (.cells #[.slice A0 x.f0.length c0, .slice A1 x.f1.length c1, .slice A2 x.f2.length c2, .slice A3 x.f3.length c3, .slice A4 x.f4.length c4] 36)) base (fun b => o2 b ∧ base ≤ b ∧ b < w.heap.size) (.slice A2 x.f2.length c2) x.f2) := ⟨Kd.S_below (Kd.S_mono (Kd.S_bound e2) (fun b hb => ⟨hb.1, hb.2.1, hb.2.2.1⟩)) hb0⟩
 have HR3 : Aside0 (Kd.S (Kd.int .i64) 3 (w.alloc (.cells #[.slice A0 x.f0.length c0, .slice A1 x.f1.length c1, .slice A2 x.f2.length c2, .slice A3 x.f3.length c3, .slice A4 x.f4.length c4] 36)) base (fun b => o3 b ∧ base ≤ b ∧ b < w.heap.size) (.slice A3 x.f3.length c3) x.f3) := ⟨Kd.S_below (Kd.S_mono (Kd.S_bound e3) (fun b hb => ⟨hb.1, hb.2.1, hb.2.2.1⟩)) hb0⟩
 have HR4 : Aside0 (Kd.S kFire 56 (w.alloc (.cells #[.slice A0 x.f0.length c0, .slice A1 x.f1.length c1, .slice A2 x.f2.length c2, .slice A3 x.f3.length c3, .slice A4 x.f4.length c4] 36)) base (fun b => o4 b ∧ base ≤ b ∧ b < w.heap.size) (.slice A4 x.f4.length c4) x.f4) := ⟨Kd.S_below (Kd.S_mono (Kd.S_bound e4) (fun b hb => ⟨hb.1, hb.2.1, hb.2.2.1⟩)) hb0⟩
 have ap' := ap
 simp only [Ap, List.mem_cons, List.not_mem_nil, or_false, forall_eq_or_imp, forall_eq, false_imp_iff, implies_true, and_true] at ap'
 have HO0 : Aside0 (∀ b, o0 b → ok b) := ⟨by grind⟩
 have HO1 : Aside0 (∀ b, o1 b → ok b) := ⟨by grind⟩
 have HO2 : Aside0 (∀ b, o2 b → ok b) := ⟨by grind⟩
 have HO3 : Aside0 (∀ b, o3 b → ok b) := ⟨by grind⟩
 have HO4 : Aside0 (∀ b, o4 b → ok b) := ⟨by grind⟩
 have HD0_1 : Aside0 (∀ b, o0 b → ¬ o1 b) := ⟨by grind⟩
 have HD0_2 : Aside0 (∀ b, o0 b → ¬ o2 b) := ⟨by grind⟩
 have HD0_3 : Aside0 (∀ b, o0 b → ¬ o3 b) := ⟨by grind⟩
 have HD0_4 : Aside0 (∀ b, o0 b → ¬ o4 b) := ⟨by grind⟩
 have HD1_2 : Aside0 (∀ b, o1 b → ¬ o2 b) := ⟨by grind⟩
 have HD1_3 : Aside0 (∀ b, o1 b → ¬ o3 b) := ⟨by grind⟩
 have HD1_4 : Aside0 (∀ b, o1 b → ¬ o4 b) := ⟨by grind⟩
 have HD2_3 : Aside0 (∀ b, o2 b → ¬ o3 b) := ⟨by grind⟩
 have HD2_4 : Aside0 (∀ b, o2 b → ¬ o4 b) := ⟨by grind⟩
 have HD3_4 : Aside0 (∀ b, o3 b → ¬ o4 b) := ⟨by grind⟩
 clear ap ap'
 clear e0 e1 e2 e3 e4
 have HF : Aside0 (Fr (fun j => ok j ∧ base ≤ j) w (w.alloc (.cells #[.slice A0 x.f0.length c0, .slice A1 x.f1.length c1, .slice A2 x.f2.length c2, .slice A3 x.f3.length c3, .slice A4 x.f4.length c4] 36))) := ⟨Fr.of_below hb0⟩
 have BX := Aside0.mk bX
 clear hb0 bX
 go_enter Tryz.func10, Tryz.ntmps10
 go_upto_region 1 with fail
 generalize w.alloc (.cells #[.slice A0 x.f0.length c0, .slice A1 x.f1.length c1, .slice A2 x.f2.length c2, .slice A3 x.f3.length c3, .slice A4 x.f4.length c4] 36) = W0 at HF BX HR0 HR1 HR2 HR3 HR4 ⊢
 have p0 := (blk_cell BX.out 0).trans rfl
 obtain ⟨r0, hr0⟩ : ∃ r : Int, r = k + (cmS cmRule x.f0 : Int) := ⟨_, rfl⟩
 have RR0 := Aside0.mk hr0
 have hb0 : 0 ≤ r0 := by omega
 have hk0 : r0 + ((cmS cmGraph x.f1 : Int) + (cmS cmEv x.f2 : Int) + (x.f3.length : Int) + (cmS cmFire x.f4 : Int)) ≤ 4611686018427387904 := by omega
 clear hr0
 go_upto_region 2 with (go_at_call 29; refine (markRuleS_any base (fun b => o0 b ∧ base ≤ b ∧ b < w.heap.size) (.slice A0 x.f0.length c0) x.f0 (k) _ (by omega) (by omega) HR0.out).mono ?_; rintro e w0_ ⟨rfl, hs, hf⟩; rw [← RR0.out]; have hs2 := hs; have hf2 : Fr (fun b => o0 b ∧ base ≤ b ∧ b < w.heap.size) W0 w0_ := hf.mono (fun b hb _ => hb.1); have BX' := Aside0.mk ((hf2.block _ (blk_lt BX.out) (fun h => Nat.lt_irrefl _ h.2.2)).trans BX.out); have HF' := Aside0.mk (Fr.trans HF.out hf2 (fun b hb _ => ⟨HO0.out b hb.1, hb.2.1⟩)); have HR0' := Aside0.mk hs2; have HR1' := Aside0.mk (Kd.S_step HR1.out (fun b hb hlt => hf2.block b hlt (fun h => HD0_1.out b h.1 hb.1))); have HR2' := Aside0.mk (Kd.S_step HR2.out (fun b hb hlt => hf2.block b hlt (fun h => HD0_2.out b h.1 hb.1))); have HR3' := Aside0.mk (Kd.S_step HR3.out (fun b hb hlt => hf2.block b hlt (fun h => HD0_3.out b h.1 hb.1))); have HR4' := Aside0.mk (Kd.S_step HR4.out (fun b hb hlt => hf2.block b hlt (fun h => HD0_4.out b h.1 hb.1))); clear hs hf hs2 hf2)
 clear HF BX p0 HR0 HR1 HR2 HR3 HR4
 have HF := HF'
 have BX := BX'
 have HR0 := HR0'
 have HR1 := HR1'
 have HR2 := HR2'
 have HR3 := HR3'
 have HR4 := HR4'
 clear HF' BX' HR0' HR1' HR2' HR3' HR4'
 have p1 := (blk_cell BX.out 1).trans rfl
 obtain ⟨r1, hr1⟩ : ∃ r : Int, r = r0 + (cmS cmGraph x.f1 : Int) := ⟨_, rfl⟩
 have RR1 := Aside0.mk hr1
 have hb1 : 0 ≤ r1 := by omega
 have hk1 : r1 + ((cmS cmEv x.f2 : Int) + (x.f3.length : Int) + (cmS cmFire x.f4 : Int)) ≤ 4611686018427387904 := by omega
 clear hr1
 go_upto_region 3 with (go_at_call 30; refine (markGraphS_any base (fun b => o1 b ∧ base ≤ b ∧ b < w.heap.size) (.slice A1 x.f1.length c1) x.f1 (r0) _ (by omega) (by omega) HR1.out).mono ?_; rintro e w1_ ⟨rfl, hs, hf⟩; rw [← RR1.out]; have hs2 := hs; have hf2 : Fr (fun b => o1 b ∧ base ≤ b ∧ b < w.heap.size) w0_ w1_ := hf.mono (fun b hb _ => hb.1); have BX' := Aside0.mk ((hf2.block _ (blk_lt BX.out) (fun h => Nat.lt_irrefl _ h.2.2)).trans BX.out); have HF' := Aside0.mk (Fr.trans HF.out hf2 (fun b hb _ => ⟨HO1.out b hb.1, hb.2.1⟩)); have HR0' := Aside0.mk (Kd.S_step HR0.out (fun b hb hlt => hf2.block b hlt (fun h => HD0_1.out b hb.1 h.1))); have HR1' := Aside0.mk hs2; have HR2' := Aside0.mk (Kd.S_step HR2.out (fun b hb hlt => hf2.block b hlt (fun h => HD1_2.out b h.1 hb.1))); have HR3' := Aside0.mk (Kd.S_step HR3.out (fun b hb hlt => hf2.block b hlt (fun h => HD1_3.out b h.1 hb.1))); have HR4' := Aside0.mk (Kd.S_step HR4.out (fun b hb hlt => hf2.block b hlt (fun h => HD1_4.out b h.1 hb.1))); clear hs hf hs2 hf2)
 clear HF BX p1 HR0 HR1 HR2 HR3 HR4
 have HF := HF'
 have BX := BX'
 have HR0 := HR0'
 have HR1 := HR1'
 have HR2 := HR2'
 have HR3 := HR3'
 have HR4 := HR4'
 clear HF' BX' HR0' HR1' HR2' HR3' HR4'
 have p2 := (blk_cell BX.out 2).trans rfl
 obtain ⟨r2, hr2⟩ : ∃ r : Int, r = r1 + (cmS cmEv x.f2 : Int) := ⟨_, rfl⟩
 have RR2 := Aside0.mk hr2
 have hb2 : 0 ≤ r2 := by omega
 have hk2 : r2 + ((x.f3.length : Int) + (cmS cmFire x.f4 : Int)) ≤ 4611686018427387904 := by omega
 clear hr2
 go_upto_region 4 with (go_at_call 31; refine (markEvS_any base (fun b => o2 b ∧ base ≤ b ∧ b < w.heap.size) (.slice A2 x.f2.length c2) x.f2 (r1) _ (by omega) (by omega) HR2.out).mono ?_; rintro e w2_ ⟨rfl, hs, hf⟩; rw [← RR2.out]; have hs2 := hs; have hf2 : Fr (fun b => o2 b ∧ base ≤ b ∧ b < w.heap.size) w1_ w2_ := hf.mono (fun b hb _ => hb.1); have BX' := Aside0.mk ((hf2.block _ (blk_lt BX.out) (fun h => Nat.lt_irrefl _ h.2.2)).trans BX.out); have HF' := Aside0.mk (Fr.trans HF.out hf2 (fun b hb _ => ⟨HO2.out b hb.1, hb.2.1⟩)); have HR0' := Aside0.mk (Kd.S_step HR0.out (fun b hb hlt => hf2.block b hlt (fun h => HD0_2.out b hb.1 h.1))); have HR1' := Aside0.mk (Kd.S_step HR1.out (fun b hb hlt => hf2.block b hlt (fun h => HD1_2.out b hb.1 h.1))); have HR2' := Aside0.mk hs2; have HR3' := Aside0.mk (Kd.S_step HR3.out (fun b hb hlt => hf2.block b hlt (fun h => HD2_3.out b h.1 hb.1))); have HR4' := Aside0.mk (Kd.S_step HR4.out (fun b hb hlt => hf2.block b hlt (fun h => HD2_4.out b h.1 hb.1))); clear hs hf hs2 hf2)
 clear HF BX p2 HR0 HR1 HR2 HR3 HR4
 have HF := HF'
 have BX := BX'
 have HR0 := HR0'
 have HR1 := HR1'
 have HR2 := HR2'
 have HR3 := HR3'
 have HR4 := HR4'
 clear HF' BX' HR0' HR1' HR2' HR3' HR4'
 have p3 := (blk_cell BX.out 3).trans rfl
 obtain ⟨r3, hr3⟩ : ∃ r : Int, r = r2 + (x.f3.length : Int) := ⟨_, rfl⟩
 have RR3 := Aside0.mk hr3
 have hb3 : 0 ≤ r3 := by omega
 have hk3 : r3 + ((cmS cmFire x.f4 : Int)) ≤ 4611686018427387904 := by omega
 clear hr3
 go_upto_region 5 with (go_at_call 11; refine (markIntS_any base (fun b => o3 b ∧ base ≤ b ∧ b < w.heap.size) (.slice A3 x.f3.length c3) x.f3 (r2) _ (by omega) (by omega) (Kd.S_R HR3.out)).mono ?_; rintro e w3_ ⟨rfl, hs, hf⟩; rw [← RR3.out]; have hs2 := S_ints hs; have hf2 : Fr (fun b => o3 b ∧ base ≤ b ∧ b < w.heap.size) w2_ w3_ := hf.mono (fun b hb _ => (Kd.S_R HR3.out).1 b hb.symm); have BX' := Aside0.mk ((hf2.block _ (blk_lt BX.out) (fun h => Nat.lt_irrefl _ h.2.2)).trans BX.out); have HF' := Aside0.mk (Fr.trans HF.out hf2 (fun b hb _ => ⟨HO3.out b hb.1, hb.2.1⟩)); have HR0' := Aside0.mk (Kd.S_step HR0.out (fun b hb hlt => hf2.block b hlt (fun h => HD0_3.out b hb.1 h.1))); have HR1' := Aside0.mk (Kd.S_step HR1.out (fun b hb hlt => hf2.block b hlt (fun h => HD1_3.out b hb.1 h.1))); have HR2' := Aside0.mk (Kd.S_step HR2.out (fun b hb hlt => hf2.block b hlt (fun h => HD2_3.out b hb.1 h.1))); have HR3' := Aside0.mk hs2; have HR4' := Aside0.mk (Kd.S_step HR4.out (fun b hb hlt => hf2.block b hlt (fun h => HD3_4.out b h.1 hb.1))); clear hs hf hs2 hf2)
 clear HF BX p3 HR0 HR1 HR2 HR3 HR4
 have HF := HF'
 have BX := BX'
 have HR0 := HR0'
 have HR1 := HR1'
 have HR2 := HR2'
 have HR3 := HR3'
 have HR4 := HR4'
 clear HF' BX' HR0' HR1' HR2' HR3' HR4'
 have p4 := (blk_cell BX.out 4).trans rfl
 obtain ⟨r4, hr4⟩ : ∃ r : Int, r = r3 + (cmS cmFire x.f4 : Int) := ⟨_, rfl⟩
 have RR4 := Aside0.mk hr4
 have hb4 : 0 ≤ r4 := by omega
 have hk4 : r4 + (0) ≤ 4611686018427387904 := by omega
 clear hr4
 go_wp2_with (go_at_call 32; refine (markFireS_any base (fun b => o4 b ∧ base ≤ b ∧ b < w.heap.size) (.slice A4 x.f4.length c4) x.f4 (r3) _ (by omega) (by omega) HR4.out).mono ?_; rintro e w4_ ⟨rfl, hs, hf⟩; rw [← RR4.out]; have hs2 := hs; have hf2 : Fr (fun b => o4 b ∧ base ≤ b ∧ b < w.heap.size) w3_ w4_ := hf.mono (fun b hb _ => hb.1); have BX' := Aside0.mk ((hf2.block _ (blk_lt BX.out) (fun h => Nat.lt_irrefl _ h.2.2)).trans BX.out); have HF' := Aside0.mk (Fr.trans HF.out hf2 (fun b hb _ => ⟨HO4.out b hb.1, hb.2.1⟩)); have HR0' := Aside0.mk (Kd.S_step HR0.out (fun b hb hlt => hf2.block b hlt (fun h => HD0_4.out b hb.1 h.1))); have HR1' := Aside0.mk (Kd.S_step HR1.out (fun b hb hlt => hf2.block b hlt (fun h => HD1_4.out b hb.1 h.1))); have HR2' := Aside0.mk (Kd.S_step HR2.out (fun b hb hlt => hf2.block b hlt (fun h => HD2_4.out b hb.1 h.1))); have HR3' := Aside0.mk (Kd.S_step HR3.out (fun b hb hlt => hf2.block b hlt (fun h => HD3_4.out b hb.1 h.1))); have HR4' := Aside0.mk hs2; clear hs hf hs2 hf2)
 clear HF BX p4 HR0 HR1 HR2 HR3 HR4
 have HF := HF'
 have BX := BX'
 have HR0 := HR0'
 have HR1 := HR1'
 have HR2 := HR2'
 have HR3 := HR3'
 have HR4 := HR4'
 clear HF' BX' HR0' HR1' HR2' HR3' HR4'
 go_ret
 have hE : r4 = k + mcEng x := by unfold mcEng; have := RR0.out; have := RR1.out; have := RR2.out; have := RR3.out; have := RR4.out; omega
 have hs0 := Kd.S_mono HR0.out (ok' := o0) (fun b hb => hb.1)
 have hs1 := Kd.S_mono HR1.out (ok' := o1) (fun b hb => hb.1)
 have hs2 := Kd.S_mono HR2.out (ok' := o2) (fun b hb => hb.1)
 have hs3 := Kd.S_mono HR3.out (ok' := o3) (fun b hb => hb.1)
 have hs4 := Kd.S_mono HR4.out (ok' := o4) (fun b hb => hb.1)
 rw [RR0.out] at hs1
 rw [RR1.out, RR0.out] at hs2
 rw [RR2.out, RR1.out, RR0.out] at hs3
 rw [RR3.out, RR2.out, RR1.out, RR0.out] at hs4
 exact ⟨by (rw [hE]; try rfl), hs0, hs1, hs2, hs3, hs4, HF.out⟩
end Go.Proofs.YtckblabkapeigaaGreat.Me8
