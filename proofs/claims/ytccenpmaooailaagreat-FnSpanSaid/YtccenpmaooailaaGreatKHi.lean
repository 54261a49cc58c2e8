
/- Two spans drawn. -/
import Derived.Test.YtccenpmaooailaaGreatKB7
import Derived.Test.YtccenpmaooailaaGreatKB6
import Derived.Test.YtccenpmaooailaaGreatKDf
import Derived.Test.YtccenpmaooailaaGreatKTg
set_option linter.unusedVariables false
set_option linter.unusedSimpArgs false
namespace Go.Proofs.YtccenpmaooailaaGreat.Hi
open Go.RowKit Go.Proofs.YtccenpmaooailaaGreatW.PrintWords Go.Proofs.YtccenpmaooailaaGreat.Wd Go.Proofs.YtccenpmaooailaaGreat.Pu Go.Proofs.YtccenpmaooailaaGreat.Pv Go.Proofs.YtccenpmaooailaaGreat.Ca Go.Proofs.YtccenpmaooailaaGreat.Cb Go.Proofs.YtccenpmaooailaaGreat.Cc Go.Proofs.YtccenpmaooailaaGreat.Cp Go.Proofs.YtccenpmaooailaaGreat.Cd Go.Proofs.YtccenpmaooailaaGreat.Ci Go.Proofs.YtccenpmaooailaaGreat.Ce Go.Proofs.YtccenpmaooailaaGreat.Cf Go.Proofs.YtccenpmaooailaaGreat.Cg Go.Proofs.YtccenpmaooailaaGreat.Sc Go.Proofs.YtccenpmaooailaaGreat.Se Go.Proofs.YtccenpmaooailaaGreat.Sh Go.Proofs.YtccenpmaooailaaGreat.Si Go.Proofs.YtccenpmaooailaaGreat.Sp Go.Proofs.YtccenpmaooailaaGreat.Ia Go.Proofs.YtccenpmaooailaaGreat.Ib Go.Proofs.YtccenpmaooailaaGreat.Ic Go.Proofs.YtccenpmaooailaaGreat.Id Go.Proofs.YtccenpmaooailaaGreat.Ie Go.Proofs.YtccenpmaooailaaGreat.If Go.Proofs.YtccenpmaooailaaGreat.Ig Go.Proofs.YtccenpmaooailaaGreat.Ih Go.Proofs.YtccenpmaooailaaGreat.Ij Go.Proofs.YtccenpmaooailaaGreat.Ik Go.Proofs.YtccenpmaooailaaGreat.Ra Go.Proofs.YtccenpmaooailaaGreat.Rb Go.Proofs.YtccenpmaooailaaGreat.Rc Go.Proofs.YtccenpmaooailaaGreat.Rd Go.Proofs.YtccenpmaooailaaGreat.Re Go.Proofs.YtccenpmaooailaaGreat.Sj Go.Proofs.YtccenpmaooailaaGreat.Ya Go.Proofs.YtccenpmaooailaaGreat.Yd Go.Proofs.YtccenpmaooailaaGreat.Yf Go.Proofs.YtccenpmaooailaaGreat.Yg Go.Proofs.YtccenpmaooailaaGreat.Ih Go.Proofs.YtccenpmaooailaaGreat.Yh Go.Proofs.YtccenpmaooailaaGreat.Yi Go.Proofs.YtccenpmaooailaaGreat.Sg Go.Proofs.YtccenpmaooailaaGreat.Sf Go.Proofs.YtccenpmaooailaaGreat.Yj Go.Proofs.YtccenpmaooailaaGreat.Ig Go.Proofs.YtccenpmaooailaaGreat.Yk Go.Proofs.YtccenpmaooailaaGreat.Ik Go.Proofs.YtccenpmaooailaaGreat.Yl Go.Proofs.YtccenpmaooailaaGreat.Ij Go.Proofs.YtccenpmaooailaaGreat.Ym Go.Proofs.YtccenpmaooailaaGreat.Il Go.Proofs.YtccenpmaooailaaGreat.Yn Go.Proofs.YtccenpmaooailaaGreat.Yo Go.Proofs.YtccenpmaooailaaGreat.In Go.Proofs.YtccenpmaooailaaGreat.Yq Go.Proofs.YtccenpmaooailaaGreat.Pw Go.Proofs.YtccenpmaooailaaGreat.Px Go.Proofs.YtccenpmaooailaaGreat.La Go.Proofs.YtccenpmaooailaaGreat.Db Go.Proofs.YtccenpmaooailaaGreat.Sa Go.Proofs.YtccenpmaooailaaGreat.Sb Go.Proofs.YtccenpmaooailaaGreat.Sc Go.Proofs.YtccenpmaooailaaGreat.Sd Go.Proofs.YtccenpmaooailaaGreat.Sh Go.Proofs.YtccenpmaooailaaGreat.Sk Go.Proofs.YtccenpmaooailaaGreat.Sl Go.Proofs.YtccenpmaooailaaGreat.Sm Go.Proofs.YtccenpmaooailaaGreat.Da Go.Proofs.YtccenpmaooailaaGreat.Dc Go.Proofs.YtccenpmaooailaaGreat.Id Go.Proofs.YtccenpmaooailaaGreat.Tf Go.Proofs.YtccenpmaooailaaGreat.Tg Go.Proofs.YtccenpmaooailaaGreat.Df Go.Proofs.YtccenpmaooailaaGreat.Za
set_option maxHeartbeats 4000000 in
set_option maxRecDepth 100000 in
theorem drawSpanSame_any (A : Option Addr) (c : Nat) (bs : List Int) (w : World) (hC : (Kd.int .u8).C w A bs.length bs) (hc : bs.length ≤ c) (hb : ∀ b ∈ bs, 0 ≤ b ∧ b ≤ 255) :
    Calls Tryz.prog 15 #[.slice A bs.length c] w fun e w' => PSOut w w' e := by
  obtain ⟨hb0, bN0, bM0⟩ := boxes2 w #[.slice none 0 0, .slice none 0 0] #[.slice none 0 0, .slice none 0 0] 25 25
  have HCa := Aside0.mk (Kd.C_below hC hb0)
  have HB0 := Aside0.mk hb0
  clear hC hb0
  go_enter Tryz.func15, Tryz.ntmps15
  go_upto_region 1 with fail
  generalize (w.alloc (.cells #[.slice none 0 0, .slice none 0 0] 25)).alloc (.cells #[.slice none 0 0, .slice none 0 0] 25) = W1 at bN0 bM0 HCa HB0 ⊢
  have hs1 := blk_lt bM0
  go_upto_region 2 with (first | (go_at_call 40; refine (span_any W1 ga bsa 0 _ HRa.out (by omega)).mono ?_; rintro e w2a ⟨v0, v1, l, r, rfl, hm⟩; obtain ⟨A0a, c0a, rfl⟩ := Kd.R_slice hm.r0; obtain ⟨A1a, c1a, rfl⟩ := Kd.R_slice hm.r1; have HBpa := Aside0.mk (Below.grown HOa.out hm.gr (Nat.le_trans HOa.out.size (Nat.le_refl _)) (fun k hk => by cases hk; omega)); have HMa := Aside0.mk hm; clear hm) | (go_at_call 38; refine (open_any W1 A c bs _ (Below.refl _ _) HCa.out hc hb).mono ?_; rintro e w1a ⟨ga, rfl, ⟨bsa, hr⟩, hb1⟩; have HRa := Aside0.mk hr; have hgWa : W1.heap.size ≤ ga := hr.base; have hgla := rd_lt hr; have HOa := Aside0.mk hb1; clear hr hb1))
  have hb3 := below_alloc (Below.refl w2a.heap.size w2a) (.cells #[.slice A0a l.length c0a, .slice A1a r.length c1a] 25)
  have bP := blk_new w2a (.cells #[.slice A0a l.length c0a, .slice A1a r.length c1a] 25)
  have HL := Aside0.mk ((Dw.isL HBpa.out HMa.out.r0).below hb3)
  have HR := Aside0.mk ((Dw.isL HBpa.out HMa.out.r1).below hb3)
  have HBW := Aside0.mk (below_then HBpa.out HBpa.out.size hb3)
  have hP1 : W1.heap.size ≤ w2a.heap.size := HBpa.out.size
  have hP2 := blk_lt bP
  have HCb := Aside0.mk (Kd.C_below HCa.out HBW.out)
  generalize hW4 : w2a.alloc (.cells #[.slice A0a l.length c0a, .slice A1a r.length c1a] 25) = W4 at hb3 bP HL HR HBW hP2 HCb ⊢
  generalize hPe : w2a.heap.size = P at bP hP1 hP2 ⊢
  clear hW4 hPe hb3 HMa HRa HOa HBpa hgWa hgla
  go_upto_region 3 with (first | (go_at_call 40; refine (span_any W4 gb bsb 0 _ HRb.out (by omega)).mono ?_; rintro e w2b ⟨v0, v1, a, b, rfl, hm⟩; obtain ⟨A0b, c0b, rfl⟩ := Kd.R_slice hm.r0; obtain ⟨A1b, c1b, rfl⟩ := Kd.R_slice hm.r1; have HBpb := Aside0.mk (Below.grown HOb.out hm.gr (Nat.le_trans HOb.out.size (Nat.le_refl _)) (fun k hk => by cases hk; omega)); have HMb := Aside0.mk hm; clear hm) | (go_at_call 38; refine (open_any W4 A c bs _ (Below.refl _ _) HCb.out hc hb).mono ?_; rintro e w1b ⟨gb, rfl, ⟨bsb, hr⟩, hb1⟩; have HRb := Aside0.mk hr; have hgWb : W4.heap.size ≤ gb := hr.base; have hglb := rd_lt hr; have HOb := Aside0.mk hb1; clear hr hb1))
  have hb3 := below_alloc (Below.refl w2b.heap.size w2b) (.cells #[.slice A0b a.length c0b, .slice A1b b.length c1b] 25)
  have bQ := blk_new w2b (.cells #[.slice A0b a.length c0b, .slice A1b b.length c1b] 25)
  have HA := Aside0.mk ((Dw.isL HBpb.out HMb.out.r0).below hb3)
  have HB := Aside0.mk ((Dw.isL HBpb.out HMb.out.r1).below hb3)
  have HBV := Aside0.mk (below_then HBpb.out HBpb.out.size hb3)
  have hQ1 : W4.heap.size ≤ w2b.heap.size := HBpb.out.size
  have hQ2 := blk_lt bQ
  generalize hW5 : w2b.alloc (.cells #[.slice A0b a.length c0b, .slice A1b b.length c1b] 25) = W5 at hb3 bQ HA HB HBV hQ2 ⊢
  generalize hQe : w2b.heap.size = Q at bQ hQ1 hQ2 ⊢
  clear hW5 hQe hb3 HMb HRb HOb HBpb hgWb hglb
  have HL5 := Aside0.mk (HL.out.below HBV.out)
  have HR5 := Aside0.mk (HR.out.below HBV.out)
  have bP5 := blk_below bP HBV.out
  have bN5 := blk_below (blk_below bN0 HBW.out) HBV.out
  have bM5 := blk_below (blk_below bM0 HBW.out) HBV.out
  have HC5 := Aside0.mk (Kd.C_below HCb.out HBV.out)
  have HB5 := Aside0.mk (below_then (below_then HB0.out HB0.out.size HBW.out) (Nat.le_trans HB0.out.size HBW.out.size) HBV.out)
  clear HL HR bP bN0 bM0 HCa HCb HB0 HBW HBV
  by_cases hp : 0 < bs.length
  · have hp1 : decide (0 < bs.length) = true := decide_eq_true hp
    have hp2 : (0 : Int) < bs.length := by omega
    obtain ⟨ad, eA, hcl⟩ := HC5.out.2.2 hp
    subst eA
    obtain ⟨b0, hb0⟩ : ∃ b0, bs[0]? = some b0 := ⟨bs[0], by simp⟩
    obtain ⟨cs, h1, h2, h3⟩ := hcl 0 b0 hb0
    have q0 := h3 0 (.int .u8 b0) (by rw [h2]; rfl)
    have ea : ad.add 0 = ad := by cases ad with | mk b o s => cases s <;> simp [Addr.add]
    have q1 : W5.cell? (ad.add 0) = some (.int .u8 b0) := by simpa using q0
    have q2 : W5.cell? ad = some (.int .u8 b0) := by rw [← ea]; exact q1
    clear q0
    clear h1 h2 h3 hcl ea hb0
    go_upto_region 4 with fail
    · clear q1 q2
      have t0 := (blk_cell bQ 1).trans rfl
      have t1 := blk_frozen bQ 1
      go_upto_region 5 with fail
      clear t0 t1
      have K0 : ∀ {X : Option Addr} {cx : Nat} {x : List Occ}, IsL W5 x X cx → IsL (W5.setCell ⟨Q, 1, none⟩ (.slice none 0 0)) x X cx := fun hx => IsL.away (ni_two bQ) (keep_set W5 Q 1 _) hx
      have HLe := Aside0.mk (K0 HL5.out)
      have HRe := Aside0.mk (K0 HR5.out)
      have HAe := Aside0.mk (K0 HA.out)
      have HBe : Aside0 (IsL (W5.setCell ⟨Q, 1, none⟩ (.slice none 0 0)) [] none 0) := ⟨isL_nil _ _ _⟩
      have bPe := blk_far bP5 (p := ⟨Q, 1, none⟩) (show P ≠ Q by omega) (.slice none 0 0)
      have bQe : (W5.setCell ⟨Q, 1, none⟩ (.slice none 0 0)).heap[Q]? = some (.cells #[.slice A0b a.length c0b, .slice none 0 0] 25 (0, 0)) := blk_put bQ 1 (.slice none 0 0) rfl
      have bNe := blk_far bN5 (p := ⟨Q, 1, none⟩) (show w.heap.size ≠ Q by omega) (.slice none 0 0)
      have bMe := blk_far bM5 (p := ⟨Q, 1, none⟩) (show w.heap.size + 1 ≠ Q by omega) (.slice none 0 0)
      have HWe : Aside0 (Below w.heap.size w (W5.setCell ⟨Q, 1, none⟩ (.slice none 0 0))) := ⟨HB5.out.setCell (p := ⟨Q, 1, none⟩) (show w.heap.size ≤ Q by omega) _⟩
      clear HL5 HR5 HA HB bP5 bQ bN5 bM5 HB5 K0
      generalize W5.setCell ⟨Q, 1, none⟩ (.slice none 0 0) = W6 at *
      have hd : Below W6.heap.size W6 W6.drew := below_drew (Below.refl _ _)
      have bPd := blk_below bPe hd
      have bQd := blk_below bQe hd
      have bNd := blk_below bNe hd
      have bMd := blk_below bMe hd
      have bN1 : (Id.set2 W6.drew w.heap.size (.slice A0a l.length c0a) (.slice A1a r.length c1a)).heap[w.heap.size]? = some (.cells #[.slice A0a l.length c0a, .slice A1a r.length c1a] 25 (0, 0)) := Id.set2_blk _ _ bNd
      have bM1 : (Id.set2 W6.drew w.heap.size (.slice A0a l.length c0a) (.slice A1a r.length c1a)).heap[w.heap.size + 1]? = some (.cells #[.slice none 0 0, .slice none 0 0] 25 (0, 0)) := blk_far (blk_far bMd (p := ⟨w.heap.size, 0, none⟩) (show w.heap.size + 1 ≠ w.heap.size by omega) _) (p := ⟨w.heap.size, 1, none⟩) (show w.heap.size + 1 ≠ w.heap.size by omega) _
      have bP1 : (Id.set2 W6.drew w.heap.size (.slice A0a l.length c0a) (.slice A1a r.length c1a)).heap[P]? = _ := blk_far (blk_far bPd (p := ⟨w.heap.size, 0, none⟩) (show P ≠ w.heap.size by omega) _) (p := ⟨w.heap.size, 1, none⟩) (show P ≠ w.heap.size by omega) _
      have bQ1 : (Id.set2 W6.drew w.heap.size (.slice A0a l.length c0a) (.slice A1a r.length c1a)).heap[Q]? = _ := blk_far (blk_far bQd (p := ⟨w.heap.size, 0, none⟩) (show Q ≠ w.heap.size by omega) _) (p := ⟨w.heap.size, 1, none⟩) (show Q ≠ w.heap.size by omega) _
      have HF1 : Aside0 ((fun w' => (w'.cell? ⟨P, 0, none⟩ = some (.slice A0a l.length c0a) ∧ w'.cell? ⟨P, 1, none⟩ = some (.slice A1a r.length c1a)) ∧ (w'.cell? ⟨Q, 0, none⟩ = some (.slice A0b a.length c0b) ∧ w'.cell? ⟨Q, 1, none⟩ = some (.slice none 0 0))) (Id.set2 W6.drew w.heap.size (.slice A0a l.length c0a) (.slice A1a r.length c1a))) := ⟨⟨⟨(blk_cell bP1 0).trans rfl, (blk_cell bP1 1).trans rfl⟩, ⟨(blk_cell bQ1 0).trans rfl, (blk_cell bQ1 1).trans rfl⟩⟩⟩
      have HF0 : Aside0 ((fun w' => (w'.cell? ⟨P, 0, none⟩ = some (.slice A0a l.length c0a) ∧ w'.cell? ⟨P, 1, none⟩ = some (.slice A1a r.length c1a)) ∧ (w'.cell? ⟨Q, 0, none⟩ = some (.slice A0b a.length c0b) ∧ w'.cell? ⟨Q, 1, none⟩ = some (.slice none 0 0))) W6.drew) := ⟨⟨⟨(blk_cell bPd 0).trans rfl, (blk_cell bPd 1).trans rfl⟩, ⟨(blk_cell bQd 0).trans rfl, (blk_cell bQd 1).trans rfl⟩⟩⟩
      have bN2 : (Id.set2 (Id.set2 W6.drew w.heap.size (.slice A0a l.length c0a) (.slice A1a r.length c1a)) (w.heap.size + 1) (.slice A0b a.length c0b) (.slice none 0 0)).heap[w.heap.size]? = some (.cells #[.slice A0a l.length c0a, .slice A1a r.length c1a] 25 (0, 0)) := blk_far (blk_far bN1 (p := ⟨w.heap.size + 1, 0, none⟩) (show w.heap.size ≠ w.heap.size + 1 by omega) _) (p := ⟨w.heap.size + 1, 1, none⟩) (show w.heap.size ≠ w.heap.size + 1 by omega) _
      have bM2 : (Id.set2 (Id.set2 W6.drew w.heap.size (.slice A0a l.length c0a) (.slice A1a r.length c1a)) (w.heap.size + 1) (.slice A0b a.length c0b) (.slice none 0 0)).heap[w.heap.size + 1]? = some (.cells #[.slice A0b a.length c0b, .slice none 0 0] 25 (0, 0)) := Id.set2_blk _ _ bM1
      have K : ∀ {X : Option Addr} {cx : Nat} {x : List Occ}, IsL W6 x X cx → IsL (Id.set2 (Id.set2 W6.drew w.heap.size (.slice A0a l.length c0a) (.slice A1a r.length c1a)) (w.heap.size + 1) (.slice A0b a.length c0b) (.slice none 0 0)) x X cx := fun hx => isL_setS (isL_setS (hx.below hd) bNd _ _ _ _ _ _) bM1 _ _ _ _ _ _
      have HEND : Aside0 (PSOut w (Id.set2 (Id.set2 W6.drew w.heap.size (.slice A0a l.length c0a) (.slice A1a r.length c1a)) (w.heap.size + 1) (.slice A0b a.length c0b) (.slice none 0 0)) (.returned (.tuple #[.agg #[.slice A0a l.length c0a, .slice A1a r.length c1a], .agg #[.slice A0b a.length c0b, .slice none 0 0]]))) :=
        ⟨⟨l, r, a, [], A0a, A1a, A0b, none, c0a, c1a, c0b, 0, rfl, K HLe.out, K HRe.out, K HAe.out, K HBe.out, Id.set2_below (Id.set2_below (below_then HWe.out HWe.out.size hd) (Nat.le_refl _) _ _) (by omega) _ _⟩⟩
      have HN2 := Aside0.mk bN2
      have HM2 := Aside0.mk bM2
      have n0 := (blk_cell bNd 0).trans rfl
      have n1 := (blk_cell bNd 1).trans rfl
      have m0 := blk_frozen bNd 0
      have m1 := blk_frozen bNd 1
      have q0' := (blk_cell bM1 0).trans rfl
      have q1' := (blk_cell bM1 1).trans rfl
      have r0 := blk_frozen bM1 0
      have r1 := blk_frozen bM1 1
      unfold Id.set2 at q0' q1' r0 r1
      clear hd bPd bQd bNd bMd bN1 bM1 bP1 bQ1 bN2 bM2 K bPe bQe bNe bMe
      refine Za.regionL (fun w' => (w'.cell? ⟨P, 0, none⟩ = some (.slice A0a l.length c0a) ∧ w'.cell? ⟨P, 1, none⟩ = some (.slice A1a r.length c1a)) ∧ (w'.cell? ⟨Q, 0, none⟩ = some (.slice A0b a.length c0b) ∧ w'.cell? ⟨Q, 1, none⟩ = some (.slice none 0 0))) [3] (by kernel_rfl) ?_
      generalize W6.drew = Wd at *
      have HS : (fun w' => (w'.cell? ⟨P, 0, none⟩ = some (.slice A0a l.length c0a) ∧ w'.cell? ⟨P, 1, none⟩ = some (.slice A1a r.length c1a)) ∧ (w'.cell? ⟨Q, 0, none⟩ = some (.slice A0b a.length c0b) ∧ w'.cell? ⟨Q, 1, none⟩ = some (.slice none 0 0))) Wd := HF0.out
      refine Za.takeL 0 (v := ?va0) rfl (by kernel_rfl) (by kernel_rfl) (by kernel_rfl) (by kernel_rfl) (fun _ _ _ h => h) (Or.inl ⟨by rfl, ?hya0⟩) HS ?resta0
      case hya0 => (intro w hSw; (try dsimp only at hSw); go_simp; try with_reducible rfl)
      (try simp only [Act.put, List.setIfInBounds_toArray, List.set_cons_zero, List.set_cons_succ])
      refine Za.takeL 1 (v := ?va1) rfl (by kernel_rfl) (by kernel_rfl) (by kernel_rfl) (by kernel_rfl) (fun _ _ _ h => h) (Or.inl ⟨by rfl, ?hya1⟩) HS ?resta1
      case hya1 => (intro w hSw; (try dsimp only at hSw); go_simp; try with_reducible rfl)
      (try simp only [Act.put, List.setIfInBounds_toArray, List.set_cons_zero, List.set_cons_succ])
      clear HS
      refine Za.nextL 2 (by kernel_rfl) rfl (fun K' hK => ?_)
      go_simp
      refine hK.out _ _ ⟨fun _ => HF1.out, ?_⟩
      clear hK K'
      (try simp only [Act.put, List.setIfInBounds_toArray, List.set_cons_zero, List.set_cons_succ])
      refine Za.nextL 3 (by kernel_rfl) rfl (fun K' hK => ?_)
      go_simp
      refine hK.out _ _ ⟨fun h => absurd (by simp) h, ?_⟩
      clear hK K'
      (try simp only [Act.put, List.setIfInBounds_toArray, List.set_cons_zero, List.set_cons_succ])
      refine Za.Walk.done (by kernel_rfl) ?_
      go_wp2
      refine bodyPost_ret (results_cc rfl _ _ w.heap.size (w.heap.size + 1) 25 #[.slice A0a l.length c0a, .slice A1a r.length c1a] #[.slice A0b a.length c0b, .slice none 0 0] (0, 0) (0, 0) _ rfl rfl HN2.out HM2.out Tryz.underlying25 rfl ⟨by kernel_rfl, by kernel_rfl⟩) rfl ?_
      exact HEND.out
    · clear q1 q2
      go_upto_region 5 with fail
      have HLe := HL5
      have HRe := HR5
      have HAe := HA
      have HBe := HB
      have bPe := bP5
      have bQe := bQ
      have bNe := bN5
      have bMe := bM5
      have HWe := HB5
      clear HL5 HR5 HA HB bP5 bQ bN5 bM5 HB5
      have hd : Below W5.heap.size W5 W5.drew := below_drew (Below.refl _ _)
      have bPd := blk_below bPe hd
      have bQd := blk_below bQe hd
      have bNd := blk_below bNe hd
      have bMd := blk_below bMe hd
      have bN1 : (Id.set2 W5.drew w.heap.size (.slice A0a l.length c0a) (.slice A1a r.length c1a)).heap[w.heap.size]? = some (.cells #[.slice A0a l.length c0a, .slice A1a r.length c1a] 25 (0, 0)) := Id.set2_blk _ _ bNd
      have bM1 : (Id.set2 W5.drew w.heap.size (.slice A0a l.length c0a) (.slice A1a r.length c1a)).heap[w.heap.size + 1]? = some (.cells #[.slice none 0 0, .slice none 0 0] 25 (0, 0)) := blk_far (blk_far bMd (p := ⟨w.heap.size, 0, none⟩) (show w.heap.size + 1 ≠ w.heap.size by omega) _) (p := ⟨w.heap.size, 1, none⟩) (show w.heap.size + 1 ≠ w.heap.size by omega) _
      have bP1 : (Id.set2 W5.drew w.heap.size (.slice A0a l.length c0a) (.slice A1a r.length c1a)).heap[P]? = _ := blk_far (blk_far bPd (p := ⟨w.heap.size, 0, none⟩) (show P ≠ w.heap.size by omega) _) (p := ⟨w.heap.size, 1, none⟩) (show P ≠ w.heap.size by omega) _
      have bQ1 : (Id.set2 W5.drew w.heap.size (.slice A0a l.length c0a) (.slice A1a r.length c1a)).heap[Q]? = _ := blk_far (blk_far bQd (p := ⟨w.heap.size, 0, none⟩) (show Q ≠ w.heap.size by omega) _) (p := ⟨w.heap.size, 1, none⟩) (show Q ≠ w.heap.size by omega) _
      have HF1 : Aside0 ((fun w' => (w'.cell? ⟨P, 0, none⟩ = some (.slice A0a l.length c0a) ∧ w'.cell? ⟨P, 1, none⟩ = some (.slice A1a r.length c1a)) ∧ (w'.cell? ⟨Q, 0, none⟩ = some (.slice A0b a.length c0b) ∧ w'.cell? ⟨Q, 1, none⟩ = some (.slice A1b b.length c1b))) (Id.set2 W5.drew w.heap.size (.slice A0a l.length c0a) (.slice A1a r.length c1a))) := ⟨⟨⟨(blk_cell bP1 0).trans rfl, (blk_cell bP1 1).trans rfl⟩, ⟨(blk_cell bQ1 0).trans rfl, (blk_cell bQ1 1).trans rfl⟩⟩⟩
      have HF0 : Aside0 ((fun w' => (w'.cell? ⟨P, 0, none⟩ = some (.slice A0a l.length c0a) ∧ w'.cell? ⟨P, 1, none⟩ = some (.slice A1a r.length c1a)) ∧ (w'.cell? ⟨Q, 0, none⟩ = some (.slice A0b a.length c0b) ∧ w'.cell? ⟨Q, 1, none⟩ = some (.slice A1b b.length c1b))) W5.drew) := ⟨⟨⟨(blk_cell bPd 0).trans rfl, (blk_cell bPd 1).trans rfl⟩, ⟨(blk_cell bQd 0).trans rfl, (blk_cell bQd 1).trans rfl⟩⟩⟩
      have bN2 : (Id.set2 (Id.set2 W5.drew w.heap.size (.slice A0a l.length c0a) (.slice A1a r.length c1a)) (w.heap.size + 1) (.slice A0b a.length c0b) (.slice A1b b.length c1b)).heap[w.heap.size]? = some (.cells #[.slice A0a l.length c0a, .slice A1a r.length c1a] 25 (0, 0)) := blk_far (blk_far bN1 (p := ⟨w.heap.size + 1, 0, none⟩) (show w.heap.size ≠ w.heap.size + 1 by omega) _) (p := ⟨w.heap.size + 1, 1, none⟩) (show w.heap.size ≠ w.heap.size + 1 by omega) _
      have bM2 : (Id.set2 (Id.set2 W5.drew w.heap.size (.slice A0a l.length c0a) (.slice A1a r.length c1a)) (w.heap.size + 1) (.slice A0b a.length c0b) (.slice A1b b.length c1b)).heap[w.heap.size + 1]? = some (.cells #[.slice A0b a.length c0b, .slice A1b b.length c1b] 25 (0, 0)) := Id.set2_blk _ _ bM1
      have K : ∀ {X : Option Addr} {cx : Nat} {x : List Occ}, IsL W5 x X cx → IsL (Id.set2 (Id.set2 W5.drew w.heap.size (.slice A0a l.length c0a) (.slice A1a r.length c1a)) (w.heap.size + 1) (.slice A0b a.length c0b) (.slice A1b b.length c1b)) x X cx := fun hx => isL_setS (isL_setS (hx.below hd) bNd _ _ _ _ _ _) bM1 _ _ _ _ _ _
      have HEND : Aside0 (PSOut w (Id.set2 (Id.set2 W5.drew w.heap.size (.slice A0a l.length c0a) (.slice A1a r.length c1a)) (w.heap.size + 1) (.slice A0b a.length c0b) (.slice A1b b.length c1b)) (.returned (.tuple #[.agg #[.slice A0a l.length c0a, .slice A1a r.length c1a], .agg #[.slice A0b a.length c0b, .slice A1b b.length c1b]]))) :=
        ⟨⟨l, r, a, b, A0a, A1a, A0b, A1b, c0a, c1a, c0b, c1b, rfl, K HLe.out, K HRe.out, K HAe.out, K HBe.out, Id.set2_below (Id.set2_below (below_then HWe.out HWe.out.size hd) (Nat.le_refl _) _ _) (by omega) _ _⟩⟩
      have HN2 := Aside0.mk bN2
      have HM2 := Aside0.mk bM2
      have n0 := (blk_cell bNd 0).trans rfl
      have n1 := (blk_cell bNd 1).trans rfl
      have m0 := blk_frozen bNd 0
      have m1 := blk_frozen bNd 1
      have q0' := (blk_cell bM1 0).trans rfl
      have q1' := (blk_cell bM1 1).trans rfl
      have r0 := blk_frozen bM1 0
      have r1 := blk_frozen bM1 1
      unfold Id.set2 at q0' q1' r0 r1
      clear hd bPd bQd bNd bMd bN1 bM1 bP1 bQ1 bN2 bM2 K bPe bQe bNe bMe
      refine Za.regionL (fun w' => (w'.cell? ⟨P, 0, none⟩ = some (.slice A0a l.length c0a) ∧ w'.cell? ⟨P, 1, none⟩ = some (.slice A1a r.length c1a)) ∧ (w'.cell? ⟨Q, 0, none⟩ = some (.slice A0b a.length c0b) ∧ w'.cell? ⟨Q, 1, none⟩ = some (.slice A1b b.length c1b))) [3] (by kernel_rfl) ?_
      generalize W5.drew = Wd at *
      have HS : (fun w' => (w'.cell? ⟨P, 0, none⟩ = some (.slice A0a l.length c0a) ∧ w'.cell? ⟨P, 1, none⟩ = some (.slice A1a r.length c1a)) ∧ (w'.cell? ⟨Q, 0, none⟩ = some (.slice A0b a.length c0b) ∧ w'.cell? ⟨Q, 1, none⟩ = some (.slice A1b b.length c1b))) Wd := HF0.out
      refine Za.takeL 0 (v := ?vb0) rfl (by kernel_rfl) (by kernel_rfl) (by kernel_rfl) (by kernel_rfl) (fun _ _ _ h => h) (Or.inl ⟨by rfl, ?hyb0⟩) HS ?restb0
      case hyb0 => (intro w hSw; (try dsimp only at hSw); go_simp; try with_reducible rfl)
      (try simp only [Act.put, List.setIfInBounds_toArray, List.set_cons_zero, List.set_cons_succ])
      refine Za.takeL 1 (v := ?vb1) rfl (by kernel_rfl) (by kernel_rfl) (by kernel_rfl) (by kernel_rfl) (fun _ _ _ h => h) (Or.inl ⟨by rfl, ?hyb1⟩) HS ?restb1
      case hyb1 => (intro w hSw; (try dsimp only at hSw); go_simp; try with_reducible rfl)
      (try simp only [Act.put, List.setIfInBounds_toArray, List.set_cons_zero, List.set_cons_succ])
      clear HS
      refine Za.nextL 2 (by kernel_rfl) rfl (fun K' hK => ?_)
      go_simp
      refine hK.out _ _ ⟨fun _ => HF1.out, ?_⟩
      clear hK K'
      (try simp only [Act.put, List.setIfInBounds_toArray, List.set_cons_zero, List.set_cons_succ])
      refine Za.nextL 3 (by kernel_rfl) rfl (fun K' hK => ?_)
      go_simp
      refine hK.out _ _ ⟨fun h => absurd (by simp) h, ?_⟩
      clear hK K'
      (try simp only [Act.put, List.setIfInBounds_toArray, List.set_cons_zero, List.set_cons_succ])
      refine Za.Walk.done (by kernel_rfl) ?_
      go_wp2
      refine bodyPost_ret (results_cc rfl _ _ w.heap.size (w.heap.size + 1) 25 #[.slice A0a l.length c0a, .slice A1a r.length c1a] #[.slice A0b a.length c0b, .slice A1b b.length c1b] (0, 0) (0, 0) _ rfl rfl HN2.out HM2.out Tryz.underlying25 rfl ⟨by kernel_rfl, by kernel_rfl⟩) rfl ?_
      exact HEND.out
  · have hp1 : decide (0 < bs.length) = false := decide_eq_false hp
    go_upto_region 5 with fail
    have HLe := HL5
    have HRe := HR5
    have HAe := HA
    have HBe := HB
    have bPe := bP5
    have bQe := bQ
    have bNe := bN5
    have bMe := bM5
    have HWe := HB5
    clear HL5 HR5 HA HB bP5 bQ bN5 bM5 HB5
    have hd : Below W5.heap.size W5 W5.drew := below_drew (Below.refl _ _)
    have bPd := blk_below bPe hd
    have bQd := blk_below bQe hd
    have bNd := blk_below bNe hd
    have bMd := blk_below bMe hd
    have bN1 : (Id.set2 W5.drew w.heap.size (.slice A0a l.length c0a) (.slice A1a r.length c1a)).heap[w.heap.size]? = some (.cells #[.slice A0a l.length c0a, .slice A1a r.length c1a] 25 (0, 0)) := Id.set2_blk _ _ bNd
    have bM1 : (Id.set2 W5.drew w.heap.size (.slice A0a l.length c0a) (.slice A1a r.length c1a)).heap[w.heap.size + 1]? = some (.cells #[.slice none 0 0, .slice none 0 0] 25 (0, 0)) := blk_far (blk_far bMd (p := ⟨w.heap.size, 0, none⟩) (show w.heap.size + 1 ≠ w.heap.size by omega) _) (p := ⟨w.heap.size, 1, none⟩) (show w.heap.size + 1 ≠ w.heap.size by omega) _
    have bP1 : (Id.set2 W5.drew w.heap.size (.slice A0a l.length c0a) (.slice A1a r.length c1a)).heap[P]? = _ := blk_far (blk_far bPd (p := ⟨w.heap.size, 0, none⟩) (show P ≠ w.heap.size by omega) _) (p := ⟨w.heap.size, 1, none⟩) (show P ≠ w.heap.size by omega) _
    have bQ1 : (Id.set2 W5.drew w.heap.size (.slice A0a l.length c0a) (.slice A1a r.length c1a)).heap[Q]? = _ := blk_far (blk_far bQd (p := ⟨w.heap.size, 0, none⟩) (show Q ≠ w.heap.size by omega) _) (p := ⟨w.heap.size, 1, none⟩) (show Q ≠ w.heap.size by omega) _
    have HF1 : Aside0 ((fun w' => (w'.cell? ⟨P, 0, none⟩ = some (.slice A0a l.length c0a) ∧ w'.cell? ⟨P, 1, none⟩ = some (.slice A1a r.length c1a)) ∧ (w'.cell? ⟨Q, 0, none⟩ = some (.slice A0b a.length c0b) ∧ w'.cell? ⟨Q, 1, none⟩ = some (.slice A1b b.length c1b))) (Id.set2 W5.drew w.heap.size (.slice A0a l.length c0a) (.slice A1a r.length c1a))) := ⟨⟨⟨(blk_cell bP1 0).trans rfl, (blk_cell bP1 1).trans rfl⟩, ⟨(blk_cell bQ1 0).trans rfl, (blk_cell bQ1 1).trans rfl⟩⟩⟩
    have HF0 : Aside0 ((fun w' => (w'.cell? ⟨P, 0, none⟩ = some (.slice A0a l.length c0a) ∧ w'.cell? ⟨P, 1, none⟩ = some (.slice A1a r.length c1a)) ∧ (w'.cell? ⟨Q, 0, none⟩ = some (.slice A0b a.length c0b) ∧ w'.cell? ⟨Q, 1, none⟩ = some (.slice A1b b.length c1b))) W5.drew) := ⟨⟨⟨(blk_cell bPd 0).trans rfl, (blk_cell bPd 1).trans rfl⟩, ⟨(blk_cell bQd 0).trans rfl, (blk_cell bQd 1).trans rfl⟩⟩⟩
    have bN2 : (Id.set2 (Id.set2 W5.drew w.heap.size (.slice A0a l.length c0a) (.slice A1a r.length c1a)) (w.heap.size + 1) (.slice A0b a.length c0b) (.slice A1b b.length c1b)).heap[w.heap.size]? = some (.cells #[.slice A0a l.length c0a, .slice A1a r.length c1a] 25 (0, 0)) := blk_far (blk_far bN1 (p := ⟨w.heap.size + 1, 0, none⟩) (show w.heap.size ≠ w.heap.size + 1 by omega) _) (p := ⟨w.heap.size + 1, 1, none⟩) (show w.heap.size ≠ w.heap.size + 1 by omega) _
    have bM2 : (Id.set2 (Id.set2 W5.drew w.heap.size (.slice A0a l.length c0a) (.slice A1a r.length c1a)) (w.heap.size + 1) (.slice A0b a.length c0b) (.slice A1b b.length c1b)).heap[w.heap.size + 1]? = some (.cells #[.slice A0b a.length c0b, .slice A1b b.length c1b] 25 (0, 0)) := Id.set2_blk _ _ bM1
    have K : ∀ {X : Option Addr} {cx : Nat} {x : List Occ}, IsL W5 x X cx → IsL (Id.set2 (Id.set2 W5.drew w.heap.size (.slice A0a l.length c0a) (.slice A1a r.length c1a)) (w.heap.size + 1) (.slice A0b a.length c0b) (.slice A1b b.length c1b)) x X cx := fun hx => isL_setS (isL_setS (hx.below hd) bNd _ _ _ _ _ _) bM1 _ _ _ _ _ _
    have HEND : Aside0 (PSOut w (Id.set2 (Id.set2 W5.drew w.heap.size (.slice A0a l.length c0a) (.slice A1a r.length c1a)) (w.heap.size + 1) (.slice A0b a.length c0b) (.slice A1b b.length c1b)) (.returned (.tuple #[.agg #[.slice A0a l.length c0a, .slice A1a r.length c1a], .agg #[.slice A0b a.length c0b, .slice A1b b.length c1b]]))) :=
      ⟨⟨l, r, a, b, A0a, A1a, A0b, A1b, c0a, c1a, c0b, c1b, rfl, K HLe.out, K HRe.out, K HAe.out, K HBe.out, Id.set2_below (Id.set2_below (below_then HWe.out HWe.out.size hd) (Nat.le_refl _) _ _) (by omega) _ _⟩⟩
    have HN2 := Aside0.mk bN2
    have HM2 := Aside0.mk bM2
    have n0 := (blk_cell bNd 0).trans rfl
    have n1 := (blk_cell bNd 1).trans rfl
    have m0 := blk_frozen bNd 0
    have m1 := blk_frozen bNd 1
    have q0' := (blk_cell bM1 0).trans rfl
    have q1' := (blk_cell bM1 1).trans rfl
    have r0 := blk_frozen bM1 0
    have r1 := blk_frozen bM1 1
    unfold Id.set2 at q0' q1' r0 r1
    clear hd bPd bQd bNd bMd bN1 bM1 bP1 bQ1 bN2 bM2 K bPe bQe bNe bMe
    refine Za.regionL (fun w' => (w'.cell? ⟨P, 0, none⟩ = some (.slice A0a l.length c0a) ∧ w'.cell? ⟨P, 1, none⟩ = some (.slice A1a r.length c1a)) ∧ (w'.cell? ⟨Q, 0, none⟩ = some (.slice A0b a.length c0b) ∧ w'.cell? ⟨Q, 1, none⟩ = some (.slice A1b b.length c1b))) [3] (by kernel_rfl) ?_
    generalize W5.drew = Wd at *
    have HS : (fun w' => (w'.cell? ⟨P, 0, none⟩ = some (.slice A0a l.length c0a) ∧ w'.cell? ⟨P, 1, none⟩ = some (.slice A1a r.length c1a)) ∧ (w'.cell? ⟨Q, 0, none⟩ = some (.slice A0b a.length c0b) ∧ w'.cell? ⟨Q, 1, none⟩ = some (.slice A1b b.length c1b))) Wd := HF0.out
    refine Za.takeL 0 (v := ?vc0) rfl (by kernel_rfl) (by kernel_rfl) (by kernel_rfl) (by kernel_rfl) (fun _ _ _ h => h) (Or.inl ⟨by rfl, ?hyc0⟩) HS ?restc0
    case hyc0 => (intro w hSw; (try dsimp only at hSw); go_simp; try with_reducible rfl)
    (try simp only [Act.put, List.setIfInBounds_toArray, List.set_cons_zero, List.set_cons_succ])
    refine Za.takeL 1 (v := ?vc1) rfl (by kernel_rfl) (by kernel_rfl) (by kernel_rfl) (by kernel_rfl) (fun _ _ _ h => h) (Or.inl ⟨by rfl, ?hyc1⟩) HS ?restc1
    case hyc1 => (intro w hSw; (try dsimp only at hSw); go_simp; try with_reducible rfl)
    (try simp only [Act.put, List.setIfInBounds_toArray, List.set_cons_zero, List.set_cons_succ])
    clear HS
    refine Za.nextL 2 (by kernel_rfl) rfl (fun K' hK => ?_)
    go_simp
    refine hK.out _ _ ⟨fun _ => HF1.out, ?_⟩
    clear hK K'
    (try simp only [Act.put, List.setIfInBounds_toArray, List.set_cons_zero, List.set_cons_succ])
    refine Za.nextL 3 (by kernel_rfl) rfl (fun K' hK => ?_)
    go_simp
    refine hK.out _ _ ⟨fun h => absurd (by simp) h, ?_⟩
    clear hK K'
    (try simp only [Act.put, List.setIfInBounds_toArray, List.set_cons_zero, List.set_cons_succ])
    refine Za.Walk.done (by kernel_rfl) ?_
    go_wp2
    refine bodyPost_ret (results_cc rfl _ _ w.heap.size (w.heap.size + 1) 25 #[.slice A0a l.length c0a, .slice A1a r.length c1a] #[.slice A0b a.length c0b, .slice A1b b.length c1b] (0, 0) (0, 0) _ rfl rfl HN2.out HM2.out Tryz.underlying25 rfl ⟨by kernel_rfl, by kernel_rfl⟩) rfl ?_
    exact HEND.out
end Go.Proofs.YtccenpmaooailaaGreat.Hi
