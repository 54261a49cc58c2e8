
/- FnSpan: the walk. -/
import Derived.Test.YtccenpmaooailaaGreatKPy
import Derived.Test.YtccenpmaooailaaGreatKDe
import Derived.Test.YtccenpmaooailaaGreatKDf
import Derived.Test.YtccenpmaooailaaGreatKPt
import Derived.Test.YtccenpmaooailaaGreatKHi
import Derived.Test.YtccenpmaooailaaGreatKHj
set_option linter.unusedVariables false
set_option linter.unusedSimpArgs false
namespace Go.Proofs.YtccenpmaooailaaGreat.Hk
open Go.RowKit Go.Proofs.YtccenpmaooailaaGreatW.PrintWords Go.Proofs.YtccenpmaooailaaGreat.Wd Go.Proofs.YtccenpmaooailaaGreat.Pu Go.Proofs.YtccenpmaooailaaGreat.Pv Go.Proofs.YtccenpmaooailaaGreat.Ca Go.Proofs.YtccenpmaooailaaGreat.Cb Go.Proofs.YtccenpmaooailaaGreat.Cc Go.Proofs.YtccenpmaooailaaGreat.Cp Go.Proofs.YtccenpmaooailaaGreat.Cd Go.Proofs.YtccenpmaooailaaGreat.Ci Go.Proofs.YtccenpmaooailaaGreat.Ce Go.Proofs.YtccenpmaooailaaGreat.Cf Go.Proofs.YtccenpmaooailaaGreat.Cg Go.Proofs.YtccenpmaooailaaGreat.Sc Go.Proofs.YtccenpmaooailaaGreat.Se Go.Proofs.YtccenpmaooailaaGreat.Sh Go.Proofs.YtccenpmaooailaaGreat.Si Go.Proofs.YtccenpmaooailaaGreat.Sp Go.Proofs.YtccenpmaooailaaGreat.Ia Go.Proofs.YtccenpmaooailaaGreat.Ib Go.Proofs.YtccenpmaooailaaGreat.Ic Go.Proofs.YtccenpmaooailaaGreat.Id Go.Proofs.YtccenpmaooailaaGreat.Ie Go.Proofs.YtccenpmaooailaaGreat.If Go.Proofs.YtccenpmaooailaaGreat.Ig Go.Proofs.YtccenpmaooailaaGreat.Ih Go.Proofs.YtccenpmaooailaaGreat.Ij Go.Proofs.YtccenpmaooailaaGreat.Ik Go.Proofs.YtccenpmaooailaaGreat.Ra Go.Proofs.YtccenpmaooailaaGreat.Rb Go.Proofs.YtccenpmaooailaaGreat.Rc Go.Proofs.YtccenpmaooailaaGreat.Rd Go.Proofs.YtccenpmaooailaaGreat.Re Go.Proofs.YtccenpmaooailaaGreat.Sj Go.Proofs.YtccenpmaooailaaGreat.Ya Go.Proofs.YtccenpmaooailaaGreat.Yd Go.Proofs.YtccenpmaooailaaGreat.Yf Go.Proofs.YtccenpmaooailaaGreat.Yg Go.Proofs.YtccenpmaooailaaGreat.Ih Go.Proofs.YtccenpmaooailaaGreat.Yh Go.Proofs.YtccenpmaooailaaGreat.Yi Go.Proofs.YtccenpmaooailaaGreat.Sg Go.Proofs.YtccenpmaooailaaGreat.Sf Go.Proofs.YtccenpmaooailaaGreat.Yj Go.Proofs.YtccenpmaooailaaGreat.Ig Go.Proofs.YtccenpmaooailaaGreat.Yk Go.Proofs.YtccenpmaooailaaGreat.Ik Go.Proofs.YtccenpmaooailaaGreat.Yl Go.Proofs.YtccenpmaooailaaGreat.Ij Go.Proofs.YtccenpmaooailaaGreat.Ym Go.Proofs.YtccenpmaooailaaGreat.Il Go.Proofs.YtccenpmaooailaaGreat.Yn Go.Proofs.YtccenpmaooailaaGreat.Yo Go.Proofs.YtccenpmaooailaaGreat.In Go.Proofs.YtccenpmaooailaaGreat.Yq Go.Proofs.YtccenpmaooailaaGreat.Pw Go.Proofs.YtccenpmaooailaaGreat.Px Go.Proofs.YtccenpmaooailaaGreat.La Go.Proofs.YtccenpmaooailaaGreat.Db Go.Proofs.YtccenpmaooailaaGreat.De Go.Proofs.YtccenpmaooailaaGreat.Df Go.Proofs.YtccenpmaooailaaGreat.Pt Go.Proofs.YtccenpmaooailaaGreat.Py Go.Proofs.YtccenpmaooailaaGreat.Sh Go.Proofs.YtccenpmaooailaaGreat.Ta Go.Proofs.YtccenpmaooailaaGreat.Tb Go.Proofs.YtccenpmaooailaaGreat.Td Go.Proofs.YtccenpmaooailaaGreat.Te Go.Proofs.YtccenpmaooailaaGreat.Tg Go.Proofs.YtccenpmaooailaaGreat.Tl Go.Proofs.YtccenpmaooailaaGreat.Hi Go.Proofs.YtccenpmaooailaaGreat.Hj Go.Proofs.YtccenpmaooailaaGreat.Yk Go.Proofs.YtccenpmaooailaaGreat.Ih

set_option maxHeartbeats 60000000 in
set_option maxRecDepth 100000 in
theorem walk (A : Option Addr) (c : Nat) (bs : List Int) (w : World) (hC : (Kd.int .u8).C w A bs.length bs) (hc : bs.length ≤ c) (hb : ∀ b ∈ bs, 0 ≤ b ∧ b ≤ 255) :
    Calls Tryz.prog 3 #[.slice A bs.length c] w fun e w' => e = .returned (.bool true) ∧ Below w.heap.size w w' := by
  by_cases hbig : bs.length > 1048576
  · have d1 : decide ((bs.length : Int) > 1048576) = true := decide_eq_true (by omega)
    go_enter Tryz.func3, Tryz.ntmps3
    go_wp2
    go_ret
    exact ⟨rfl, Below.refl _ _⟩
  have d1 : decide ((bs.length : Int) > 1048576) = false := decide_eq_false (by omega)
  go_enter Tryz.func3, Tryz.ntmps3
  go_upto_region 4 with (go_at_call 10; refine (drawSpanNot_any A c bs _ hC hc hb).mono ?_; rintro e w0 ⟨md, l, r, a, b, d, A0, A1, A2, A3, A4, c0, c1, c2, c3, c4, rfl, hl0, hr0, ha0, hb0, hd0, hbel⟩; have HL := Aside0.mk hl0; have HR := Aside0.mk hr0; have HE := Aside0.mk ha0; have HI := Aside0.mk hb0; have HK := Aside0.mk hd0; have HBW := Aside0.mk hbel; clear hl0 hr0 ha0 hb0 hd0 hbel)
  have hCw := Kd.C_below hC (Below.refl w.heap.size w)
  obtain ⟨p, hp⟩ : ∃ p, p5n md l r a b d = p := ⟨_, rfl⟩
  obtain ⟨u, hu⟩ : ∃ u, p5e md l r a b d = u := ⟨_, rfl⟩
  have Hp := Aside0.mk hp
  have Hu := Aside0.mk hu
  clear hp hu
  have hba := below_alloc (Below.refl w0.heap.size w0) (.cells #[.slice A0 l.length c0, .slice A1 r.length c1] 25)
  have bP := blk_new w0 (.cells #[.slice A0 l.length c0, .slice A1 r.length c1] 25)
  replace HL := Aside0.mk (HL.out.below hba)
  replace HR := Aside0.mk (HR.out.below hba)
  replace HE := Aside0.mk (HE.out.below hba)
  replace HI := Aside0.mk (HI.out.below hba)
  replace HK := Aside0.mk (HK.out.below hba)
  replace HBW := Aside0.mk (below_then HBW.out HBW.out.size hba)
  have HCW := Aside0.mk hCw
  clear hC hCw hba
  generalize w0.alloc (.cells #[.slice A0 l.length c0, .slice A1 r.length c1] 25) = W0 at *
  generalize w0.heap.size = V0 at *
  have q0 := (blk_cell bP 0).trans rfl
  have q1 := (blk_cell bP 1).trans rfl
  go_upto_region 5 with (go_at_call 11; refine (iSpanNot md A0 A1 A2 A3 A4 c0 c1 c2 c3 c4 l r a b d p _ Hp.out HL.out HR.out HE.out HI.out HK.out).mono ?_; rintro e w1 ⟨X1, xc1, Y1, yc1, Z1, zc1, rfl, hx1, hy1, hz1, hb1⟩; have HX1 := Aside0.mk hx1; have HY1 := Aside0.mk hy1; have HZ1 := Aside0.mk hz1; have HC1 := Aside0.mk hb1; clear hx1 hy1 hz1 hb1)
  clear q0 q1
  have hba := below_alloc (Below.refl w1.heap.size w1) (.cells #[.slice X1 p.a.length xc1, .slice Y1 p.b.length yc1] 25)
  have bX1 := blk_new w1 (.cells #[.slice X1 p.a.length xc1, .slice Y1 p.b.length yc1] 25)
  have hbk := below_then HC1.out HC1.out.size hba
  replace HX1 := Aside0.mk (HX1.out.below hba)
  replace HY1 := Aside0.mk (HY1.out.below hba)
  replace HZ1 := Aside0.mk (HZ1.out.below hba)
  replace HL := Aside0.mk (HL.out.below hbk)
  replace HR := Aside0.mk (HR.out.below hbk)
  replace HE := Aside0.mk (HE.out.below hbk)
  replace HI := Aside0.mk (HI.out.below hbk)
  replace HK := Aside0.mk (HK.out.below hbk)
  replace bP := blk_below bP hbk
  replace HBW := Aside0.mk (below_then HBW.out HBW.out.size hbk)
  generalize w1.alloc (.cells #[.slice X1 p.a.length xc1, .slice Y1 p.b.length yc1] 25) = W1 at *
  generalize w1.heap.size = V1 at *
  clear hba hbk HC1
  have q0 := (blk_cell bP 0).trans rfl
  have q1 := (blk_cell bP 1).trans rfl
  go_upto_region 6 with (go_at_call 12; refine (sSpanNot md A0 A1 A2 A3 A4 c0 c1 c2 c3 c4 l r a b d p _ Hp.out HL.out HR.out HE.out HI.out HK.out).mono ?_; rintro e w2 ⟨X2, xc2, Y2, yc2, Z2, zc2, rfl, hx2, hy2, hz2, hb2⟩; have HX2 := Aside0.mk hx2; have HY2 := Aside0.mk hy2; have HZ2 := Aside0.mk hz2; have HC2 := Aside0.mk hb2; clear hx2 hy2 hz2 hb2)
  clear q0 q1
  have hba := below_alloc (Below.refl w2.heap.size w2) (.cells #[.slice X2 p.a.length xc2, .slice Y2 p.b.length yc2] 25)
  have bX2 := blk_new w2 (.cells #[.slice X2 p.a.length xc2, .slice Y2 p.b.length yc2] 25)
  have hbk := below_then HC2.out HC2.out.size hba
  replace HX2 := Aside0.mk (HX2.out.below hba)
  replace HY2 := Aside0.mk (HY2.out.below hba)
  replace HZ2 := Aside0.mk (HZ2.out.below hba)
  replace HL := Aside0.mk (HL.out.below hbk)
  replace HR := Aside0.mk (HR.out.below hbk)
  replace HE := Aside0.mk (HE.out.below hbk)
  replace HI := Aside0.mk (HI.out.below hbk)
  replace HK := Aside0.mk (HK.out.below hbk)
  replace HX1 := Aside0.mk (HX1.out.below hbk)
  replace HY1 := Aside0.mk (HY1.out.below hbk)
  replace HZ1 := Aside0.mk (HZ1.out.below hbk)
  replace bX1 := blk_below bX1 hbk
  replace bP := blk_below bP hbk
  replace HBW := Aside0.mk (below_then HBW.out HBW.out.size hbk)
  generalize w2.alloc (.cells #[.slice X2 p.a.length xc2, .slice Y2 p.b.length yc2] 25) = W2 at *
  generalize w2.heap.size = V2 at *
  clear hba hbk HC2
  have q0 := (blk_cell bP 0).trans rfl
  have q1 := (blk_cell bP 1).trans rfl
  go_upto_region 7 with (go_at_call 13; refine (iSpanEach md A0 A1 A2 A3 A4 c0 c1 c2 c3 c4 l r a b d u _ Hu.out HL.out HR.out HE.out HI.out HK.out).mono ?_; rintro e w3 ⟨X3, xc3, Y3, yc3, Z3, zc3, rfl, hx3, hy3, hz3, hb3⟩; have HX3 := Aside0.mk hx3; have HY3 := Aside0.mk hy3; have HZ3 := Aside0.mk hz3; have HC3 := Aside0.mk hb3; clear hx3 hy3 hz3 hb3)
  clear q0 q1
  have hba := below_alloc (Below.refl w3.heap.size w3) (.cells #[.slice X3 u.a.length xc3, .slice Y3 u.b.length yc3] 25)
  have bX3 := blk_new w3 (.cells #[.slice X3 u.a.length xc3, .slice Y3 u.b.length yc3] 25)
  have hbk := below_then HC3.out HC3.out.size hba
  replace HX3 := Aside0.mk (HX3.out.below hba)
  replace HY3 := Aside0.mk (HY3.out.below hba)
  replace HZ3 := Aside0.mk (HZ3.out.below hba)
  replace HL := Aside0.mk (HL.out.below hbk)
  replace HR := Aside0.mk (HR.out.below hbk)
  replace HE := Aside0.mk (HE.out.below hbk)
  replace HI := Aside0.mk (HI.out.below hbk)
  replace HK := Aside0.mk (HK.out.below hbk)
  replace HX1 := Aside0.mk (HX1.out.below hbk)
  replace HY1 := Aside0.mk (HY1.out.below hbk)
  replace HZ1 := Aside0.mk (HZ1.out.below hbk)
  replace bX1 := blk_below bX1 hbk
  replace HX2 := Aside0.mk (HX2.out.below hbk)
  replace HY2 := Aside0.mk (HY2.out.below hbk)
  replace HZ2 := Aside0.mk (HZ2.out.below hbk)
  replace bX2 := blk_below bX2 hbk
  replace bP := blk_below bP hbk
  replace HBW := Aside0.mk (below_then HBW.out HBW.out.size hbk)
  generalize w3.alloc (.cells #[.slice X3 u.a.length xc3, .slice Y3 u.b.length yc3] 25) = W3 at *
  generalize w3.heap.size = V3 at *
  clear hba hbk HC3
  have q0 := (blk_cell bP 0).trans rfl
  have q1 := (blk_cell bP 1).trans rfl
  go_upto_region 8 with (go_at_call 14; refine (sSpanEach md A0 A1 A2 A3 A4 c0 c1 c2 c3 c4 l r a b d u _ Hu.out HL.out HR.out HE.out HI.out HK.out).mono ?_; rintro e w4 ⟨X4, xc4, Y4, yc4, Z4, zc4, rfl, hx4, hy4, hz4, hb4⟩; have HX4 := Aside0.mk hx4; have HY4 := Aside0.mk hy4; have HZ4 := Aside0.mk hz4; have HC4 := Aside0.mk hb4; clear hx4 hy4 hz4 hb4)
  clear q0 q1
  have hba := below_alloc (Below.refl w4.heap.size w4) (.cells #[.slice X4 u.a.length xc4, .slice Y4 u.b.length yc4] 25)
  have bX4 := blk_new w4 (.cells #[.slice X4 u.a.length xc4, .slice Y4 u.b.length yc4] 25)
  have hbk := below_then HC4.out HC4.out.size hba
  replace HX4 := Aside0.mk (HX4.out.below hba)
  replace HY4 := Aside0.mk (HY4.out.below hba)
  replace HZ4 := Aside0.mk (HZ4.out.below hba)
  replace HL := Aside0.mk (HL.out.below hbk)
  replace HR := Aside0.mk (HR.out.below hbk)
  replace HE := Aside0.mk (HE.out.below hbk)
  replace HI := Aside0.mk (HI.out.below hbk)
  replace HK := Aside0.mk (HK.out.below hbk)
  replace HX1 := Aside0.mk (HX1.out.below hbk)
  replace HY1 := Aside0.mk (HY1.out.below hbk)
  replace HZ1 := Aside0.mk (HZ1.out.below hbk)
  replace bX1 := blk_below bX1 hbk
  replace HX2 := Aside0.mk (HX2.out.below hbk)
  replace HY2 := Aside0.mk (HY2.out.below hbk)
  replace HZ2 := Aside0.mk (HZ2.out.below hbk)
  replace bX2 := blk_below bX2 hbk
  replace HX3 := Aside0.mk (HX3.out.below hbk)
  replace HY3 := Aside0.mk (HY3.out.below hbk)
  replace HZ3 := Aside0.mk (HZ3.out.below hbk)
  replace bX3 := blk_below bX3 hbk
  replace bP := blk_below bP hbk
  replace HBW := Aside0.mk (below_then HBW.out HBW.out.size hbk)
  generalize w4.alloc (.cells #[.slice X4 u.a.length xc4, .slice Y4 u.b.length yc4] 25) = W4 at *
  generalize w4.heap.size = V4 at *
  clear hba hbk HC4
  go_upto_region 9 with (go_at_call 15; refine (drawSpanSame_any A c bs _ (Kd.C_below HCW.out HBW.out) hc hb).mono ?_; rintro e w5 ⟨m, n, o, q, D0, D1, D2, D3, d0, d1, d2, d3, rfl, hm0, hn0, ho0, hq0, hbel⟩; have HMm := Aside0.mk hm0; have HMn := Aside0.mk hn0; have HMo := Aside0.mk ho0; have HMq := Aside0.mk hq0; have HC5 := Aside0.mk hbel; clear hm0 hn0 ho0 hq0 hbel)
  have hba : Below w5.heap.size w5 ((w5.alloc (.cells #[.slice D0 m.length d0, .slice D1 n.length d1] 25)).alloc (.cells #[.slice D2 o.length d2, .slice D3 q.length d3] 25)) := below_alloc (below_alloc (Below.refl _ _) _) _
  have bX5 := blk_alloc (blk_new w5 (.cells #[.slice D0 m.length d0, .slice D1 n.length d1] 25)) (.cells #[.slice D2 o.length d2, .slice D3 q.length d3] 25)
  have bX6 : ((w5.alloc (.cells #[.slice D0 m.length d0, .slice D1 n.length d1] 25)).alloc (.cells #[.slice D2 o.length d2, .slice D3 q.length d3] 25)).heap[w5.heap.size + 1]? = some (.cells #[.slice D2 o.length d2, .slice D3 q.length d3] 25 (0, 0)) := by
    have h := blk_new (w5.alloc (.cells #[.slice D0 m.length d0, .slice D1 n.length d1] 25)) (.cells #[.slice D2 o.length d2, .slice D3 q.length d3] 25)
    rw [show (w5.alloc (.cells #[.slice D0 m.length d0, .slice D1 n.length d1] 25)).heap.size = w5.heap.size + 1 by simp] at h
    exact h
  have hbk := below_then HC5.out HC5.out.size hba
  replace HMm := Aside0.mk (HMm.out.below hba)
  replace HMn := Aside0.mk (HMn.out.below hba)
  replace HMo := Aside0.mk (HMo.out.below hba)
  replace HMq := Aside0.mk (HMq.out.below hba)
  replace HL := Aside0.mk (HL.out.below hbk)
  replace HR := Aside0.mk (HR.out.below hbk)
  replace HE := Aside0.mk (HE.out.below hbk)
  replace HI := Aside0.mk (HI.out.below hbk)
  replace HK := Aside0.mk (HK.out.below hbk)
  replace HX1 := Aside0.mk (HX1.out.below hbk)
  replace HY1 := Aside0.mk (HY1.out.below hbk)
  replace HZ1 := Aside0.mk (HZ1.out.below hbk)
  replace HX2 := Aside0.mk (HX2.out.below hbk)
  replace HY2 := Aside0.mk (HY2.out.below hbk)
  replace HZ2 := Aside0.mk (HZ2.out.below hbk)
  replace HX3 := Aside0.mk (HX3.out.below hbk)
  replace HY3 := Aside0.mk (HY3.out.below hbk)
  replace HZ3 := Aside0.mk (HZ3.out.below hbk)
  replace HX4 := Aside0.mk (HX4.out.below hbk)
  replace HY4 := Aside0.mk (HY4.out.below hbk)
  replace HZ4 := Aside0.mk (HZ4.out.below hbk)
  replace bX1 := blk_below bX1 hbk
  replace bX2 := blk_below bX2 hbk
  replace bX3 := blk_below bX3 hbk
  replace bX4 := blk_below bX4 hbk
  replace bP := blk_below bP hbk
  replace HBW := Aside0.mk (below_then HBW.out HBW.out.size hbk)
  generalize (w5.alloc (.cells #[.slice D0 m.length d0, .slice D1 n.length d1] 25)).alloc (.cells #[.slice D2 o.length d2, .slice D3 q.length d3] 25) = W5 at *
  generalize w5.heap.size + 1 = V6 at *
  generalize w5.heap.size = V5 at *
  clear hba hbk HC5 HCW
  obtain ⟨v1, hv1⟩ : ∃ v, (decide (m = o) && decide (n = q)) = v := ⟨_, rfl⟩
  obtain ⟨v2, hv2⟩ : ∃ v, (okOs m && okOs n) = v := ⟨_, rfl⟩
  have HV1 := Aside0.mk hv1
  have HV2 := Aside0.mk hv2
  clear hv1 hv2
  have HF9 : Aside0 (∀ w', Below W5.heap.size W5 w' → (fun w' => (w'.cell? ⟨V1, 0, none⟩ = some (.slice X1 p.a.length xc1) ∧ w'.cell? ⟨V1, 1, none⟩ = some (.slice Y1 p.b.length yc1)) ∧ (w'.cell? ⟨V2, 0, none⟩ = some (.slice X2 p.a.length xc2) ∧ w'.cell? ⟨V2, 1, none⟩ = some (.slice Y2 p.b.length yc2)) ∧ (w'.cell? ⟨V3, 0, none⟩ = some (.slice X3 u.a.length xc3) ∧ w'.cell? ⟨V3, 1, none⟩ = some (.slice Y3 u.b.length yc3)) ∧ (w'.cell? ⟨V4, 0, none⟩ = some (.slice X4 u.a.length xc4) ∧ w'.cell? ⟨V4, 1, none⟩ = some (.slice Y4 u.b.length yc4)) ∧ (w'.cell? ⟨V5, 0, none⟩ = some (.slice D0 m.length d0) ∧ w'.cell? ⟨V5, 1, none⟩ = some (.slice D1 n.length d1)) ∧ (w'.cell? ⟨V6, 0, none⟩ = some (.slice D2 o.length d2) ∧ w'.cell? ⟨V6, 1, none⟩ = some (.slice D3 q.length d3))) w') := ⟨fun w' h => ⟨⟨(blk_cell (blk_below bX1 h) 0).trans rfl, (blk_cell (blk_below bX1 h) 1).trans rfl⟩, ⟨(blk_cell (blk_below bX2 h) 0).trans rfl, (blk_cell (blk_below bX2 h) 1).trans rfl⟩, ⟨(blk_cell (blk_below bX3 h) 0).trans rfl, (blk_cell (blk_below bX3 h) 1).trans rfl⟩, ⟨(blk_cell (blk_below bX4 h) 0).trans rfl, (blk_cell (blk_below bX4 h) 1).trans rfl⟩, ⟨(blk_cell (blk_below bX5 h) 0).trans rfl, (blk_cell (blk_below bX5 h) 1).trans rfl⟩, ⟨(blk_cell (blk_below bX6 h) 0).trans rfl, (blk_cell (blk_below bX6 h) 1).trans rfl⟩⟩⟩
  have HB0 : Below W5.heap.size W5 W5.drew := below_drew (Below.refl _ _)
  have nv1 : (v1 != v1) = false := by simp
  have nv2 : (v2 != v2) = false := by simp
  refine Za.regionL (fun w' => (w'.cell? ⟨V1, 0, none⟩ = some (.slice X1 p.a.length xc1) ∧ w'.cell? ⟨V1, 1, none⟩ = some (.slice Y1 p.b.length yc1)) ∧ (w'.cell? ⟨V2, 0, none⟩ = some (.slice X2 p.a.length xc2) ∧ w'.cell? ⟨V2, 1, none⟩ = some (.slice Y2 p.b.length yc2)) ∧ (w'.cell? ⟨V3, 0, none⟩ = some (.slice X3 u.a.length xc3) ∧ w'.cell? ⟨V3, 1, none⟩ = some (.slice Y3 u.b.length yc3)) ∧ (w'.cell? ⟨V4, 0, none⟩ = some (.slice X4 u.a.length xc4) ∧ w'.cell? ⟨V4, 1, none⟩ = some (.slice Y4 u.b.length yc4)) ∧ (w'.cell? ⟨V5, 0, none⟩ = some (.slice D0 m.length d0) ∧ w'.cell? ⟨V5, 1, none⟩ = some (.slice D1 n.length d1)) ∧ (w'.cell? ⟨V6, 0, none⟩ = some (.slice D2 o.length d2) ∧ w'.cell? ⟨V6, 1, none⟩ = some (.slice D3 q.length d3))) [] (by kernel_rfl) ?_
  have HS : (fun w' => (w'.cell? ⟨V1, 0, none⟩ = some (.slice X1 p.a.length xc1) ∧ w'.cell? ⟨V1, 1, none⟩ = some (.slice Y1 p.b.length yc1)) ∧ (w'.cell? ⟨V2, 0, none⟩ = some (.slice X2 p.a.length xc2) ∧ w'.cell? ⟨V2, 1, none⟩ = some (.slice Y2 p.b.length yc2)) ∧ (w'.cell? ⟨V3, 0, none⟩ = some (.slice X3 u.a.length xc3) ∧ w'.cell? ⟨V3, 1, none⟩ = some (.slice Y3 u.b.length yc3)) ∧ (w'.cell? ⟨V4, 0, none⟩ = some (.slice X4 u.a.length xc4) ∧ w'.cell? ⟨V4, 1, none⟩ = some (.slice Y4 u.b.length yc4)) ∧ (w'.cell? ⟨V5, 0, none⟩ = some (.slice D0 m.length d0) ∧ w'.cell? ⟨V5, 1, none⟩ = some (.slice D1 n.length d1)) ∧ (w'.cell? ⟨V6, 0, none⟩ = some (.slice D2 o.length d2) ∧ w'.cell? ⟨V6, 1, none⟩ = some (.slice D3 q.length d3))) W5.drew := HF9.out _ HB0
  refine Za.takeL 0 (v := ?vn0) rfl (by kernel_rfl) (by kernel_rfl) (by kernel_rfl) (by kernel_rfl) (fun _ _ _ h => h) (Or.inl ⟨by rfl, ?hyn0⟩) HS ?restn0
  case hyn0 => (intro w hSw; (try dsimp only at hSw); go_simp; try with_reducible rfl)
  (try simp only [Act.put, List.setIfInBounds_toArray, List.set_cons_zero, List.set_cons_succ])
  refine Za.takeL 1 (v := ?vn1) rfl (by kernel_rfl) (by kernel_rfl) (by kernel_rfl) (by kernel_rfl) (fun _ _ _ h => h) (Or.inl ⟨by rfl, ?hyn1⟩) HS ?restn1
  case hyn1 => (intro w hSw; (try dsimp only at hSw); go_simp; try with_reducible rfl)
  (try simp only [Act.put, List.setIfInBounds_toArray, List.set_cons_zero, List.set_cons_succ])
  clear HS
  refine Za.nextL 2 (by kernel_rfl) rfl (fun K' hK => ?_)
  go_simp
  (go_at_call 16; refine (spanSame_any X1 Y1 X2 Y2 xc1 yc1 xc2 yc2 p.a p.b p.a p.b _ ((HX1.out.below HB0)) ((HY1.out.below HB0)) ((HX2.out.below HB0)) ((HY2.out.below HB0))).mono ?_; rintro e w92 ⟨rfl, hb9⟩; have HB92 : Below W5.heap.size W5 w92 := keepD hb9; rw [show ∀ (x y : List Occ), (decide (x = x) && decide (y = y)) = true from fun x y => by simp]; clear hb9)
  go_wp2_with fail
  refine hK.out _ _ ⟨fun _ => HF9.out _ HB92, ?_⟩
  clear hK K'
  (try simp only [Act.put, List.setIfInBounds_toArray, List.set_cons_zero, List.set_cons_succ])
  have HS : (fun w' => (w'.cell? ⟨V1, 0, none⟩ = some (.slice X1 p.a.length xc1) ∧ w'.cell? ⟨V1, 1, none⟩ = some (.slice Y1 p.b.length yc1)) ∧ (w'.cell? ⟨V2, 0, none⟩ = some (.slice X2 p.a.length xc2) ∧ w'.cell? ⟨V2, 1, none⟩ = some (.slice Y2 p.b.length yc2)) ∧ (w'.cell? ⟨V3, 0, none⟩ = some (.slice X3 u.a.length xc3) ∧ w'.cell? ⟨V3, 1, none⟩ = some (.slice Y3 u.b.length yc3)) ∧ (w'.cell? ⟨V4, 0, none⟩ = some (.slice X4 u.a.length xc4) ∧ w'.cell? ⟨V4, 1, none⟩ = some (.slice Y4 u.b.length yc4)) ∧ (w'.cell? ⟨V5, 0, none⟩ = some (.slice D0 m.length d0) ∧ w'.cell? ⟨V5, 1, none⟩ = some (.slice D1 n.length d1)) ∧ (w'.cell? ⟨V6, 0, none⟩ = some (.slice D2 o.length d2) ∧ w'.cell? ⟨V6, 1, none⟩ = some (.slice D3 q.length d3))) w92 := HF9.out _ HB92
  refine Za.takeL 3 (v := ?vn3) rfl (by kernel_rfl) (by kernel_rfl) (by kernel_rfl) (by kernel_rfl) (fun _ _ _ h => h) (Or.inl ⟨by rfl, ?hyn3⟩) HS ?restn3
  case hyn3 => (intro w hSw; (try dsimp only at hSw); go_simp; try with_reducible rfl)
  (try simp only [Act.put, List.setIfInBounds_toArray, List.set_cons_zero, List.set_cons_succ])
  refine Za.takeL 4 (v := ?vn4) rfl (by kernel_rfl) (by kernel_rfl) (by kernel_rfl) (by kernel_rfl) (fun _ _ _ h => h) (Or.inl ⟨by rfl, ?hyn4⟩) HS ?restn4
  case hyn4 => (intro w hSw; (try dsimp only at hSw); go_simp; try with_reducible rfl)
  (try simp only [Act.put, List.setIfInBounds_toArray, List.set_cons_zero, List.set_cons_succ])
  refine Za.takeL 5 (v := ?vn5) rfl (by kernel_rfl) (by kernel_rfl) (by kernel_rfl) (by kernel_rfl) (fun _ _ _ h => h) (Or.inl ⟨by rfl, ?hyn5⟩) HS ?restn5
  case hyn5 => (intro w hSw; (try dsimp only at hSw); go_simp; try with_reducible rfl)
  (try simp only [Act.put, List.setIfInBounds_toArray, List.set_cons_zero, List.set_cons_succ])
  refine Za.takeL 6 (v := ?vn6) rfl (by kernel_rfl) (by kernel_rfl) (by kernel_rfl) (by kernel_rfl) (fun _ _ _ h => h) (Or.inl ⟨by rfl, ?hyn6⟩) HS ?restn6
  case hyn6 => (intro w hSw; (try dsimp only at hSw); go_simp; try with_reducible rfl)
  (try simp only [Act.put, List.setIfInBounds_toArray, List.set_cons_zero, List.set_cons_succ])
  clear HS
  refine Za.nextL 7 (by kernel_rfl) rfl (fun K' hK => ?_)
  go_simp
  (go_at_call 17; refine (occsSame_any Z1 Z2 zc1 zc2 p.c p.c _ ((HZ1.out.below HB92).rd) ((HZ2.out.below HB92).rd)).mono ?_; rintro e w97 ⟨rfl, hb9⟩; have HB97 : Below W5.heap.size W5 w97 := below_then HB92 HB92.size hb9; rw [decide_eq_true rfl]; clear hb9)
  go_wp2_with fail
  refine hK.out _ _ ⟨fun _ => HF9.out _ HB97, ?_⟩
  clear hK K'
  (try simp only [Act.put, List.setIfInBounds_toArray, List.set_cons_zero, List.set_cons_succ])
  have HS : (fun w' => (w'.cell? ⟨V1, 0, none⟩ = some (.slice X1 p.a.length xc1) ∧ w'.cell? ⟨V1, 1, none⟩ = some (.slice Y1 p.b.length yc1)) ∧ (w'.cell? ⟨V2, 0, none⟩ = some (.slice X2 p.a.length xc2) ∧ w'.cell? ⟨V2, 1, none⟩ = some (.slice Y2 p.b.length yc2)) ∧ (w'.cell? ⟨V3, 0, none⟩ = some (.slice X3 u.a.length xc3) ∧ w'.cell? ⟨V3, 1, none⟩ = some (.slice Y3 u.b.length yc3)) ∧ (w'.cell? ⟨V4, 0, none⟩ = some (.slice X4 u.a.length xc4) ∧ w'.cell? ⟨V4, 1, none⟩ = some (.slice Y4 u.b.length yc4)) ∧ (w'.cell? ⟨V5, 0, none⟩ = some (.slice D0 m.length d0) ∧ w'.cell? ⟨V5, 1, none⟩ = some (.slice D1 n.length d1)) ∧ (w'.cell? ⟨V6, 0, none⟩ = some (.slice D2 o.length d2) ∧ w'.cell? ⟨V6, 1, none⟩ = some (.slice D3 q.length d3))) w97 := HF9.out _ HB97
  refine Za.takeL 8 (v := ?vn8) rfl (by kernel_rfl) (by kernel_rfl) (by kernel_rfl) (by kernel_rfl) (fun _ _ _ h => h) (Or.inl ⟨by rfl, ?hyn8⟩) HS ?restn8
  case hyn8 => (intro w hSw; (try dsimp only at hSw); go_simp; try with_reducible rfl)
  (try simp only [Act.put, List.setIfInBounds_toArray, List.set_cons_zero, List.set_cons_succ])
  refine Za.takeL 9 (v := ?vn9) rfl (by kernel_rfl) (by kernel_rfl) (by kernel_rfl) (by kernel_rfl) (fun _ _ _ h => h) (Or.inl ⟨by rfl, ?hyn9⟩) HS ?restn9
  case hyn9 => (intro w hSw; (try dsimp only at hSw); go_simp; try with_reducible rfl)
  (try simp only [Act.put, List.setIfInBounds_toArray, List.set_cons_zero, List.set_cons_succ])
  refine Za.takeL 10 (v := ?vn10) rfl (by kernel_rfl) (by kernel_rfl) (by kernel_rfl) (by kernel_rfl) (fun _ _ _ h => h) (Or.inl ⟨by rfl, ?hyn10⟩) HS ?restn10
  case hyn10 => (intro w hSw; (try dsimp only at hSw); go_simp; try with_reducible rfl)
  (try simp only [Act.put, List.setIfInBounds_toArray, List.set_cons_zero, List.set_cons_succ])
  refine Za.takeL 11 (v := ?vn11) rfl (by kernel_rfl) (by kernel_rfl) (by kernel_rfl) (by kernel_rfl) (fun _ _ _ h => h) (Or.inl ⟨by rfl, ?hyn11⟩) HS ?restn11
  case hyn11 => (intro w hSw; (try dsimp only at hSw); go_simp; try with_reducible rfl)
  (try simp only [Act.put, List.setIfInBounds_toArray, List.set_cons_zero, List.set_cons_succ])
  refine Za.takeL 12 (v := ?vn12) rfl (by kernel_rfl) (by kernel_rfl) (by kernel_rfl) (by kernel_rfl) (fun _ _ _ h => h) (Or.inl ⟨by rfl, ?hyn12⟩) HS ?restn12
  case hyn12 => (intro w hSw; (try dsimp only at hSw); go_simp; try with_reducible rfl)
  (try simp only [Act.put, List.setIfInBounds_toArray, List.set_cons_zero, List.set_cons_succ])
  clear HS
  refine Za.nextL 13 (by kernel_rfl) rfl (fun K' hK => ?_)
  go_simp
  (go_at_call 16; refine (spanSame_any X3 Y3 X4 Y4 xc3 yc3 xc4 yc4 u.a u.b u.a u.b _ ((HX3.out.below HB97)) ((HY3.out.below HB97)) ((HX4.out.below HB97)) ((HY4.out.below HB97))).mono ?_; rintro e w913 ⟨rfl, hb9⟩; have HB913 : Below W5.heap.size W5 w913 := below_then HB97 HB97.size hb9; rw [show ∀ (x y : List Occ), (decide (x = x) && decide (y = y)) = true from fun x y => by simp]; clear hb9)
  go_wp2_with fail
  refine hK.out _ _ ⟨fun _ => HF9.out _ HB913, ?_⟩
  clear hK K'
  (try simp only [Act.put, List.setIfInBounds_toArray, List.set_cons_zero, List.set_cons_succ])
  have HS : (fun w' => (w'.cell? ⟨V1, 0, none⟩ = some (.slice X1 p.a.length xc1) ∧ w'.cell? ⟨V1, 1, none⟩ = some (.slice Y1 p.b.length yc1)) ∧ (w'.cell? ⟨V2, 0, none⟩ = some (.slice X2 p.a.length xc2) ∧ w'.cell? ⟨V2, 1, none⟩ = some (.slice Y2 p.b.length yc2)) ∧ (w'.cell? ⟨V3, 0, none⟩ = some (.slice X3 u.a.length xc3) ∧ w'.cell? ⟨V3, 1, none⟩ = some (.slice Y3 u.b.length yc3)) ∧ (w'.cell? ⟨V4, 0, none⟩ = some (.slice X4 u.a.length xc4) ∧ w'.cell? ⟨V4, 1, none⟩ = some (.slice Y4 u.b.length yc4)) ∧ (w'.cell? ⟨V5, 0, none⟩ = some (.slice D0 m.length d0) ∧ w'.cell? ⟨V5, 1, none⟩ = some (.slice D1 n.length d1)) ∧ (w'.cell? ⟨V6, 0, none⟩ = some (.slice D2 o.length d2) ∧ w'.cell? ⟨V6, 1, none⟩ = some (.slice D3 q.length d3))) w913 := HF9.out _ HB913
  refine Za.takeL 14 (v := ?vn14) rfl (by kernel_rfl) (by kernel_rfl) (by kernel_rfl) (by kernel_rfl) (fun _ _ _ h => h) (Or.inl ⟨by rfl, ?hyn14⟩) HS ?restn14
  case hyn14 => (intro w hSw; (try dsimp only at hSw); go_simp; try with_reducible rfl)
  (try simp only [Act.put, List.setIfInBounds_toArray, List.set_cons_zero, List.set_cons_succ])
  refine Za.takeL 15 (v := ?vn15) rfl (by kernel_rfl) (by kernel_rfl) (by kernel_rfl) (by kernel_rfl) (fun _ _ _ h => h) (Or.inl ⟨by rfl, ?hyn15⟩) HS ?restn15
  case hyn15 => (intro w hSw; (try dsimp only at hSw); go_simp; try with_reducible rfl)
  (try simp only [Act.put, List.setIfInBounds_toArray, List.set_cons_zero, List.set_cons_succ])
  refine Za.takeL 16 (v := ?vn16) rfl (by kernel_rfl) (by kernel_rfl) (by kernel_rfl) (by kernel_rfl) (fun _ _ _ h => h) (Or.inl ⟨by rfl, ?hyn16⟩) HS ?restn16
  case hyn16 => (intro w hSw; (try dsimp only at hSw); go_simp; try with_reducible rfl)
  (try simp only [Act.put, List.setIfInBounds_toArray, List.set_cons_zero, List.set_cons_succ])
  refine Za.takeL 17 (v := ?vn17) rfl (by kernel_rfl) (by kernel_rfl) (by kernel_rfl) (by kernel_rfl) (fun _ _ _ h => h) (Or.inl ⟨by rfl, ?hyn17⟩) HS ?restn17
  case hyn17 => (intro w hSw; (try dsimp only at hSw); go_simp; try with_reducible rfl)
  (try simp only [Act.put, List.setIfInBounds_toArray, List.set_cons_zero, List.set_cons_succ])
  refine Za.takeL 18 (v := ?vn18) rfl (by kernel_rfl) (by kernel_rfl) (by kernel_rfl) (by kernel_rfl) (fun _ _ _ h => h) (Or.inl ⟨by rfl, ?hyn18⟩) HS ?restn18
  case hyn18 => (intro w hSw; (try dsimp only at hSw); go_simp; try with_reducible rfl)
  (try simp only [Act.put, List.setIfInBounds_toArray, List.set_cons_zero, List.set_cons_succ])
  clear HS
  refine Za.nextL 19 (by kernel_rfl) rfl (fun K' hK => ?_)
  go_simp
  (go_at_call 17; refine (occsSame_any Z3 Z4 zc3 zc4 u.c u.c _ ((HZ3.out.below HB913).rd) ((HZ4.out.below HB913).rd)).mono ?_; rintro e w919 ⟨rfl, hb9⟩; have HB919 : Below W5.heap.size W5 w919 := below_then HB913 HB913.size hb9; rw [decide_eq_true rfl]; clear hb9)
  go_wp2_with fail
  refine hK.out _ _ ⟨fun _ => HF9.out _ HB919, ?_⟩
  clear hK K'
  (try simp only [Act.put, List.setIfInBounds_toArray, List.set_cons_zero, List.set_cons_succ])
  have HS : (fun w' => (w'.cell? ⟨V1, 0, none⟩ = some (.slice X1 p.a.length xc1) ∧ w'.cell? ⟨V1, 1, none⟩ = some (.slice Y1 p.b.length yc1)) ∧ (w'.cell? ⟨V2, 0, none⟩ = some (.slice X2 p.a.length xc2) ∧ w'.cell? ⟨V2, 1, none⟩ = some (.slice Y2 p.b.length yc2)) ∧ (w'.cell? ⟨V3, 0, none⟩ = some (.slice X3 u.a.length xc3) ∧ w'.cell? ⟨V3, 1, none⟩ = some (.slice Y3 u.b.length yc3)) ∧ (w'.cell? ⟨V4, 0, none⟩ = some (.slice X4 u.a.length xc4) ∧ w'.cell? ⟨V4, 1, none⟩ = some (.slice Y4 u.b.length yc4)) ∧ (w'.cell? ⟨V5, 0, none⟩ = some (.slice D0 m.length d0) ∧ w'.cell? ⟨V5, 1, none⟩ = some (.slice D1 n.length d1)) ∧ (w'.cell? ⟨V6, 0, none⟩ = some (.slice D2 o.length d2) ∧ w'.cell? ⟨V6, 1, none⟩ = some (.slice D3 q.length d3))) w919 := HF9.out _ HB919
  refine Za.takeL 20 (v := ?vn20) rfl (by kernel_rfl) (by kernel_rfl) (by kernel_rfl) (by kernel_rfl) (fun _ _ _ h => h) (Or.inl ⟨by rfl, ?hyn20⟩) HS ?restn20
  case hyn20 => (intro w hSw; (try dsimp only at hSw); go_simp; try with_reducible rfl)
  (try simp only [Act.put, List.setIfInBounds_toArray, List.set_cons_zero, List.set_cons_succ])
  refine Za.takeL 21 (v := ?vn21) rfl (by kernel_rfl) (by kernel_rfl) (by kernel_rfl) (by kernel_rfl) (fun _ _ _ h => h) (Or.inl ⟨by rfl, ?hyn21⟩) HS ?restn21
  case hyn21 => (intro w hSw; (try dsimp only at hSw); go_simp; try with_reducible rfl)
  (try simp only [Act.put, List.setIfInBounds_toArray, List.set_cons_zero, List.set_cons_succ])
  refine Za.takeL 22 (v := ?vn22) rfl (by kernel_rfl) (by kernel_rfl) (by kernel_rfl) (by kernel_rfl) (fun _ _ _ h => h) (Or.inl ⟨by rfl, ?hyn22⟩) HS ?restn22
  case hyn22 => (intro w hSw; (try dsimp only at hSw); go_simp; try with_reducible rfl)
  (try simp only [Act.put, List.setIfInBounds_toArray, List.set_cons_zero, List.set_cons_succ])
  refine Za.takeL 23 (v := ?vn23) rfl (by kernel_rfl) (by kernel_rfl) (by kernel_rfl) (by kernel_rfl) (fun _ _ _ h => h) (Or.inl ⟨by rfl, ?hyn23⟩) HS ?restn23
  case hyn23 => (intro w hSw; (try dsimp only at hSw); go_simp; try with_reducible rfl)
  (try simp only [Act.put, List.setIfInBounds_toArray, List.set_cons_zero, List.set_cons_succ])
  refine Za.takeL 24 (v := ?vn24) rfl (by kernel_rfl) (by kernel_rfl) (by kernel_rfl) (by kernel_rfl) (fun _ _ _ h => h) (Or.inl ⟨by rfl, ?hyn24⟩) HS ?restn24
  case hyn24 => (intro w hSw; (try dsimp only at hSw); go_simp; try with_reducible rfl)
  (try simp only [Act.put, List.setIfInBounds_toArray, List.set_cons_zero, List.set_cons_succ])
  refine Za.takeL 26 (v := ?vn26) rfl (by kernel_rfl) (by kernel_rfl) (by kernel_rfl) (by kernel_rfl) (fun _ _ _ h => h) (Or.inl ⟨by rfl, ?hyn26⟩) HS ?restn26
  case hyn26 => (intro w hSw; (try dsimp only at hSw); go_simp; try with_reducible rfl)
  (try simp only [Act.put, List.setIfInBounds_toArray, List.set_cons_zero, List.set_cons_succ])
  refine Za.takeL 27 (v := ?vn27) rfl (by kernel_rfl) (by kernel_rfl) (by kernel_rfl) (by kernel_rfl) (fun _ _ _ h => h) (Or.inl ⟨by rfl, ?hyn27⟩) HS ?restn27
  case hyn27 => (intro w hSw; (try dsimp only at hSw); go_simp; try with_reducible rfl)
  (try simp only [Act.put, List.setIfInBounds_toArray, List.set_cons_zero, List.set_cons_succ])
  clear HS
  refine Za.nextL 25 (by kernel_rfl) rfl (fun K' hK => ?_)
  go_simp
  (go_at_call 16; refine (spanSame_any D0 D1 D2 D3 d0 d1 d2 d3 m n o q _ ((HMm.out.below HB919)) ((HMn.out.below HB919)) ((HMo.out.below HB919)) ((HMq.out.below HB919))).mono ?_; rintro e w925 ⟨rfl, hb9⟩; have HB925 : Below W5.heap.size W5 w925 := below_then HB919 HB919.size hb9; rw [HV1.out]; clear hb9)
  go_wp2_with fail
  refine hK.out _ _ ⟨fun _ => HF9.out _ HB925, ?_⟩
  clear hK K'
  (try simp only [Act.put, List.setIfInBounds_toArray, List.set_cons_zero, List.set_cons_succ])
  have HS : (fun w' => (w'.cell? ⟨V1, 0, none⟩ = some (.slice X1 p.a.length xc1) ∧ w'.cell? ⟨V1, 1, none⟩ = some (.slice Y1 p.b.length yc1)) ∧ (w'.cell? ⟨V2, 0, none⟩ = some (.slice X2 p.a.length xc2) ∧ w'.cell? ⟨V2, 1, none⟩ = some (.slice Y2 p.b.length yc2)) ∧ (w'.cell? ⟨V3, 0, none⟩ = some (.slice X3 u.a.length xc3) ∧ w'.cell? ⟨V3, 1, none⟩ = some (.slice Y3 u.b.length yc3)) ∧ (w'.cell? ⟨V4, 0, none⟩ = some (.slice X4 u.a.length xc4) ∧ w'.cell? ⟨V4, 1, none⟩ = some (.slice Y4 u.b.length yc4)) ∧ (w'.cell? ⟨V5, 0, none⟩ = some (.slice D0 m.length d0) ∧ w'.cell? ⟨V5, 1, none⟩ = some (.slice D1 n.length d1)) ∧ (w'.cell? ⟨V6, 0, none⟩ = some (.slice D2 o.length d2) ∧ w'.cell? ⟨V6, 1, none⟩ = some (.slice D3 q.length d3))) w925 := HF9.out _ HB925
  clear HS
  refine Za.nextL 28 (by kernel_rfl) rfl (fun K' hK => ?_)
  go_simp
  (go_at_call 18; refine (sSpanSame_any D0 D1 D2 D3 d0 d1 d2 d3 m n o q _ ((HMm.out.below HB925)) ((HMn.out.below HB925)) ((HMo.out.below HB925)) ((HMq.out.below HB925))).mono ?_; rintro e w928 ⟨rfl, hb9⟩; have HB928 : Below W5.heap.size W5 w928 := below_then HB925 HB925.size hb9; rw [HV1.out]; clear hb9)
  go_wp2_with fail
  refine hK.out _ _ ⟨fun _ => HF9.out _ HB928, ?_⟩
  clear hK K'
  (try simp only [Act.put, List.setIfInBounds_toArray, List.set_cons_zero, List.set_cons_succ])
  have HS : (fun w' => (w'.cell? ⟨V1, 0, none⟩ = some (.slice X1 p.a.length xc1) ∧ w'.cell? ⟨V1, 1, none⟩ = some (.slice Y1 p.b.length yc1)) ∧ (w'.cell? ⟨V2, 0, none⟩ = some (.slice X2 p.a.length xc2) ∧ w'.cell? ⟨V2, 1, none⟩ = some (.slice Y2 p.b.length yc2)) ∧ (w'.cell? ⟨V3, 0, none⟩ = some (.slice X3 u.a.length xc3) ∧ w'.cell? ⟨V3, 1, none⟩ = some (.slice Y3 u.b.length yc3)) ∧ (w'.cell? ⟨V4, 0, none⟩ = some (.slice X4 u.a.length xc4) ∧ w'.cell? ⟨V4, 1, none⟩ = some (.slice Y4 u.b.length yc4)) ∧ (w'.cell? ⟨V5, 0, none⟩ = some (.slice D0 m.length d0) ∧ w'.cell? ⟨V5, 1, none⟩ = some (.slice D1 n.length d1)) ∧ (w'.cell? ⟨V6, 0, none⟩ = some (.slice D2 o.length d2) ∧ w'.cell? ⟨V6, 1, none⟩ = some (.slice D3 q.length d3))) w928 := HF9.out _ HB928
  refine Za.takeL 29 (v := ?vn29) rfl (by kernel_rfl) (by kernel_rfl) (by kernel_rfl) (by kernel_rfl) (fun _ _ _ h => h) (Or.inl ⟨by rfl, ?hyn29⟩) HS ?restn29
  case hyn29 => (intro w hSw; (try dsimp only at hSw); go_simp; try with_reducible rfl)
  (try simp only [Act.put, List.setIfInBounds_toArray, List.set_cons_zero, List.set_cons_succ])
  refine Za.takeL 30 (v := ?vn30) rfl (by kernel_rfl) (by kernel_rfl) (by kernel_rfl) (by kernel_rfl) (fun _ _ _ h => h) (Or.inl ⟨by rfl, ?hyn30⟩) HS ?restn30
  case hyn30 => (intro w hSw; (try dsimp only at hSw); go_simp; try with_reducible rfl)
  (try simp only [Act.put, List.setIfInBounds_toArray, List.set_cons_zero, List.set_cons_succ])
  refine Za.takeL 31 (v := ?vn31) rfl (by kernel_rfl) (by kernel_rfl) (by kernel_rfl) (by kernel_rfl) (fun _ _ _ h => h) (Or.inl ⟨by rfl, ?hyn31⟩) HS ?restn31
  case hyn31 => (intro w hSw; (try dsimp only at hSw); go_simp; try with_reducible rfl)
  (try simp only [Act.put, List.setIfInBounds_toArray, List.set_cons_zero, List.set_cons_succ])
  refine Za.takeL 32 (v := ?vn32) rfl (by kernel_rfl) (by kernel_rfl) (by kernel_rfl) (by kernel_rfl) (fun _ _ _ h => h) (Or.inl ⟨by rfl, ?hyn32⟩) HS ?restn32
  case hyn32 => (intro w hSw; (try dsimp only at hSw); go_simp; try with_reducible rfl)
  (try simp only [Act.put, List.setIfInBounds_toArray, List.set_cons_zero, List.set_cons_succ])
  refine Za.takeL 34 (v := ?vn34) rfl (by kernel_rfl) (by kernel_rfl) (by kernel_rfl) (by kernel_rfl) (fun _ _ _ h => h) (Or.inl ⟨by rfl, ?hyn34⟩) HS ?restn34
  case hyn34 => (intro w hSw; (try dsimp only at hSw); go_simp; try with_reducible rfl)
  (try simp only [Act.put, List.setIfInBounds_toArray, List.set_cons_zero, List.set_cons_succ])
  clear HS
  refine Za.nextL 33 (by kernel_rfl) rfl (fun K' hK => ?_)
  go_simp
  (go_at_call 19; refine (spanOk_any D0 D1 d0 d1 m n _ ((HMm.out.below HB928)) ((HMn.out.below HB928))).mono ?_; rintro e w933 ⟨rfl, hb9⟩; have HB933 : Below W5.heap.size W5 w933 := below_then HB928 HB928.size hb9; rw [HV2.out]; clear hb9)
  go_wp2_with fail
  refine hK.out _ _ ⟨fun _ => HF9.out _ HB933, ?_⟩
  clear hK K'
  (try simp only [Act.put, List.setIfInBounds_toArray, List.set_cons_zero, List.set_cons_succ])
  have HS : (fun w' => (w'.cell? ⟨V1, 0, none⟩ = some (.slice X1 p.a.length xc1) ∧ w'.cell? ⟨V1, 1, none⟩ = some (.slice Y1 p.b.length yc1)) ∧ (w'.cell? ⟨V2, 0, none⟩ = some (.slice X2 p.a.length xc2) ∧ w'.cell? ⟨V2, 1, none⟩ = some (.slice Y2 p.b.length yc2)) ∧ (w'.cell? ⟨V3, 0, none⟩ = some (.slice X3 u.a.length xc3) ∧ w'.cell? ⟨V3, 1, none⟩ = some (.slice Y3 u.b.length yc3)) ∧ (w'.cell? ⟨V4, 0, none⟩ = some (.slice X4 u.a.length xc4) ∧ w'.cell? ⟨V4, 1, none⟩ = some (.slice Y4 u.b.length yc4)) ∧ (w'.cell? ⟨V5, 0, none⟩ = some (.slice D0 m.length d0) ∧ w'.cell? ⟨V5, 1, none⟩ = some (.slice D1 n.length d1)) ∧ (w'.cell? ⟨V6, 0, none⟩ = some (.slice D2 o.length d2) ∧ w'.cell? ⟨V6, 1, none⟩ = some (.slice D3 q.length d3))) w933 := HF9.out _ HB933
  clear HS
  refine Za.nextL 35 (by kernel_rfl) rfl (fun K' hK => ?_)
  go_simp
  (go_at_call 20; refine (sSpanOk_any D0 D1 d0 d1 m n _ ((HMm.out.below HB933)) ((HMn.out.below HB933))).mono ?_; rintro e w935 ⟨rfl, hb9⟩; have HB935 : Below W5.heap.size W5 w935 := below_then HB933 HB933.size hb9; rw [HV2.out]; clear hb9)
  go_wp2_with fail
  refine hK.out _ _ ⟨fun _ => HF9.out _ HB935, ?_⟩
  clear hK K'
  (try simp only [Act.put, List.setIfInBounds_toArray, List.set_cons_zero, List.set_cons_succ])
  have HS : (fun w' => (w'.cell? ⟨V1, 0, none⟩ = some (.slice X1 p.a.length xc1) ∧ w'.cell? ⟨V1, 1, none⟩ = some (.slice Y1 p.b.length yc1)) ∧ (w'.cell? ⟨V2, 0, none⟩ = some (.slice X2 p.a.length xc2) ∧ w'.cell? ⟨V2, 1, none⟩ = some (.slice Y2 p.b.length yc2)) ∧ (w'.cell? ⟨V3, 0, none⟩ = some (.slice X3 u.a.length xc3) ∧ w'.cell? ⟨V3, 1, none⟩ = some (.slice Y3 u.b.length yc3)) ∧ (w'.cell? ⟨V4, 0, none⟩ = some (.slice X4 u.a.length xc4) ∧ w'.cell? ⟨V4, 1, none⟩ = some (.slice Y4 u.b.length yc4)) ∧ (w'.cell? ⟨V5, 0, none⟩ = some (.slice D0 m.length d0) ∧ w'.cell? ⟨V5, 1, none⟩ = some (.slice D1 n.length d1)) ∧ (w'.cell? ⟨V6, 0, none⟩ = some (.slice D2 o.length d2) ∧ w'.cell? ⟨V6, 1, none⟩ = some (.slice D3 q.length d3))) w935 := HF9.out _ HB935
  refine Za.takeL 36 (v := ?vn36) rfl (by kernel_rfl) (by kernel_rfl) (by kernel_rfl) (by kernel_rfl) (fun _ _ _ h => h) (Or.inl ⟨by rfl, ?hyn36⟩) HS ?restn36
  case hyn36 => (intro w hSw; (try dsimp only at hSw); go_simp; try with_reducible rfl)
  (try simp only [Act.put, List.setIfInBounds_toArray, List.set_cons_zero, List.set_cons_succ])
  refine Za.takeL 37 (v := ?vn37) rfl (by kernel_rfl) (by kernel_rfl) (by kernel_rfl) (by kernel_rfl) (fun _ _ _ h => h) (Or.inl ⟨by rfl, ?hyn37⟩) HS ?restn37
  case hyn37 => (intro w hSw; (try dsimp only at hSw); go_simp; try with_reducible rfl)
  (try simp only [Act.put, List.setIfInBounds_toArray, List.set_cons_zero, List.set_cons_succ])
  refine Za.Walk.done (by kernel_rfl) ?_
  clear HS
  clear nv1 nv2
  go_upto_region 11 with fail
  have hbk := HB935
  clear HB0 HB92 HB97 HB913 HB919 HB925 HB928 HB933 HB935 HF9 HV1 HV2 bX5 bX6 HMm HMn HMo HMq
  replace HL := Aside0.mk (HL.out.below hbk)
  replace HR := Aside0.mk (HR.out.below hbk)
  replace HE := Aside0.mk (HE.out.below hbk)
  replace HI := Aside0.mk (HI.out.below hbk)
  replace HK := Aside0.mk (HK.out.below hbk)
  replace HX1 := Aside0.mk (HX1.out.below hbk)
  replace HY1 := Aside0.mk (HY1.out.below hbk)
  replace HZ1 := Aside0.mk (HZ1.out.below hbk)
  replace HX3 := Aside0.mk (HX3.out.below hbk)
  replace HY3 := Aside0.mk (HY3.out.below hbk)
  replace HZ3 := Aside0.mk (HZ3.out.below hbk)
  replace bP := blk_below bP hbk
  replace bX1 := blk_below bX1 hbk
  replace bX3 := blk_below bX3 hbk
  replace HBW := Aside0.mk (below_then HBW.out HBW.out.size hbk)
  clear hbk
  clear HX2 HY2 HZ2 HX4 HY4 HZ4 bX2 bX4
  generalize w935 = W9 at *
  have pp0 := (blk_cell bP 0).trans rfl
  have pp1 := (blk_cell bP 1).trans rfl
  by_cases h0 : md < 0
  · have e1 : decide (md < 0) = true := decide_eq_true h0
    have hf : fits5 md l r a b d = false := by unfold fits5; rw [show inb md 0 4 = false by unfold inb; simp; omega]; rfl
    have ep : p = ⟨[], [], []⟩ := by rw [← Hp.out]; unfold p5n; rw [hf]; rfl
    have eu : u = ⟨[], [], []⟩ := by rw [← Hu.out]; unfold p5e; rw [hf]; rfl
    have n1 : p.c.length = 0 := by rw [ep]; rfl
    have n2 : u.c.length = 0 := by rw [eu]; rfl
    have n3 : p.a.length = 0 := by rw [ep]; rfl
    have n4 : u.a.length = 0 := by rw [eu]; rfl
    clear ep eu hf
    go_upto_region 12 with fail
    have q0 := (blk_cell bX1 0).trans rfl
    have q1 := (blk_cell bX3 0).trans rfl
    go_wp2
    go_ret
    exact ⟨rfl, HBW.out⟩
  · have e1 : decide (md < 0) = false := decide_eq_false h0
    by_cases h5 : md ≥ 5
    · have e2 : decide (md ≥ 5) = true := decide_eq_true h5
      have hf : fits5 md l r a b d = false := by unfold fits5; rw [show inb md 0 4 = false by unfold inb; simp; omega]; rfl
      have ep : p = ⟨[], [], []⟩ := by rw [← Hp.out]; unfold p5n; rw [hf]; rfl
      have eu : u = ⟨[], [], []⟩ := by rw [← Hu.out]; unfold p5e; rw [hf]; rfl
      have n1 : p.c.length = 0 := by rw [ep]; rfl
      have n2 : u.c.length = 0 := by rw [eu]; rfl
      have n3 : p.a.length = 0 := by rw [ep]; rfl
      have n4 : u.a.length = 0 := by rw [eu]; rfl
      clear ep eu hf
      go_upto_region 12 with fail
      have q0 := (blk_cell bX1 0).trans rfl
      have q1 := (blk_cell bX3 0).trans rfl
      go_wp2
      go_ret
      exact ⟨rfl, HBW.out⟩
    · have e2 : decide (md ≥ 5) = false := decide_eq_false h5
      cases hq1 : (okOs l && okOs r) with
      | false =>
        have hf : fits5 md l r a b d = false := by unfold fits5; rw [hq1]; simp
        have ep : p = ⟨[], [], []⟩ := by rw [← Hp.out]; unfold p5n; rw [hf]; rfl
        have eu : u = ⟨[], [], []⟩ := by rw [← Hu.out]; unfold p5e; rw [hf]; rfl
        have n1 : p.c.length = 0 := by rw [ep]; rfl
        have n2 : u.c.length = 0 := by rw [eu]; rfl
        have n3 : p.a.length = 0 := by rw [ep]; rfl
        have n4 : u.a.length = 0 := by rw [eu]; rfl
        clear ep eu hf
        go_upto_region 12 with (first | (go_at_call 20; refine (sSpanOk_any A0 A1 c0 c1 l r _ HL.out HR.out).mono ?_; rintro e w11 ⟨rfl, hb⟩; rw [hq1]; have HB11 := Aside0.mk hb; clear hb))
        have q0 := (blk_cell (blk_below bX1 HB11.out) 0).trans rfl
        have q1 := (blk_cell (blk_below bX3 HB11.out) 0).trans rfl
        go_wp2
        go_ret
        exact ⟨rfl, below_then HBW.out HBW.out.size HB11.out⟩
      | true =>
        cases hq2 : okOs a with
        | false =>
          have hf : fits5 md l r a b d = false := by unfold fits5; rw [hq1, hq2]; simp
          have ep : p = ⟨[], [], []⟩ := by rw [← Hp.out]; unfold p5n; rw [hf]; rfl
          have eu : u = ⟨[], [], []⟩ := by rw [← Hu.out]; unfold p5e; rw [hf]; rfl
          have n1 : p.c.length = 0 := by rw [ep]; rfl
          have n2 : u.c.length = 0 := by rw [eu]; rfl
          have n3 : p.a.length = 0 := by rw [ep]; rfl
          have n4 : u.a.length = 0 := by rw [eu]; rfl
          clear ep eu hf
          go_upto_region 12 with (first | (go_at_call 21; have h9 := HB11.out; clear h9; refine (sOccsOk_any A2 c2 a _ (HE.out.below HB11.out).rd).mono ?_; rintro e w12 ⟨rfl, hb⟩; rw [hq2]; have HB12 := Aside0.mk (below_then HB11.out HB11.out.size hb); clear hb) | (go_at_call 20; refine (sSpanOk_any A0 A1 c0 c1 l r _ HL.out HR.out).mono ?_; rintro e w11 ⟨rfl, hb⟩; rw [hq1]; have HB11 := Aside0.mk hb; clear hb))
          have q0 := (blk_cell (blk_below bX1 HB12.out) 0).trans rfl
          have q1 := (blk_cell (blk_below bX3 HB12.out) 0).trans rfl
          go_wp2
          go_ret
          exact ⟨rfl, below_then HBW.out HBW.out.size HB12.out⟩
        | true =>
          cases hq3 : okOs b with
          | false =>
            have hf : fits5 md l r a b d = false := by unfold fits5; rw [hq1, hq2, hq3]; simp
            have ep : p = ⟨[], [], []⟩ := by rw [← Hp.out]; unfold p5n; rw [hf]; rfl
            have eu : u = ⟨[], [], []⟩ := by rw [← Hu.out]; unfold p5e; rw [hf]; rfl
            have n1 : p.c.length = 0 := by rw [ep]; rfl
            have n2 : u.c.length = 0 := by rw [eu]; rfl
            have n3 : p.a.length = 0 := by rw [ep]; rfl
            have n4 : u.a.length = 0 := by rw [eu]; rfl
            clear ep eu hf
            go_upto_region 12 with (first | (go_at_call 21; have h9 := HB12.out; clear h9; refine (sOccsOk_any A3 c3 b _ (HI.out.below HB12.out).rd).mono ?_; rintro e w13 ⟨rfl, hb⟩; rw [hq3]; have HB13 := Aside0.mk (below_then HB12.out HB12.out.size hb); clear hb) | (go_at_call 21; have h9 := HB11.out; clear h9; refine (sOccsOk_any A2 c2 a _ (HE.out.below HB11.out).rd).mono ?_; rintro e w12 ⟨rfl, hb⟩; rw [hq2]; have HB12 := Aside0.mk (below_then HB11.out HB11.out.size hb); clear hb) | (go_at_call 20; refine (sSpanOk_any A0 A1 c0 c1 l r _ HL.out HR.out).mono ?_; rintro e w11 ⟨rfl, hb⟩; rw [hq1]; have HB11 := Aside0.mk hb; clear hb))
            have q0 := (blk_cell (blk_below bX1 HB13.out) 0).trans rfl
            have q1 := (blk_cell (blk_below bX3 HB13.out) 0).trans rfl
            go_wp2
            go_ret
            exact ⟨rfl, below_then HBW.out HBW.out.size HB13.out⟩
          | true =>
            cases hq4 : okOs d with
            | false =>
              have hf : fits5 md l r a b d = false := by unfold fits5; rw [hq1, hq2, hq3, hq4]; simp
              have ep : p = ⟨[], [], []⟩ := by rw [← Hp.out]; unfold p5n; rw [hf]; rfl
              have eu : u = ⟨[], [], []⟩ := by rw [← Hu.out]; unfold p5e; rw [hf]; rfl
              have n1 : p.c.length = 0 := by rw [ep]; rfl
              have n2 : u.c.length = 0 := by rw [eu]; rfl
              have n3 : p.a.length = 0 := by rw [ep]; rfl
              have n4 : u.a.length = 0 := by rw [eu]; rfl
              clear ep eu hf
              go_upto_region 12 with (first | (go_at_call 21; have h9 := HB13.out; clear h9; refine (sOccsOk_any A4 c4 d _ (HK.out.below HB13.out).rd).mono ?_; rintro e w14 ⟨rfl, hb⟩; rw [hq4]; have HB14 := Aside0.mk (below_then HB13.out HB13.out.size hb); clear hb) | (go_at_call 21; have h9 := HB12.out; clear h9; refine (sOccsOk_any A3 c3 b _ (HI.out.below HB12.out).rd).mono ?_; rintro e w13 ⟨rfl, hb⟩; rw [hq3]; have HB13 := Aside0.mk (below_then HB12.out HB12.out.size hb); clear hb) | (go_at_call 21; have h9 := HB11.out; clear h9; refine (sOccsOk_any A2 c2 a _ (HE.out.below HB11.out).rd).mono ?_; rintro e w12 ⟨rfl, hb⟩; rw [hq2]; have HB12 := Aside0.mk (below_then HB11.out HB11.out.size hb); clear hb) | (go_at_call 20; refine (sSpanOk_any A0 A1 c0 c1 l r _ HL.out HR.out).mono ?_; rintro e w11 ⟨rfl, hb⟩; rw [hq1]; have HB11 := Aside0.mk hb; clear hb))
              have q0 := (blk_cell (blk_below bX1 HB14.out) 0).trans rfl
              have q1 := (blk_cell (blk_below bX3 HB14.out) 0).trans rfl
              go_wp2
              go_ret
              exact ⟨rfl, below_then HBW.out HBW.out.size HB14.out⟩
            | true =>
              have hf : fits5 md l r a b d = true := by unfold fits5; rw [hq1, hq2, hq3, hq4, show inb md 0 4 = true by unfold inb; simp; omega]; rfl
              have HP3 : Aside0 (p = not3 md l r a b d) := ⟨by rw [← Hp.out]; unfold p5n; rw [hf]; rfl⟩
              have HU3 : Aside0 (u = each3 md l r a b d) := ⟨by rw [← Hu.out]; unfold p5e; rw [hf]; rfl⟩
              go_upto_region 13 with (first | (go_at_call 21; have h9 := HB13.out; clear h9; refine (sOccsOk_any A4 c4 d _ (HK.out.below HB13.out).rd).mono ?_; rintro e w14 ⟨rfl, hb⟩; rw [hq4]; have HB14 := Aside0.mk (below_then HB13.out HB13.out.size hb); clear hb) | (go_at_call 21; have h9 := HB12.out; clear h9; refine (sOccsOk_any A3 c3 b _ (HI.out.below HB12.out).rd).mono ?_; rintro e w13 ⟨rfl, hb⟩; rw [hq3]; have HB13 := Aside0.mk (below_then HB12.out HB12.out.size hb); clear hb) | (go_at_call 21; have h9 := HB11.out; clear h9; refine (sOccsOk_any A2 c2 a _ (HE.out.below HB11.out).rd).mono ?_; rintro e w12 ⟨rfl, hb⟩; rw [hq2]; have HB12 := Aside0.mk (below_then HB11.out HB11.out.size hb); clear hb) | (go_at_call 20; refine (sSpanOk_any A0 A1 c0 c1 l r _ HL.out HR.out).mono ?_; rintro e w11 ⟨rfl, hb⟩; rw [hq1]; have HB11 := Aside0.mk hb; clear hb))
              have hbk := HB14.out
              clear pp0 pp1 HB11 HB12 HB13 HB14 hf h0 h5 e1 e2 hq1 hq2 hq3 hq4
              replace HL := Aside0.mk (HL.out.below hbk)
              replace HR := Aside0.mk (HR.out.below hbk)
              replace HE := Aside0.mk (HE.out.below hbk)
              replace HI := Aside0.mk (HI.out.below hbk)
              replace HK := Aside0.mk (HK.out.below hbk)
              replace HX1 := Aside0.mk (HX1.out.below hbk)
              replace HY1 := Aside0.mk (HY1.out.below hbk)
              replace HZ1 := Aside0.mk (HZ1.out.below hbk)
              replace HX3 := Aside0.mk (HX3.out.below hbk)
              replace HY3 := Aside0.mk (HY3.out.below hbk)
              replace HZ3 := Aside0.mk (HZ3.out.below hbk)
              replace bP := blk_below bP hbk
              replace bX1 := blk_below bX1 hbk
              replace bX3 := blk_below bX3 hbk
              replace HBW := Aside0.mk (below_then HBW.out HBW.out.size hbk)
              clear hbk
              generalize w14 = W9 at *
              clear Hp Hu
              have nl := (C_len HL.out.rd).2
              have nu := (C_len HX3.out.rd).2
              have np := (C_len HX1.out.rd).2
              have HUA : Aside0 (∀ x ∈ l, x ∈ u.a) := ⟨fun x hx => by rw [HU3.out]; exact waits_each hx⟩
              have HPB : Aside0 (r.length ≤ p.b.length) := ⟨by rw [HP3.out]; exact Go.Proofs.YtccenpmaooailaaGreat.Px.len_putAll r b⟩
              have HUB : Aside0 (r.length ≤ u.b.length) := ⟨by rw [HU3.out]; exact Go.Proofs.YtccenpmaooailaaGreat.Px.len_putAll r d⟩
              have HPC : Aside0 (d = [] → p.c = []) := ⟨fun h => by rw [HP3.out, h]; rfl⟩
              have HUC : Aside0 (b = [] → u.c = []) := ⟨fun h => by rw [HU3.out, h]; rfl⟩
              clear HP3 HU3
              go_wp2
              go_loopw [18] (fun vi wr => ∃ (i : Nat), i ≤ l.length ∧ vi = .int .i64 i ∧ Aside0 (Below W9.heap.size W9 wr)) (fun vi _ => l.length - (intOf vi).toNat)
              case atStart => exact ⟨0, Nat.zero_le _, rfl, ⟨Below.refl _ _⟩⟩
              case round =>
                obtain ⟨i, hi, rfl, HB⟩ := hrel
                obtain ⟨wo, rfl⟩ : ∃ wo : World, wo = wr := ⟨_, rfl⟩
                have p0 := (blk_cell (blk_below bP HB.out) 0).trans rfl
                by_cases hlt : i < l.length
                · have g1 : decide (i < l.length) = true := decide_eq_true hlt
                  have i1 : (i : Int) < l.length := by omega
                  obtain ⟨ada, A5, c5, eX, hix, hexW⟩ := elem HL.out hlt
                  subst eX
                  have hcL := cut_L HL.out hlt
                  have hcap := HL.out.cap
                  have hcut1 : ∀ W, (Instr.slice 23 (.slice (some ada) l.length c0) (some (.int .i64 (i : Int))) (some (.int .i64 ((i : Int) + 1))) none).run Tryz.prog W = .ok (.slice (some (ada.add (i * 3))) 1 (c0 - i)) W := fun W => cut_run ada l.length c0 i (by omega) W
                  have hxm := getD_mem hlt
                  obtain ⟨x, hxe⟩ : ∃ x, x = l.getD i zO := ⟨_, rfl⟩
                  rw [← hxe] at hcL hxm
                  have HCX := Aside0.mk hcL
                  have HXM := Aside0.mk hxm
                  clear hix hexW hcL hxe hxm hcap
                  go_wp2
                  go_loopw [19, 20] (fun v20 v21 wq => ∃ (had : Bool) (k2 : Nat), k2 ≤ u.a.length ∧ v20 = .bool had ∧ v21 = .int .i64 k2 ∧ Aside0 (had = false → ∀ j, j < k2 → u.a.getD j zO ≠ x) ∧ Aside0 (Below W9.heap.size W9 wq)) (fun _ vi _ => u.a.length - (intOf vi).toNat)
                  case atStart => exact ⟨false, 0, Nat.zero_le _, rfl, rfl, ⟨fun _ j h => absurd h (by omega)⟩, HB⟩
                  case round =>
                    clear p0
                    obtain ⟨had, k2, hk2, rfl, rfl, HN, HQ⟩ := hrel
                    obtain ⟨wq, rfl⟩ : ∃ wq : World, wq = wr := ⟨_, rfl⟩
                    have r0 := (blk_cell (blk_below bX3 HQ.out) 0).trans rfl
                    by_cases hlk : k2 < u.a.length
                    · have g3 : decide (k2 < u.a.length) = true := decide_eq_true hlk
                      have k1 : (k2 : Int) < u.a.length := by omega
                      obtain ⟨adx, B5, d5, eY, _, _⟩ := elem HX3.out hlk
                      subst eY
                      have HCM := Aside0.mk (cut_L HX3.out hlk)
                      have hcap := HX3.out.cap
                      have hcut2 : ∀ W, (Instr.slice 23 (.slice (some adx) u.a.length xc3) (some (.int .i64 (k2 : Int))) (some (.int .i64 ((k2 : Int) + 1))) none).run Tryz.prog W = .ok (.slice (some (adx.add (k2 * 3))) 1 (xc3 - k2)) W := fun W => cut_run adx u.a.length xc3 k2 (by omega) W
                      clear hcap
                      obtain ⟨z, hze⟩ : ∃ z, z = u.a.getD k2 zO := ⟨_, rfl⟩
                      rw [← hze] at HCM
                      have HZE := Aside0.mk hze
                      have hw1 : IntKind.i64.wrap ((k2 : Int) + 1) = (k2 : Int) + 1 := by rw [IntKind.wrap_i64]; omega
                      have hw2 : IntKind.i64.wrap ((i : Int) + 1) = (i : Int) + 1 := by rw [IntKind.wrap_i64]; omega
                      have HB0 : Below wq.heap.size wq wq.drew := below_drew (Below.refl _ _)
                      have hQd := Aside0.mk (below_then HQ.out HQ.out.size HB0)
                      have HF25 : Aside0 (∀ w', Below wq.heap.size wq w' → (fun w' => w'.cell? ⟨V3, 0, none⟩ = some (.slice (some adx) u.a.length xc3) ∧ w'.cell? ⟨V0, 0, none⟩ = some (.slice (some ada) l.length c0)) w') := ⟨fun w' h => ⟨(blk_cell (blk_below bX3 (below_then HQ.out HQ.out.size h)) 0).trans rfl, (blk_cell (blk_below bP (below_then HQ.out HQ.out.size h)) 0).trans rfl⟩⟩
                      clear hze
                      cases had with
                      | true =>
                        go_upto_region 20 with fail
                        refine Za.regionL (fun w' => w'.cell? ⟨V3, 0, none⟩ = some (.slice (some adx) u.a.length xc3) ∧ w'.cell? ⟨V0, 0, none⟩ = some (.slice (some ada) l.length c0)) [] (by kernel_rfl) ?_
                        have HS : (fun w' => w'.cell? ⟨V3, 0, none⟩ = some (.slice (some adx) u.a.length xc3) ∧ w'.cell? ⟨V0, 0, none⟩ = some (.slice (some ada) l.length c0)) wq.drew := HF25.out _ HB0
                        refine Za.takeL 0 (v := ?vd0) rfl (by kernel_rfl) (by kernel_rfl) (by kernel_rfl) (by kernel_rfl) (fun _ _ _ h => h) (Or.inl ⟨by rfl, ?hyd0⟩) HS ?restd0
                        case hyd0 => (intro w hSw; (try dsimp only at hSw); go_simp; try with_reducible rfl)
                        (try simp only [Act.put, List.setIfInBounds_toArray, List.set_cons_zero, List.set_cons_succ])
                        refine Za.takeL 1 (v := ?vd1) rfl (by kernel_rfl) (by kernel_rfl) (by kernel_rfl) (by kernel_rfl) (fun _ _ _ h => h) (Or.inl ⟨by rfl, ?hyd1⟩) HS ?restd1
                        case hyd1 => (intro w hSw; (try dsimp only at hSw); go_simp; try with_reducible rfl)
                        (try simp only [Act.put, List.setIfInBounds_toArray, List.set_cons_zero, List.set_cons_succ])
                        refine Za.takeL 2 (v := undef) rfl (by kernel_rfl) (by kernel_rfl) (by kernel_rfl) (by kernel_rfl) (fun _ _ _ h => h) (Or.inr ⟨by rfl, rfl⟩) HS ?restd2
                        (try simp only [Act.put, List.setIfInBounds_toArray, List.set_cons_zero, List.set_cons_succ])
                        refine Za.takeL 3 (v := undef) rfl (by kernel_rfl) (by kernel_rfl) (by kernel_rfl) (by kernel_rfl) (fun _ _ _ h => h) (Or.inr ⟨by rfl, rfl⟩) HS ?restd3
                        (try simp only [Act.put, List.setIfInBounds_toArray, List.set_cons_zero, List.set_cons_succ])
                        refine Za.takeL 4 (v := undef) rfl (by kernel_rfl) (by kernel_rfl) (by kernel_rfl) (by kernel_rfl) (fun _ _ _ h => h) (Or.inr ⟨by rfl, rfl⟩) HS ?restd4
                        (try simp only [Act.put, List.setIfInBounds_toArray, List.set_cons_zero, List.set_cons_succ])
                        refine Za.takeL 5 (v := undef) rfl (by kernel_rfl) (by kernel_rfl) (by kernel_rfl) (by kernel_rfl) (fun _ _ _ h => h) (Or.inr ⟨by rfl, rfl⟩) HS ?restd5
                        (try simp only [Act.put, List.setIfInBounds_toArray, List.set_cons_zero, List.set_cons_succ])
                        refine Za.takeL 6 (v := undef) rfl (by kernel_rfl) (by kernel_rfl) (by kernel_rfl) (by kernel_rfl) (fun _ _ _ h => h) (Or.inr ⟨by rfl, rfl⟩) HS ?restd6
                        (try simp only [Act.put, List.setIfInBounds_toArray, List.set_cons_zero, List.set_cons_succ])
                        refine Za.takeL 7 (v := undef) rfl (by kernel_rfl) (by kernel_rfl) (by kernel_rfl) (by kernel_rfl) (fun _ _ _ h => h) (Or.inr ⟨by rfl, rfl⟩) HS ?restd7
                        (try simp only [Act.put, List.setIfInBounds_toArray, List.set_cons_zero, List.set_cons_succ])
                        refine Za.takeL 8 (v := undef) rfl (by kernel_rfl) (by kernel_rfl) (by kernel_rfl) (by kernel_rfl) (fun _ _ _ h => h) (Or.inr ⟨by rfl, rfl⟩) HS ?restd8
                        (try simp only [Act.put, List.setIfInBounds_toArray, List.set_cons_zero, List.set_cons_succ])
                        refine Za.takeL 9 (v := undef) rfl (by kernel_rfl) (by kernel_rfl) (by kernel_rfl) (by kernel_rfl) (fun _ _ _ h => h) (Or.inr ⟨by rfl, rfl⟩) HS ?restd9
                        (try simp only [Act.put, List.setIfInBounds_toArray, List.set_cons_zero, List.set_cons_succ])
                        refine Za.takeL 10 (v := undef) rfl (by kernel_rfl) (by kernel_rfl) (by kernel_rfl) (by kernel_rfl) (fun _ _ _ h => h) (Or.inr ⟨by rfl, rfl⟩) HS ?restd10
                        (try simp only [Act.put, List.setIfInBounds_toArray, List.set_cons_zero, List.set_cons_succ])
                        refine Za.takeL 11 (v := undef) rfl (by kernel_rfl) (by kernel_rfl) (by kernel_rfl) (by kernel_rfl) (fun _ _ _ h => h) (Or.inr ⟨by rfl, rfl⟩) HS ?restd11
                        (try simp only [Act.put, List.setIfInBounds_toArray, List.set_cons_zero, List.set_cons_succ])
                        refine Za.takeL 12 (v := undef) rfl (by kernel_rfl) (by kernel_rfl) (by kernel_rfl) (by kernel_rfl) (fun _ _ _ h => h) (Or.inr ⟨by rfl, rfl⟩) HS ?restd12
                        (try simp only [Act.put, List.setIfInBounds_toArray, List.set_cons_zero, List.set_cons_succ])
                        refine Za.takeL 13 (v := undef) rfl (by kernel_rfl) (by kernel_rfl) (by kernel_rfl) (by kernel_rfl) (fun _ _ _ h => h) (Or.inr ⟨by rfl, rfl⟩) HS ?restd13
                        (try simp only [Act.put, List.setIfInBounds_toArray, List.set_cons_zero, List.set_cons_succ])
                        refine Za.takeL 14 (v := undef) rfl (by kernel_rfl) (by kernel_rfl) (by kernel_rfl) (by kernel_rfl) (fun _ _ _ h => h) (Or.inr ⟨by rfl, rfl⟩) HS ?restd14
                        (try simp only [Act.put, List.setIfInBounds_toArray, List.set_cons_zero, List.set_cons_succ])
                        refine Za.takeL 15 (v := ?vd15) rfl (by kernel_rfl) (by kernel_rfl) (by kernel_rfl) (by kernel_rfl) (fun _ _ _ h => h) (Or.inl ⟨by rfl, ?hyd15⟩) HS ?restd15
                        case hyd15 => (intro w hSw; (try dsimp only at hSw); go_simp; try with_reducible rfl)
                        (try simp only [Act.put, List.setIfInBounds_toArray, List.set_cons_zero, List.set_cons_succ])
                        refine Za.takeL 16 (v := ?vd16) rfl (by kernel_rfl) (by kernel_rfl) (by kernel_rfl) (by kernel_rfl) (fun _ _ _ h => h) (Or.inl ⟨by rfl, ?hyd16⟩) HS ?restd16
                        case hyd16 => (intro w hSw; (try dsimp only at hSw); go_simp; try with_reducible rfl)
                        (try simp only [Act.put, List.setIfInBounds_toArray, List.set_cons_zero, List.set_cons_succ])
                        refine Za.Walk.done (by kernel_rfl) ?_
                        (try clear HS)
                        go_wp2
                        go_roundw
                        case rel => exact ⟨true, k2 + 1, by omega, rfl, by go_num, ⟨fun h => by cases h⟩, hQd⟩
                        case measure => simp [intOf]; omega
                      | false =>
                        cases hd : decide ([z] = [x]) with
                        | true =>
                          go_upto_region 20 with fail
                          refine Za.regionL (fun w' => w'.cell? ⟨V3, 0, none⟩ = some (.slice (some adx) u.a.length xc3) ∧ w'.cell? ⟨V0, 0, none⟩ = some (.slice (some ada) l.length c0)) [] (by kernel_rfl) ?_
                          have HS : (fun w' => w'.cell? ⟨V3, 0, none⟩ = some (.slice (some adx) u.a.length xc3) ∧ w'.cell? ⟨V0, 0, none⟩ = some (.slice (some ada) l.length c0)) wq.drew := HF25.out _ HB0
                          refine Za.takeL 0 (v := ?ve0) rfl (by kernel_rfl) (by kernel_rfl) (by kernel_rfl) (by kernel_rfl) (fun _ _ _ h => h) (Or.inl ⟨by rfl, ?hye0⟩) HS ?reste0
                          case hye0 => (intro w hSw; (try dsimp only at hSw); go_simp; try with_reducible rfl)
                          (try simp only [Act.put, List.setIfInBounds_toArray, List.set_cons_zero, List.set_cons_succ])
                          refine Za.takeL 1 (v := ?ve1) rfl (by kernel_rfl) (by kernel_rfl) (by kernel_rfl) (by kernel_rfl) (fun _ _ _ h => h) (Or.inl ⟨by rfl, ?hye1⟩) HS ?reste1
                          case hye1 => (intro w hSw; (try dsimp only at hSw); go_simp; try with_reducible rfl)
                          (try simp only [Act.put, List.setIfInBounds_toArray, List.set_cons_zero, List.set_cons_succ])
                          refine Za.takeL 2 (v := ?ve2) rfl (by kernel_rfl) (by kernel_rfl) (by kernel_rfl) (by kernel_rfl) (fun _ _ _ h => h) (Or.inl ⟨by rfl, ?hye2⟩) HS ?reste2
                          case hye2 => (intro w hSw; (try dsimp only at hSw); go_simp; try with_reducible rfl)
                          (try simp only [Act.put, List.setIfInBounds_toArray, List.set_cons_zero, List.set_cons_succ])
                          refine Za.takeL 3 (v := ?ve3) rfl (by kernel_rfl) (by kernel_rfl) (by kernel_rfl) (by kernel_rfl) (fun _ _ _ h => h) (Or.inl ⟨by rfl, ?hye3⟩) HS ?reste3
                          case hye3 => (intro w hSw; (try dsimp only at hSw); go_simp; try with_reducible rfl)
                          (try simp only [Act.put, List.setIfInBounds_toArray, List.set_cons_zero, List.set_cons_succ])
                          refine Za.takeL 4 (v := ?ve4) rfl (by kernel_rfl) (by kernel_rfl) (by kernel_rfl) (by kernel_rfl) (fun _ _ _ h => h) (Or.inl ⟨by rfl, ?hye4⟩) HS ?reste4
                          case hye4 => (intro w hSw; (try dsimp only at hSw); go_simp; try with_reducible rfl)
                          (try simp only [Act.put, List.setIfInBounds_toArray, List.set_cons_zero, List.set_cons_succ])
                          refine Za.takeL 5 (v := ?ve5) rfl (by kernel_rfl) (by kernel_rfl) (by kernel_rfl) (by kernel_rfl) (fun _ _ _ h => h) (Or.inl ⟨by rfl, ?hye5⟩) HS ?reste5
                          case hye5 => (intro w hSw; (try dsimp only at hSw); go_simp; try with_reducible rfl)
                          (try simp only [Act.put, List.setIfInBounds_toArray, List.set_cons_zero, List.set_cons_succ])
                          refine Za.takeL 6 (v := ?ve6) rfl (by kernel_rfl) (by kernel_rfl) (by kernel_rfl) (by kernel_rfl) (fun _ _ _ h => h) (Or.inl ⟨by rfl, ?hye6⟩) HS ?reste6
                          case hye6 => (intro w hSw; (try dsimp only at hSw); go_simp; try with_reducible rfl)
                          (try simp only [Act.put, List.setIfInBounds_toArray, List.set_cons_zero, List.set_cons_succ])
                          refine Za.takeL 7 (v := ?ve7) rfl (by kernel_rfl) (by kernel_rfl) (by kernel_rfl) (by kernel_rfl) (fun _ _ _ h => h) (Or.inl ⟨by rfl, ?hye7⟩) HS ?reste7
                          case hye7 => (intro w hSw; (try dsimp only at hSw); go_simp; try with_reducible rfl)
                          (try simp only [Act.put, List.setIfInBounds_toArray, List.set_cons_zero, List.set_cons_succ])
                          refine Za.takeL 8 (v := ?ve8) rfl (by kernel_rfl) (by kernel_rfl) (by kernel_rfl) (by kernel_rfl) (fun _ _ _ h => h) (Or.inl ⟨by rfl, ?hye8⟩) HS ?reste8
                          case hye8 => (intro w hSw; (try dsimp only at hSw); go_simp; try with_reducible rfl)
                          (try simp only [Act.put, List.setIfInBounds_toArray, List.set_cons_zero, List.set_cons_succ])
                          refine Za.takeL 9 (v := ?ve9) rfl (by kernel_rfl) (by kernel_rfl) (by kernel_rfl) (by kernel_rfl) (fun _ _ _ h => h) (Or.inl ⟨by rfl, ?hye9⟩) HS ?reste9
                          case hye9 => (intro w hSw; (try dsimp only at hSw); go_simp; try with_reducible rfl)
                          (try simp only [Act.put, List.setIfInBounds_toArray, List.set_cons_zero, List.set_cons_succ])
                          refine Za.takeL 10 (v := ?ve10) rfl (by kernel_rfl) (by kernel_rfl) (by kernel_rfl) (by kernel_rfl) (fun _ _ _ h => h) (Or.inl ⟨by rfl, ?hye10⟩) HS ?reste10
                          case hye10 => (intro w hSw; (try dsimp only at hSw); go_simp; try with_reducible rfl)
                          (try simp only [Act.put, List.setIfInBounds_toArray, List.set_cons_zero, List.set_cons_succ])
                          refine Za.takeL 11 (v := ?ve11) rfl (by kernel_rfl) (by kernel_rfl) (by kernel_rfl) (by kernel_rfl) (fun _ _ _ h => h) (Or.inl ⟨by rfl, ?hye11⟩) HS ?reste11
                          case hye11 => (intro w hSw; (try dsimp only at hSw); go_simp; try with_reducible rfl)
                          (try simp only [Act.put, List.setIfInBounds_toArray, List.set_cons_zero, List.set_cons_succ])
                          refine Za.takeL 12 (v := ?ve12) rfl (by kernel_rfl) (by kernel_rfl) (by kernel_rfl) (by kernel_rfl) (fun _ _ _ h => h) (Or.inl ⟨by rfl, ?hye12⟩) HS ?reste12
                          case hye12 => (intro w hSw; (try dsimp only at hSw); go_simp; try with_reducible rfl)
                          (try simp only [Act.put, List.setIfInBounds_toArray, List.set_cons_zero, List.set_cons_succ])
                          refine Za.takeL 13 (v := ?ve13) rfl (by kernel_rfl) (by kernel_rfl) (by kernel_rfl) (by kernel_rfl) (fun _ _ _ h => h) (Or.inl ⟨by rfl, ?hye13⟩) HS ?reste13
                          case hye13 => (intro w hSw; (try dsimp only at hSw); go_simp; try with_reducible rfl)
                          (try simp only [Act.put, List.setIfInBounds_toArray, List.set_cons_zero, List.set_cons_succ])
                          clear HS
                          refine Za.nextL 14 (by kernel_rfl) rfl (fun K' hK => ?_)
                          go_simp
                          (go_at_call 17; refine (occsSame_any (some (adx.add (k2 * 3))) (some (ada.add (i * 3))) (xc3 - k2) (c0 - i) [z] [x] _ ((HCM.out.below HQ.out).below HB0).rd ((HCX.out.below HQ.out).below HB0).rd).mono ?_; rintro e w15 ⟨rfl, hb⟩; have HB4 : Below wq.heap.size wq w15 := keepD hb; have HB15 := Aside0.mk HB4; rw [hd]; clear hb)
                          go_wp2_with fail
                          refine hK.out _ _ ⟨fun _ => HF25.out _ HB4, ?_⟩
                          clear hK K'
                          (try simp only [Act.put, List.setIfInBounds_toArray, List.set_cons_zero, List.set_cons_succ])
                          have HS : (fun w' => w'.cell? ⟨V3, 0, none⟩ = some (.slice (some adx) u.a.length xc3) ∧ w'.cell? ⟨V0, 0, none⟩ = some (.slice (some ada) l.length c0)) w15 := HF25.out _ HB4
                          refine Za.takeL 15 (v := ?ve15) rfl (by kernel_rfl) (by kernel_rfl) (by kernel_rfl) (by kernel_rfl) (fun _ _ _ h => h) (Or.inl ⟨by rfl, ?hye15⟩) HS ?reste15
                          case hye15 => (intro w hSw; (try dsimp only at hSw); go_simp; try with_reducible rfl)
                          (try simp only [Act.put, List.setIfInBounds_toArray, List.set_cons_zero, List.set_cons_succ])
                          refine Za.takeL 16 (v := ?ve16) rfl (by kernel_rfl) (by kernel_rfl) (by kernel_rfl) (by kernel_rfl) (fun _ _ _ h => h) (Or.inl ⟨by rfl, ?hye16⟩) HS ?reste16
                          case hye16 => (intro w hSw; (try dsimp only at hSw); go_simp; try with_reducible rfl)
                          (try simp only [Act.put, List.setIfInBounds_toArray, List.set_cons_zero, List.set_cons_succ])
                          refine Za.Walk.done (by kernel_rfl) ?_
                          (try clear HS)
                          go_wp2
                          go_roundw
                          case rel => exact ⟨true, k2 + 1, by omega, rfl, by go_num, ⟨fun h => by cases h⟩, ⟨below_then HQ.out HQ.out.size HB15.out⟩⟩
                          case measure => simp [intOf]; omega
                        | false =>
                          have HNN : Aside0 (∀ j, j < k2 + 1 → u.a.getD j zO ≠ x) := ⟨fun j hj => by
                            rcases Nat.lt_or_ge j k2 with h | h
                            · exact HN.out rfl j h
                            · have : j = k2 := by omega
                              subst this
                              rw [← HZE.out]
                              exact fun e => of_decide_eq_false hd (by rw [e])⟩
                          go_upto_region 20 with fail
                          refine Za.regionL (fun w' => w'.cell? ⟨V3, 0, none⟩ = some (.slice (some adx) u.a.length xc3) ∧ w'.cell? ⟨V0, 0, none⟩ = some (.slice (some ada) l.length c0)) [] (by kernel_rfl) ?_
                          have HS : (fun w' => w'.cell? ⟨V3, 0, none⟩ = some (.slice (some adx) u.a.length xc3) ∧ w'.cell? ⟨V0, 0, none⟩ = some (.slice (some ada) l.length c0)) wq.drew := HF25.out _ HB0
                          refine Za.takeL 0 (v := ?vf0) rfl (by kernel_rfl) (by kernel_rfl) (by kernel_rfl) (by kernel_rfl) (fun _ _ _ h => h) (Or.inl ⟨by rfl, ?hyf0⟩) HS ?restf0
                          case hyf0 => (intro w hSw; (try dsimp only at hSw); go_simp; try with_reducible rfl)
                          (try simp only [Act.put, List.setIfInBounds_toArray, List.set_cons_zero, List.set_cons_succ])
                          refine Za.takeL 1 (v := ?vf1) rfl (by kernel_rfl) (by kernel_rfl) (by kernel_rfl) (by kernel_rfl) (fun _ _ _ h => h) (Or.inl ⟨by rfl, ?hyf1⟩) HS ?restf1
                          case hyf1 => (intro w hSw; (try dsimp only at hSw); go_simp; try with_reducible rfl)
                          (try simp only [Act.put, List.setIfInBounds_toArray, List.set_cons_zero, List.set_cons_succ])
                          refine Za.takeL 2 (v := ?vf2) rfl (by kernel_rfl) (by kernel_rfl) (by kernel_rfl) (by kernel_rfl) (fun _ _ _ h => h) (Or.inl ⟨by rfl, ?hyf2⟩) HS ?restf2
                          case hyf2 => (intro w hSw; (try dsimp only at hSw); go_simp; try with_reducible rfl)
                          (try simp only [Act.put, List.setIfInBounds_toArray, List.set_cons_zero, List.set_cons_succ])
                          refine Za.takeL 3 (v := ?vf3) rfl (by kernel_rfl) (by kernel_rfl) (by kernel_rfl) (by kernel_rfl) (fun _ _ _ h => h) (Or.inl ⟨by rfl, ?hyf3⟩) HS ?restf3
                          case hyf3 => (intro w hSw; (try dsimp only at hSw); go_simp; try with_reducible rfl)
                          (try simp only [Act.put, List.setIfInBounds_toArray, List.set_cons_zero, List.set_cons_succ])
                          refine Za.takeL 4 (v := ?vf4) rfl (by kernel_rfl) (by kernel_rfl) (by kernel_rfl) (by kernel_rfl) (fun _ _ _ h => h) (Or.inl ⟨by rfl, ?hyf4⟩) HS ?restf4
                          case hyf4 => (intro w hSw; (try dsimp only at hSw); go_simp; try with_reducible rfl)
                          (try simp only [Act.put, List.setIfInBounds_toArray, List.set_cons_zero, List.set_cons_succ])
                          refine Za.takeL 5 (v := ?vf5) rfl (by kernel_rfl) (by kernel_rfl) (by kernel_rfl) (by kernel_rfl) (fun _ _ _ h => h) (Or.inl ⟨by rfl, ?hyf5⟩) HS ?restf5
                          case hyf5 => (intro w hSw; (try dsimp only at hSw); go_simp; try with_reducible rfl)
                          (try simp only [Act.put, List.setIfInBounds_toArray, List.set_cons_zero, List.set_cons_succ])
                          refine Za.takeL 6 (v := ?vf6) rfl (by kernel_rfl) (by kernel_rfl) (by kernel_rfl) (by kernel_rfl) (fun _ _ _ h => h) (Or.inl ⟨by rfl, ?hyf6⟩) HS ?restf6
                          case hyf6 => (intro w hSw; (try dsimp only at hSw); go_simp; try with_reducible rfl)
                          (try simp only [Act.put, List.setIfInBounds_toArray, List.set_cons_zero, List.set_cons_succ])
                          refine Za.takeL 7 (v := ?vf7) rfl (by kernel_rfl) (by kernel_rfl) (by kernel_rfl) (by kernel_rfl) (fun _ _ _ h => h) (Or.inl ⟨by rfl, ?hyf7⟩) HS ?restf7
                          case hyf7 => (intro w hSw; (try dsimp only at hSw); go_simp; try with_reducible rfl)
                          (try simp only [Act.put, List.setIfInBounds_toArray, List.set_cons_zero, List.set_cons_succ])
                          refine Za.takeL 8 (v := ?vf8) rfl (by kernel_rfl) (by kernel_rfl) (by kernel_rfl) (by kernel_rfl) (fun _ _ _ h => h) (Or.inl ⟨by rfl, ?hyf8⟩) HS ?restf8
                          case hyf8 => (intro w hSw; (try dsimp only at hSw); go_simp; try with_reducible rfl)
                          (try simp only [Act.put, List.setIfInBounds_toArray, List.set_cons_zero, List.set_cons_succ])
                          refine Za.takeL 9 (v := ?vf9) rfl (by kernel_rfl) (by kernel_rfl) (by kernel_rfl) (by kernel_rfl) (fun _ _ _ h => h) (Or.inl ⟨by rfl, ?hyf9⟩) HS ?restf9
                          case hyf9 => (intro w hSw; (try dsimp only at hSw); go_simp; try with_reducible rfl)
                          (try simp only [Act.put, List.setIfInBounds_toArray, List.set_cons_zero, List.set_cons_succ])
                          refine Za.takeL 10 (v := ?vf10) rfl (by kernel_rfl) (by kernel_rfl) (by kernel_rfl) (by kernel_rfl) (fun _ _ _ h => h) (Or.inl ⟨by rfl, ?hyf10⟩) HS ?restf10
                          case hyf10 => (intro w hSw; (try dsimp only at hSw); go_simp; try with_reducible rfl)
                          (try simp only [Act.put, List.setIfInBounds_toArray, List.set_cons_zero, List.set_cons_succ])
                          refine Za.takeL 11 (v := ?vf11) rfl (by kernel_rfl) (by kernel_rfl) (by kernel_rfl) (by kernel_rfl) (fun _ _ _ h => h) (Or.inl ⟨by rfl, ?hyf11⟩) HS ?restf11
                          case hyf11 => (intro w hSw; (try dsimp only at hSw); go_simp; try with_reducible rfl)
                          (try simp only [Act.put, List.setIfInBounds_toArray, List.set_cons_zero, List.set_cons_succ])
                          refine Za.takeL 12 (v := ?vf12) rfl (by kernel_rfl) (by kernel_rfl) (by kernel_rfl) (by kernel_rfl) (fun _ _ _ h => h) (Or.inl ⟨by rfl, ?hyf12⟩) HS ?restf12
                          case hyf12 => (intro w hSw; (try dsimp only at hSw); go_simp; try with_reducible rfl)
                          (try simp only [Act.put, List.setIfInBounds_toArray, List.set_cons_zero, List.set_cons_succ])
                          refine Za.takeL 13 (v := ?vf13) rfl (by kernel_rfl) (by kernel_rfl) (by kernel_rfl) (by kernel_rfl) (fun _ _ _ h => h) (Or.inl ⟨by rfl, ?hyf13⟩) HS ?restf13
                          case hyf13 => (intro w hSw; (try dsimp only at hSw); go_simp; try with_reducible rfl)
                          (try simp only [Act.put, List.setIfInBounds_toArray, List.set_cons_zero, List.set_cons_succ])
                          clear HS
                          refine Za.nextL 14 (by kernel_rfl) rfl (fun K' hK => ?_)
                          go_simp
                          (go_at_call 17; refine (occsSame_any (some (adx.add (k2 * 3))) (some (ada.add (i * 3))) (xc3 - k2) (c0 - i) [z] [x] _ ((HCM.out.below HQ.out).below HB0).rd ((HCX.out.below HQ.out).below HB0).rd).mono ?_; rintro e w15 ⟨rfl, hb⟩; have HB4 : Below wq.heap.size wq w15 := keepD hb; have HB15 := Aside0.mk HB4; rw [hd]; clear hb)
                          go_wp2_with fail
                          refine hK.out _ _ ⟨fun _ => HF25.out _ HB4, ?_⟩
                          clear hK K'
                          (try simp only [Act.put, List.setIfInBounds_toArray, List.set_cons_zero, List.set_cons_succ])
                          have HS : (fun w' => w'.cell? ⟨V3, 0, none⟩ = some (.slice (some adx) u.a.length xc3) ∧ w'.cell? ⟨V0, 0, none⟩ = some (.slice (some ada) l.length c0)) w15 := HF25.out _ HB4
                          refine Za.takeL 15 (v := ?vf15) rfl (by kernel_rfl) (by kernel_rfl) (by kernel_rfl) (by kernel_rfl) (fun _ _ _ h => h) (Or.inl ⟨by rfl, ?hyf15⟩) HS ?restf15
                          case hyf15 => (intro w hSw; (try dsimp only at hSw); go_simp; try with_reducible rfl)
                          (try simp only [Act.put, List.setIfInBounds_toArray, List.set_cons_zero, List.set_cons_succ])
                          refine Za.takeL 16 (v := ?vf16) rfl (by kernel_rfl) (by kernel_rfl) (by kernel_rfl) (by kernel_rfl) (fun _ _ _ h => h) (Or.inl ⟨by rfl, ?hyf16⟩) HS ?restf16
                          case hyf16 => (intro w hSw; (try dsimp only at hSw); go_simp; try with_reducible rfl)
                          (try simp only [Act.put, List.setIfInBounds_toArray, List.set_cons_zero, List.set_cons_succ])
                          refine Za.Walk.done (by kernel_rfl) ?_
                          (try clear HS)
                          go_wp2
                          go_roundw
                          case rel => exact ⟨false, k2 + 1, by omega, rfl, by go_num, ⟨fun _ => HNN.out⟩, ⟨below_then HQ.out HQ.out.size HB15.out⟩⟩
                          case measure => simp [intOf]; omega
                    · have hke : k2 = u.a.length := by omega
                      subst hke
                      have g3 : decide (u.a.length < u.a.length) = false := decide_eq_false (by omega)
                      cases had with
                      | true =>
                        go_wp2
                        go_roundw
                        case rel => exact ⟨i + 1, by omega, by go_num, HQ⟩
                        case measure => simp [intOf]; omega
                      | false =>
                        exact absurd (HUA.out x HXM.out) (fun h => by
                          obtain ⟨j, hj, e⟩ := mem_getD h
                          exact HN.out rfl j hj e)
                · have hie : i = l.length := by omega
                  subst hie
                  have g1 : decide (l.length < l.length) = false := decide_eq_false (by omega)
                  have s1 := (blk_cell (blk_below bP HB.out) 1).trans rfl
                  have r1 := (blk_cell (blk_below bX1 HB.out) 1).trans rfl
                  have t1 := (blk_cell (blk_below bX3 HB.out) 1).trans rfl
                  have GX : decide ((p.b.length : Int) ≥ (r.length : Int)) = true := decide_eq_true (by have h := HPB.out; omega)
                  have GU : decide ((u.b.length : Int) ≥ (r.length : Int)) = true := decide_eq_true (by have h := HUB.out; omega)
                  have GX2 : decide (r.length ≤ p.b.length) = true := decide_eq_true HPB.out
                  have GU2 : decide (r.length ≤ u.b.length) = true := decide_eq_true HUB.out
                  by_cases hd0 : 0 < d.length
                  · by_cases hb0 : 0 < b.length
                    · skip
                      have e1 : decide ((d.length : Int) > 0) = true := decide_eq_true (by omega)
                      have e1' : decide (0 < d.length) = true := decide_eq_true hd0
                      have e2 : decide ((b.length : Int) > 0) = true := decide_eq_true (by omega)
                      have e2' : decide (0 < b.length) = true := decide_eq_true hb0
                      go_wp2
                      go_ret
                      exact ⟨rfl, below_then HBW.out HBW.out.size HB.out⟩
                    · skip
                      have e1 : decide ((d.length : Int) > 0) = true := decide_eq_true (by omega)
                      have e1' : decide (0 < d.length) = true := decide_eq_true hd0
                      have e2 : decide ((b.length : Int) > 0) = false := decide_eq_false (by omega)
                      have e2' : decide (0 < b.length) = false := decide_eq_false hb0
                      have hbe : b = [] := by cases b with | nil => rfl | cons _ _ => simp at hb0
                      have n2 : u.c.length = 0 := by rw [HUC.out hbe]; rfl
                      clear hbe
                      go_wp2
                      go_ret
                      exact ⟨rfl, below_then HBW.out HBW.out.size HB.out⟩
                  · by_cases hb0 : 0 < b.length
                    · skip
                      have e1 : decide ((d.length : Int) > 0) = false := decide_eq_false (by omega)
                      have e1' : decide (0 < d.length) = false := decide_eq_false hd0
                      have hde : d = [] := by cases d with | nil => rfl | cons _ _ => simp at hd0
                      have n1 : p.c.length = 0 := by rw [HPC.out hde]; rfl
                      clear hde
                      have e2 : decide ((b.length : Int) > 0) = true := decide_eq_true (by omega)
                      have e2' : decide (0 < b.length) = true := decide_eq_true hb0
                      go_wp2
                      go_ret
                      exact ⟨rfl, below_then HBW.out HBW.out.size HB.out⟩
                    · skip
                      have e1 : decide ((d.length : Int) > 0) = false := decide_eq_false (by omega)
                      have e1' : decide (0 < d.length) = false := decide_eq_false hd0
                      have hde : d = [] := by cases d with | nil => rfl | cons _ _ => simp at hd0
                      have n1 : p.c.length = 0 := by rw [HPC.out hde]; rfl
                      clear hde
                      have e2 : decide ((b.length : Int) > 0) = false := decide_eq_false (by omega)
                      have e2' : decide (0 < b.length) = false := decide_eq_false hb0
                      have hbe : b = [] := by cases b with | nil => rfl | cons _ _ => simp at hb0
                      have n2 : u.c.length = 0 := by rw [HUC.out hbe]; rfl
                      clear hbe
                      go_wp2
                      go_ret
                      exact ⟨rfl, below_then HBW.out HBW.out.size HB.out⟩
end Go.Proofs.YtccenpmaooailaaGreat.Hk
