
/- FnExactPairAnd: walked through. -/
import Derived.Test.YtccenpmaooailaaNB7
import Derived.Test.YtccenpmaooailaaNB6
import Derived.Test.YtccenpmaooailaaNEf
set_option linter.unusedVariables false
set_option linter.unusedSimpArgs false
namespace Go.Proofs.Ytccenpmaooailaa.Ei
open Go.RowKit Go.Proofs.YtccenpmaooailaaW.PrintWords Go.Proofs.Ytccenpmaooailaa.Wd Go.Proofs.Ytccenpmaooailaa.Pu Go.Proofs.Ytccenpmaooailaa.Pv Go.Proofs.Ytccenpmaooailaa.Ca Go.Proofs.Ytccenpmaooailaa.Cb Go.Proofs.Ytccenpmaooailaa.Cc Go.Proofs.Ytccenpmaooailaa.Cp Go.Proofs.Ytccenpmaooailaa.Cd Go.Proofs.Ytccenpmaooailaa.Ci Go.Proofs.Ytccenpmaooailaa.Ce Go.Proofs.Ytccenpmaooailaa.Cf Go.Proofs.Ytccenpmaooailaa.Cg Go.Proofs.Ytccenpmaooailaa.Sc Go.Proofs.Ytccenpmaooailaa.Se Go.Proofs.Ytccenpmaooailaa.Sh Go.Proofs.Ytccenpmaooailaa.Si Go.Proofs.Ytccenpmaooailaa.Sp Go.Proofs.Ytccenpmaooailaa.Ia Go.Proofs.Ytccenpmaooailaa.Ib Go.Proofs.Ytccenpmaooailaa.Ic Go.Proofs.Ytccenpmaooailaa.Id Go.Proofs.Ytccenpmaooailaa.Ie Go.Proofs.Ytccenpmaooailaa.If Go.Proofs.Ytccenpmaooailaa.Ig Go.Proofs.Ytccenpmaooailaa.Ih Go.Proofs.Ytccenpmaooailaa.Ij Go.Proofs.Ytccenpmaooailaa.Ik Go.Proofs.Ytccenpmaooailaa.Ra Go.Proofs.Ytccenpmaooailaa.Rb Go.Proofs.Ytccenpmaooailaa.Rc Go.Proofs.Ytccenpmaooailaa.Rd Go.Proofs.Ytccenpmaooailaa.Re Go.Proofs.Ytccenpmaooailaa.Sj Go.Proofs.Ytccenpmaooailaa.Ya Go.Proofs.Ytccenpmaooailaa.Yd Go.Proofs.Ytccenpmaooailaa.Yf Go.Proofs.Ytccenpmaooailaa.Yg Go.Proofs.Ytccenpmaooailaa.Ih Go.Proofs.Ytccenpmaooailaa.Yh Go.Proofs.Ytccenpmaooailaa.Yi Go.Proofs.Ytccenpmaooailaa.Sg Go.Proofs.Ytccenpmaooailaa.Sf Go.Proofs.Ytccenpmaooailaa.Yj Go.Proofs.Ytccenpmaooailaa.Ig Go.Proofs.Ytccenpmaooailaa.Yk Go.Proofs.Ytccenpmaooailaa.Ik Go.Proofs.Ytccenpmaooailaa.Yl Go.Proofs.Ytccenpmaooailaa.Ij Go.Proofs.Ytccenpmaooailaa.Ym Go.Proofs.Ytccenpmaooailaa.Il Go.Proofs.Ytccenpmaooailaa.Yn Go.Proofs.Ytccenpmaooailaa.Yo Go.Proofs.Ytccenpmaooailaa.In Go.Proofs.Ytccenpmaooailaa.Yq Go.Proofs.Ytccenpmaooailaa.Pw Go.Proofs.Ytccenpmaooailaa.Px Go.Proofs.Ytccenpmaooailaa.La Go.Proofs.Ytccenpmaooailaa.Db Go.Proofs.Ytccenpmaooailaa.Sh Go.Proofs.Ytccenpmaooailaa.Id Go.Proofs.Ytccenpmaooailaa.Ea Go.Proofs.Ytccenpmaooailaa.Eb Go.Proofs.Ytccenpmaooailaa.Ec Go.Proofs.Ytccenpmaooailaa.Ed Go.Proofs.Ytccenpmaooailaa.Eg Go.Proofs.Ytccenpmaooailaa.Ee Go.Proofs.Ytccenpmaooailaa.Ef Go.Proofs.Ytccenpmaooailaa.Tb Go.Proofs.Ytccenpmaooailaa.Td Go.Proofs.Ytccenpmaooailaa.Te Go.Proofs.Ytccenpmaooailaa.Tl
set_option maxHeartbeats 40000000 in
set_option maxRecDepth 100000 in
theorem walk (mode : Int) (A B C D : Option Addr) (ca cb cc cd : Nat) (l r a b : List Occ) (w : World) (hL : IsL w l A ca) (hR : IsL w r B cb) (hA : IsL w a C cc) (hB : IsL w b D cd) :
    Calls Try.prog 4 #[.int .i64 mode, .agg #[.slice A l.length ca, .slice B r.length cb], .slice C a.length cc, .slice D b.length cd] w fun e w' => e = .returned (.bool true) ∧ Below w.heap.size w w' := by
  obtain ⟨p, hp⟩ : ∃ p, p = spec3 (fits mode l r a b) (and3 mode l r a b) := ⟨_, rfl⟩
  have hwt : Wt3 p := by rw [hp]; exact wt3_and _ l r a b
  obtain ⟨hw0, hw1, hw2⟩ := hwt
  have HSP := Aside0.mk (fun (A B C D : Option Addr) (ca cb cc cd : Nat) (w : World) (hL : IsL w l A ca) (hR : IsL w r B cb) (hA : IsL w a C cc) (hB : IsL w b D cd) => (by rw [hp]; exact sPairAnd_any mode A B C D ca cb cc cd l r a b w hL hR hA hB : Calls Try.prog 22 #[.int .i64 mode, .agg #[.slice A l.length ca, .slice B r.length cb], .slice C a.length cc, .slice D b.length cd] w fun e w' => Out3L w w' p e))
  have HIM := Aside0.mk (fun (A B C D : Option Addr) (ca cb cc cd : Nat) (w : World) (hL : IsL w l A ca) (hR : IsL w r B cb) (hA : IsL w a C cc) (hB : IsL w b D cd) => (by rw [hp]; exact pairAnd_any2 mode A B C D ca cb cc cd l r a b w hL hR hA hB : Calls Try.prog 23 #[.int .i64 mode, .agg #[.slice A l.length ca, .slice B r.length cb], .slice C a.length cc, .slice D b.length cd] w fun e w' => Out3S w w' p e))
  clear hp
  have hb0 := below_alloc (Below.refl w.heap.size w) (.cells #[.slice A l.length ca, .slice B r.length cb] 24)
  have bP := blk_new w (.cells #[.slice A l.length ca, .slice B r.length cb] 24)
  have HL := Aside0.mk (hL.below hb0)
  have HR := Aside0.mk (hR.below hb0)
  have HA := Aside0.mk (hA.below hb0)
  have HB := Aside0.mk (hB.below hb0)
  have HW0 := Aside0.mk hb0
  clear hL hR hA hB
  go_enter Try.func4, Try.ntmps4
  go_upto_region 2 with fail
  generalize w.alloc (.cells #[.slice A l.length ca, .slice B r.length cb] 24) = W at hb0 bP HL HR HA HB HW0 ⊢
  clear hb0
  have HA0 := Aside0.mk (Below.refl W.heap.size W)
  have bP0 := bP
  have p0 := (blk_cell bP0 0).trans rfl
  have p1 := (blk_cell bP0 1).trans rfl
  go_upto_region 3 with (go_at_call 10; refine (szPair_any A B ca cb l r 1048576 (by decide) (by decide) _ HL.out HR.out).mono ?_; rintro e w1 ⟨q1, rfl, hb, hq0, hq1, hq2⟩; have HQ1 := Aside0.mk hq2; have s1 := And.intro hq0 hq1; have HA1 := Aside0.mk hb; have bP1 := blk_below bP0 hb; have p2 := (blk_cell bP1 0).trans rfl; have p3 := (blk_cell bP1 1).trans rfl; clear hb hq0 hq1 hq2)
  clear p0 p1 bP0
  by_cases hq1 : q1 < 0
  · have d : decide (q1 < 0) = true := decide_eq_true hq1
    clear hq1
    go_wp2
    go_ret
    exact ⟨rfl, below_then HW0.out HW0.out.size HA1.out⟩
  have d1 : decide (q1 < 0) = false := decide_eq_false hq1
  have hz1 := HQ1.out (by omega)
  have nl : l.length ≤ 1048576 := by have := hz1.1.1; omega
  have nr : r.length ≤ 1048576 := by have := hz1.2.1; omega
  have IL := Aside0.mk (show ∀ x ∈ l, x.f2.length ≤ 1048576 from fun x hx => by have := hz1.1.2 x hx; omega)
  have IR := Aside0.mk (show ∀ x ∈ r, x.f2.length ≤ 1048576 from fun x hx => by have := hz1.2.2 x hx; omega)
  clear hz1 HQ1
  go_upto_region 6 with (go_at_call 11; refine (szOccS_any C cc a q1 (by omega) (by omega) _ (HA.out.below HA1.out)).mono ?_; rintro e w2 ⟨q2, rfl, hb, hq0, hq1, hq2⟩; have HQ2 := Aside0.mk hq2; have s2 := And.intro hq0 hq1; have HA2 := Aside0.mk (below_then HA1.out HA1.out.size hb); have bP2 := blk_below bP1 hb; clear hb hq0 hq1 hq2)
  by_cases hq2 : q2 < 0
  · have d : decide (q2 < 0) = true := decide_eq_true hq2
    clear hq2
    go_wp2
    go_ret
    exact ⟨rfl, below_then HW0.out HW0.out.size HA2.out⟩
  have d2 : decide (q2 < 0) = false := decide_eq_false hq2
  have hz2 := HQ2.out (by omega)
  have na : a.length ≤ 1048576 := by have := hz2.1; omega
  have IA := Aside0.mk (show ∀ x ∈ a, x.f2.length ≤ 1048576 from fun x hx => by have := hz2.2 x hx; omega)
  clear hz2 HQ2 bP1
  go_upto_region 9 with (go_at_call 11; refine (szOccS_any D cd b q2 (by omega) (by omega) _ (HB.out.below HA2.out)).mono ?_; rintro e w3 ⟨q3, rfl, hb, hq0, hq1, hq2⟩; have HQ3 := Aside0.mk hq2; have s3 := And.intro hq0 hq1; have HA3 := Aside0.mk (below_then HA2.out HA2.out.size hb); have bP3 := blk_below bP2 hb; clear hb hq0 hq1 hq2)
  by_cases hq3 : q3 < 0
  · have d : decide (q3 < 0) = true := decide_eq_true hq3
    clear hq3
    go_wp2
    go_ret
    exact ⟨rfl, below_then HW0.out HW0.out.size HA3.out⟩
  have d3 : decide (q3 < 0) = false := decide_eq_false hq3
  have hz3 := HQ3.out (by omega)
  have nb : b.length ≤ 1048576 := by have := hz3.1; omega
  have IB := Aside0.mk (show ∀ x ∈ b, x.f2.length ≤ 1048576 from fun x hx => by have := hz3.2 x hx; omega)
  clear hz3 HQ3 bP2
  clear d1 hq1 s1 d2 hq2 s2 hq3 s3 p2 p3
  have q0 := (blk_cell bP3 0).trans rfl
  have q1 := (blk_cell bP3 1).trans rfl
  go_upto_region 12 with (first
    | (have hh := HYb.out; clear hh; go_at_call 22; refine (HSP.out Y0 Y1 Ya Yb Yc0 Yc1 Yca Ycb _ (((HY.out).below HSY5.out).below HSY6.out).isL.1 (((HY.out).below HSY5.out).below HSY6.out).isL.2 ((HYa.out).below HSY6.out).isL (HYb.out).isL).mono ?_; rintro e w7 ⟨S0, sc0, S1, sc1, S2, sc2, rfl, h0, h1, h2, hb⟩; have HSA := Aside0.mk h0; have HSB := Aside0.mk h1; have HSC := Aside0.mk h2; have HA7 := Aside0.mk (below_then HA6.out HA6.out.size hb); have bP7 := blk_below bP6 hb; clear h0 h1 h2 hb)
    | (have hh := HYa.out; clear hh; go_at_call 14; refine (toOccS_any D cd b _ nb IB.out (HB.out.below HA5.out)).mono ?_; rintro e w6 ⟨v0, rfl, h0, hb⟩; obtain ⟨Yb, Ycb, rfl⟩ := Kd.S_slice h0; have HYb := Aside0.mk (Row.of h0); have HA6 := Aside0.mk (below_then HA5.out HA5.out.size hb); have bP6 := blk_below bP5 hb; have HSY6 := Aside0.mk hb; clear hb h0)
    | (have hh := HY.out; clear hh; go_at_call 14; refine (toOccS_any C cc a _ na IA.out (HA.out.below HA4.out)).mono ?_; rintro e w5 ⟨v0, rfl, h0, hb⟩; obtain ⟨Ya, Yca, rfl⟩ := Kd.S_slice h0; have HYa := Aside0.mk (Row.of h0); have HA5 := Aside0.mk (below_then HA4.out HA4.out.size hb); have bP5 := blk_below bP4 hb; have HSY5 := Aside0.mk hb; clear hb h0)
    | (go_at_call 13; refine (toPair_any A B ca cb l r _ nl nr IL.out IR.out (HL.out.below HA3.out) (HR.out.below HA3.out)).mono ?_; rintro e w4 ⟨v0, v1, P, Q, rfl, h0, h1, hap, hb⟩; obtain ⟨Y0, Yc0, rfl⟩ := Kd.S_slice h0; obtain ⟨Y1, Yc1, rfl⟩ := Kd.S_slice h1; have HY := Aside0.mk (Row2.of h0 h1 hap); have HA4 := Aside0.mk (below_then HA3.out HA3.out.size hb); have bP4 := blk_below bP3 hb; have HSY4 := Aside0.mk hb; clear hb h0 h1 hap))
  clear q0 q1 d3
  have bS := blk_new w7 (.cells #[.slice S0 p.a.length sc0, .slice S1 p.b.length sc1] 29)
  have hbx := below_alloc (Below.refl w7.heap.size w7) (.cells #[.slice S0 p.a.length sc0, .slice S1 p.b.length sc1] 29)
  have hszx : (w7.alloc (.cells #[.slice S0 p.a.length sc0, .slice S1 p.b.length sc1] 29)).heap.size = w7.heap.size + 1 := by simp
  generalize w7.alloc (.cells #[.slice S0 p.a.length sc0, .slice S1 p.b.length sc1] 29) = W8 at bS hbx hszx ⊢
  have HA7' := HA7
  clear HA7
  have HA7 := Aside0.mk (below_then HA7'.out HA7'.out.size hbx)
  have bP7 := blk_below bP7 hbx
  have HSA8 := Aside0.mk (HSA.out.below hbx)
  have HSB8 := Aside0.mk (HSB.out.below hbx)
  have HSC8 := Aside0.mk (HSC.out.below hbx)
  have HC7 := Aside0.mk (Below.refl W8.heap.size W8)
  have HSZ8 := Aside0.mk hszx
  clear hbx hszx HSA HSB HSC HA7' HY HYa HYb
  have q0 := (blk_cell bP7 0).trans rfl
  have q1 := (blk_cell bP7 1).trans rfl
  go_upto_region 13 with (go_at_call 13; refine (toPair_any A B ca cb l r _ nl nr IL.out IR.out (HL.out.below HA7.out) (HR.out.below HA7.out)).mono ?_; rintro e w8 ⟨v0, v1, P, Q, rfl, h0, h1, hap, hb⟩; obtain ⟨X0, Xc0, rfl⟩ := Kd.S_slice h0; obtain ⟨X1, Xc1, rfl⟩ := Kd.S_slice h1; have HX := Aside0.mk (Row2.of h0 h1 hap); have HA8 := Aside0.mk (below_then HA7.out HA7.out.size hb); have HC8 := Aside0.mk (below_then HC7.out HC7.out.size hb); have bP8 := blk_below bP7 hb; clear hb h0 h1 hap)
  have bX := blk_new w8 (.cells #[.slice X0 l.length Xc0, .slice X1 r.length Xc1] 29)
  have hbx := below_alloc (Below.refl w8.heap.size w8) (.cells #[.slice X0 l.length Xc0, .slice X1 r.length Xc1] 29)
  have hszx : (w8.alloc (.cells #[.slice X0 l.length Xc0, .slice X1 r.length Xc1] 29)).heap.size = w8.heap.size + 1 := by simp
  generalize w8.alloc (.cells #[.slice X0 l.length Xc0, .slice X1 r.length Xc1] 29) = W9 at bX hbx hszx ⊢
  have HA8' := HA8
  have HC8' := HC8
  clear HA8 HC8
  have HA8 := Aside0.mk (below_then HA8'.out HA8'.out.size hbx)
  have HC8 := Aside0.mk (below_then HC8'.out HC8'.out.size hbx)
  have bP8 := blk_below bP8 hbx
  have HX9 := Aside0.mk (HX.out.below hbx)
  have HSZ9 := Aside0.mk (show W8.heap.size ≤ w8.heap.size ∧ W9.heap.size = w8.heap.size + 1 from ⟨HC8'.out.size, hszx⟩)
  have HD8 := Aside0.mk (Below.refl W9.heap.size W9)
  clear hbx hszx HX HA8' HC8' q0 q1
  go_upto_region 14 with (go_at_call 14; refine (toOccS_any C cc a _ na IA.out (HA.out.below HA8.out)).mono ?_; rintro e w9 ⟨v0, rfl, h0, hb⟩; obtain ⟨Xa, Xca, rfl⟩ := Kd.S_slice h0; have HXa := Aside0.mk (Row.of h0); have HA9 := Aside0.mk (below_then HA8.out HA8.out.size hb); have HC9 := Aside0.mk (below_then HC8.out HC8.out.size hb); have HD9 := Aside0.mk (below_then HD8.out HD8.out.size hb); have bP9 := blk_below bP8 hb; clear hb h0; have HSX9 := Aside0.mk HD9.out.size)
  have HGa9 := Aside0.mk (Below.refl w9.heap.size w9)
  go_upto_region 15 with (go_at_call 14; refine (toOccS_any D cd b _ nb IB.out (HB.out.below HA9.out)).mono ?_; rintro e w10 ⟨v0, rfl, h0, hb⟩; obtain ⟨Xb, Xcb, rfl⟩ := Kd.S_slice h0; have HXb := Aside0.mk (Row.of h0); have HA10 := Aside0.mk (below_then HA9.out HA9.out.size hb); have HC10 := Aside0.mk (below_then HC9.out HC9.out.size hb); have HD10 := Aside0.mk (below_then HD9.out HD9.out.size hb); have HGa10 := Aside0.mk (below_then HGa9.out HGa9.out.size hb); have bP10 := blk_below bP9 hb; clear hb h0; have HSX10 := Aside0.mk HD10.out.size)
  have HE10 := Aside0.mk (Below.refl w10.heap.size w10)
  have HX11 := Aside0.mk (HX9.out.below HD10.out)
  have HXa11 := Aside0.mk (HXa.out.below HGa10.out)
  have HXb11 := Aside0.mk (HXb.out)
  have x0 := (blk_cell (blk_below bX HD10.out) 0).trans rfl
  have x1 := (blk_cell (blk_below bX HD10.out) 1).trans rfl
  go_upto_region 16 with (go_at_call 23; refine (HIM.out X0 X1 Xa Xb Xc0 Xc1 Xca Xcb _ HX11.out.isL.1 HX11.out.isL.2 HXa11.out.isL HXb11.out.isL).mono ?_; rintro e w11 ⟨v0, v1, v2, rfl, h3, hb⟩; obtain ⟨G0, gc0, hg0⟩ : ∃ A c, v0 = .slice A p.a.length c := Three.slice0 h3; obtain ⟨G1, gc1, hg1⟩ : ∃ A c, v1 = .slice A p.b.length c := Three.slice1 h3; obtain ⟨G2, gc2, hg2⟩ : ∃ A c, v2 = .slice A p.c.length c := Three.slice2 h3; subst hg0 hg1 hg2; have HG := Aside0.mk (Row3.of h3); have HA11 := Aside0.mk (below_then HA10.out HA10.out.size hb); have HC11 := Aside0.mk (below_then HC10.out HC10.out.size hb); have HD11 := Aside0.mk (below_then HD10.out HD10.out.size hb); have HE11 := Aside0.mk (below_then HE10.out HE10.out.size hb); have bP11 := blk_below bP10 hb; clear h3 hb)
  clear x0 x1
  have bG := blk_new w11 (.cells #[.slice G0 p.a.length gc0, .slice G1 p.b.length gc1] 29)
  have hbx := below_alloc (Below.refl w11.heap.size w11) (.cells #[.slice G0 p.a.length gc0, .slice G1 p.b.length gc1] 29)
  have hszx : (w11.alloc (.cells #[.slice G0 p.a.length gc0, .slice G1 p.b.length gc1] 29)).heap.size = w11.heap.size + 1 := by simp
  generalize w11.alloc (.cells #[.slice G0 p.a.length gc0, .slice G1 p.b.length gc1] 29) = W12 at bG hbx hszx ⊢
  have HA11' := HA11
  clear HA11
  have HA11 := Aside0.mk (below_then HA11'.out HA11'.out.size hbx)
  have HC11' := HC11
  clear HC11
  have HC11 := Aside0.mk (below_then HC11'.out HC11'.out.size hbx)
  have HD11' := HD11
  clear HD11
  have HD11 := Aside0.mk (below_then HD11'.out HD11'.out.size hbx)
  have HE11' := HE11
  clear HE11
  have HE11 := Aside0.mk (below_then HE11'.out HE11'.out.size hbx)
  have bP11 := blk_below bP11 hbx
  have HG12 := Aside0.mk (HG.out.below hbx)
  have HSZ12 := Aside0.mk (show w10.heap.size ≤ w11.heap.size ∧ W12.heap.size = w11.heap.size + 1 from ⟨HE11'.out.size, hszx⟩)
  have HI11 := Aside0.mk (Below.refl W12.heap.size W12)
  clear hbx hszx HG HA11' HC11' HD11' HE11'
  have g0 := (blk_cell bG 0).trans rfl
  have g1 := (blk_cell bG 1).trans rfl
  have t0 := (blk_cell (blk_below bS HC11.out) 0).trans rfl
  have t1 := (blk_cell (blk_below bS HC11.out) 1).trans rfl
  go_upto_region 18 with (first
    | (have hh := HC12.out; clear hh; go_at_call 17; refine (eqOccS_any _ _ _ _ p.c _ (HG12.out.below HI12.out).isL.2.2 (HSC8.out.below HC12.out)).mono ?_; rintro e w13 ⟨rfl, hb⟩; have HA13 := Aside0.mk (below_then HA12.out HA12.out.size hb); have HC13 := Aside0.mk (below_then HC12.out HC12.out.size hb); have HD13 := Aside0.mk (below_then HD12.out HD12.out.size hb); have HE13 := Aside0.mk (below_then HE12.out HE12.out.size hb); have HI13 := Aside0.mk (below_then HI12.out HI12.out.size hb); have bP13 := blk_below bP12 hb; clear hb)
    | (go_at_call 16; refine (eqPair_any _ _ _ _ _ _ _ _ p.a p.b _ (HG12.out.below HI11.out).isL.1 (HG12.out.below HI11.out).isL.2.1 (HSA8.out.below HC11.out) (HSB8.out.below HC11.out)).mono ?_; rintro e w12 ⟨rfl, hb⟩; have HA12 := Aside0.mk (below_then HA11.out HA11.out.size hb); have HC12 := Aside0.mk (below_then HC11.out HC11.out.size hb); have HD12 := Aside0.mk (below_then HD11.out HD11.out.size hb); have HE12 := Aside0.mk (below_then HE11.out HE11.out.size hb); have HI12 := Aside0.mk (below_then HI11.out HI11.out.size hb); have bP12 := blk_below bP11 hb; clear hb))
  clear g0 g1 t0 t1
  have HF6 : Aside0 (∀ w', Below w13.heap.size w13 w' → (fun w' => (w'.cell? ⟨w8.heap.size, 0, none⟩ = some (.slice X0 l.length Xc0) ∧ w'.cell? ⟨w8.heap.size, 1, none⟩ = some (.slice X1 r.length Xc1)) ∧ (w'.cell? ⟨w.heap.size, 0, none⟩ = some (.slice A l.length ca) ∧ w'.cell? ⟨w.heap.size, 1, none⟩ = some (.slice B r.length cb))) w') := ⟨fun w' h => ⟨⟨pw_cell_below h ((blk_cell (blk_below bX HD13.out) 0).trans rfl), pw_cell_below h ((blk_cell (blk_below bX HD13.out) 1).trans rfl)⟩, ⟨pw_cell_below h ((blk_cell bP13 0).trans rfl), pw_cell_below h ((blk_cell bP13 1).trans rfl)⟩⟩⟩
  have HB0 : Below w13.heap.size w13 w13.drew := below_drew (Below.refl _ _)
  refine Za.regionL (fun w' => (w'.cell? ⟨w8.heap.size, 0, none⟩ = some (.slice X0 l.length Xc0) ∧ w'.cell? ⟨w8.heap.size, 1, none⟩ = some (.slice X1 r.length Xc1)) ∧ (w'.cell? ⟨w.heap.size, 0, none⟩ = some (.slice A l.length ca) ∧ w'.cell? ⟨w.heap.size, 1, none⟩ = some (.slice B r.length cb))) [] (by kernel_rfl) ?_
  have HS : (fun w' => (w'.cell? ⟨w8.heap.size, 0, none⟩ = some (.slice X0 l.length Xc0) ∧ w'.cell? ⟨w8.heap.size, 1, none⟩ = some (.slice X1 r.length Xc1)) ∧ (w'.cell? ⟨w.heap.size, 0, none⟩ = some (.slice A l.length ca) ∧ w'.cell? ⟨w.heap.size, 1, none⟩ = some (.slice B r.length cb))) w13.drew := HF6.out _ HB0
  refine Za.takeL 0 (v := ?vd0) rfl (by kernel_rfl) (by kernel_rfl) (by kernel_rfl) (by kernel_rfl) (fun _ _ _ h => h) (Or.inl ⟨by rfl, ?hyd0⟩) HS ?restd0
  case hyd0 => (intro w hSw; (try dsimp only at hSw); go_simp; try with_reducible rfl)
  (try simp only [Act.put, List.setIfInBounds_toArray, List.set_cons_zero, List.set_cons_succ])
  refine Za.takeL 1 (v := ?vd1) rfl (by kernel_rfl) (by kernel_rfl) (by kernel_rfl) (by kernel_rfl) (fun _ _ _ h => h) (Or.inl ⟨by rfl, ?hyd1⟩) HS ?restd1
  case hyd1 => (intro w hSw; (try dsimp only at hSw); go_simp; try with_reducible rfl)
  (try simp only [Act.put, List.setIfInBounds_toArray, List.set_cons_zero, List.set_cons_succ])
  clear HS
  refine Za.nextL 2 (by kernel_rfl) rfl (fun K' hK => ?_)
  go_simp
  (go_at_call 13; refine (toPair_any A B ca cb l r _ nl nr IL.out IR.out (HL.out.below (below_then HA13.out HA13.out.size HB0)) (HR.out.below (below_then HA13.out HA13.out.size HB0))).mono ?_; rintro e w14 ⟨v0, v1, P, Q, rfl, h0, h1, hap, hb⟩; obtain ⟨Z0, zc0, rfl⟩ := Kd.S_slice h0; obtain ⟨Z1, zc1, rfl⟩ := Kd.S_slice h1; have HZ := Aside0.mk (Row2.of h0 h1 hap); have HB1 : Below w13.heap.size w13 w14 := keepD hb; clear hb h0 h1 hap)
  go_wp2_with fail
  refine hK.out _ _ ⟨fun _ => HF6.out _ HB1, ?_⟩
  clear hK K'
  (try simp only [Act.put, List.setIfInBounds_toArray, List.set_cons_zero, List.set_cons_succ])
  have HS : (fun w' => (w'.cell? ⟨w8.heap.size, 0, none⟩ = some (.slice X0 l.length Xc0) ∧ w'.cell? ⟨w8.heap.size, 1, none⟩ = some (.slice X1 r.length Xc1)) ∧ (w'.cell? ⟨w.heap.size, 0, none⟩ = some (.slice A l.length ca) ∧ w'.cell? ⟨w.heap.size, 1, none⟩ = some (.slice B r.length cb))) w14 := HF6.out _ HB1
  clear HS
  refine Za.nextL 3 (by kernel_rfl) rfl (fun K' hK => ?_)
  go_simp
  (go_at_call 16; refine (eqPair_any X0 X1 Z0 Z1 Xc0 Xc1 zc0 zc1 l r _ (HX9.out.below (below_then HD13.out HD13.out.size HB1)).isL.1 (HX9.out.below (below_then HD13.out HD13.out.size HB1)).isL.2 HZ.out.isL.1 HZ.out.isL.2).mono ?_; rintro e w15 ⟨rfl, hb⟩; have HB2 : Below w13.heap.size w13 w15 := below_then HB1 HB1.size hb; have HB5 := Aside0.mk HB2; clear hb)
  go_wp2_with fail
  refine hK.out _ _ ⟨fun _ => HF6.out _ HB2, ?_⟩
  clear hK K'
  (try simp only [Act.put, List.setIfInBounds_toArray, List.set_cons_zero, List.set_cons_succ])
  have HS : (fun w' => (w'.cell? ⟨w8.heap.size, 0, none⟩ = some (.slice X0 l.length Xc0) ∧ w'.cell? ⟨w8.heap.size, 1, none⟩ = some (.slice X1 r.length Xc1)) ∧ (w'.cell? ⟨w.heap.size, 0, none⟩ = some (.slice A l.length ca) ∧ w'.cell? ⟨w.heap.size, 1, none⟩ = some (.slice B r.length cb))) w15 := HF6.out _ HB2
  refine Za.takeL 4 (v := ?vd4) rfl (by kernel_rfl) (by kernel_rfl) (by kernel_rfl) (by kernel_rfl) (fun _ _ _ h => h) (Or.inl ⟨by rfl, ?hyd4⟩) HS ?restd4
  case hyd4 => (intro w hSw; (try dsimp only at hSw); go_simp; try with_reducible rfl)
  (try simp only [Act.put, List.setIfInBounds_toArray, List.set_cons_zero, List.set_cons_succ])
  refine Za.Walk.done (by kernel_rfl) ?_
  clear HS
  have HA15 := Aside0.mk (below_then HA13.out HA13.out.size HB5.out)
  have HC15 := Aside0.mk (below_then HC13.out HC13.out.size HB5.out)
  have HD15 := Aside0.mk (below_then HD13.out HD13.out.size HB5.out)
  have HE15 := Aside0.mk (below_then HE13.out HE13.out.size HB5.out)
  have HI15 := Aside0.mk (below_then HI13.out HI13.out.size HB5.out)
  have bP15 := blk_below bP13 HB5.out
  clear HF6 HB5 HZ
  go_upto_region 22 with (first
    | (have hh := HZa.out; clear hh; go_at_call 17; refine (eqOccS_any Xa Za Xca Zca a _ (HXa11.out.below HE16.out).isL HZa.out.isL).mono ?_; rintro e w17 ⟨rfl, hb⟩; have HA17 := Aside0.mk (below_then HA16.out HA16.out.size hb); have HC17 := Aside0.mk (below_then HC16.out HC16.out.size hb); have HD17 := Aside0.mk (below_then HD16.out HD16.out.size hb); have HE17 := Aside0.mk (below_then HE16.out HE16.out.size hb); have HI17 := Aside0.mk (below_then HI16.out HI16.out.size hb); have bP17 := blk_below bP16 hb; clear hb)
    | (go_at_call 14; refine (toOccS_any C cc a _ na IA.out (HA.out.below HA15.out)).mono ?_; rintro e w16 ⟨v0, rfl, h0, hb⟩; obtain ⟨Za, Zca, rfl⟩ := Kd.S_slice h0; have HZa := Aside0.mk (Row.of h0); have HA16 := Aside0.mk (below_then HA15.out HA15.out.size hb); have HC16 := Aside0.mk (below_then HC15.out HC15.out.size hb); have HD16 := Aside0.mk (below_then HD15.out HD15.out.size hb); have HE16 := Aside0.mk (below_then HE15.out HE15.out.size hb); have HI16 := Aside0.mk (below_then HI15.out HI15.out.size hb); have bP16 := blk_below bP15 hb; clear hb h0))
  clear HZa
  go_upto_region 25 with (first
    | (have hh := HZb.out; clear hh; go_at_call 17; refine (eqOccS_any Xb Zb Xcb Zcb b _ (HXb11.out.below HE18.out).isL HZb.out.isL).mono ?_; rintro e w19 ⟨rfl, hb⟩; have HA19 := Aside0.mk (below_then HA18.out HA18.out.size hb); have HC19 := Aside0.mk (below_then HC18.out HC18.out.size hb); have HD19 := Aside0.mk (below_then HD18.out HD18.out.size hb); have HE19 := Aside0.mk (below_then HE18.out HE18.out.size hb); have HI19 := Aside0.mk (below_then HI18.out HI18.out.size hb); have bP19 := blk_below bP18 hb; clear hb)
    | (go_at_call 14; refine (toOccS_any D cd b _ nb IB.out (HB.out.below HA17.out)).mono ?_; rintro e w18 ⟨v0, rfl, h0, hb⟩; obtain ⟨Zb, Zcb, rfl⟩ := Kd.S_slice h0; have HZb := Aside0.mk (Row.of h0); have HA18 := Aside0.mk (below_then HA17.out HA17.out.size hb); have HC18 := Aside0.mk (below_then HC17.out HC17.out.size hb); have HD18 := Aside0.mk (below_then HD17.out HD17.out.size hb); have HE18 := Aside0.mk (below_then HE17.out HE17.out.size hb); have HI18 := Aside0.mk (below_then HI17.out HI17.out.size hb); have bP18 := blk_below bP17 hb; clear hb h0))
  clear HZb
  have HXM := Aside0.mk (HX9.out.below HD19.out)
  have HXMa := Aside0.mk (HXa11.out.below HE19.out)
  have HXMb := Aside0.mk (HXb11.out.below HE19.out)
  have x0 := (blk_cell (blk_below bX HD19.out) 0).trans rfl
  have x1 := (blk_cell (blk_below bX HD19.out) 1).trans rfl
  have hz8 := HSZ9.out.1
  have hz9 := HSZ9.out.2
  have hza := HSX9.out
  have hzb := HSX10.out
  have hzza := HGa10.out.size
  obtain ⟨k1, hk1⟩ : ∃ k1 : Int, k1 = 1 + wtO l + wtO r := ⟨_, rfl⟩
  have hwl := wt_big l nl IL.out
  have hwr := wt_big r nr IR.out
  have hwa := wt_big a na IA.out
  have hwb := wt_big b nb IB.out
  have b1 : 1 ≤ k1 ∧ k1 ≤ 2199027449857 := by omega
  have HK1 := Aside0.mk hk1
  clear hk1
  go_upto_region 26 with (go_at_call 18; refine (row2MarkPair _ _ _ _ l r 1 _ (by decide) (by omega) HXM.out).mono ?_; rintro e w20 ⟨rfl, -, hf⟩; rw [← HK1.out]; have HF1 := Aside0.mk hf; have HXMa1 := Aside0.mk (HXMa.out.fr hf (fun k hk => by have h1 := hk.1; have h2 := hk.2; omega)); have HXMb1 := Aside0.mk (HXMb.out.fr hf (fun k hk => by have h1 := hk.1; have h2 := hk.2; omega)); clear hf)
  clear x0 x1 HXM HXMa HXMb
  obtain ⟨k2, hk2⟩ : ∃ k : Int, k = k1 + wtO a := ⟨_, rfl⟩
  have b2 : 1 ≤ k2 ∧ k2 ≤ 3298541174785 := by omega
  have HK2 := Aside0.mk hk2
  clear hk2
  go_upto_region 27 with (go_at_call 19; refine (rowMark _ _ _ a k1 _ (by omega) (by omega) HXMa1.out).mono ?_; rintro e w21 ⟨rfl, -, hf⟩; rw [← HK2.out]; have HF2 := Aside0.mk hf; have HXMb2 := Aside0.mk (HXMb1.out.fr hf (fun k hk => by have h1 := hk.1; have h2 := hk.2; omega)); clear hf)
  clear HXMa1 HXMb1
  obtain ⟨k3, hk3⟩ : ∃ k : Int, k = k2 + wtO b := ⟨_, rfl⟩
  have b3 : 1 ≤ k3 ∧ k3 ≤ 4398054899713 := by omega
  have HK3 := Aside0.mk hk3
  clear hk3
  have dk : decide (k3 < 0) = false := decide_eq_false (by omega)
  go_upto_region 28 with (go_at_call 19; refine (rowMark _ _ _ b k2 _ (by omega) (by omega) HXMb2.out).mono ?_; rintro e w22 ⟨rfl, -, hf⟩; rw [← HK3.out]; have HF3 := Aside0.mk hf; clear hf)
  clear HXMb2
  have HFX : Aside0 (Fr (In W8.heap.size w10.heap.size) w19 w22) := ⟨(Fr.trans (Fr.trans (Fr.mono (T := In W8.heap.size w10.heap.size) HF1.out (fun k hk _ => ⟨by have := hk.1; omega, by have := hk.2; omega⟩)) HF2.out (fun k hk _ => ⟨by have := hk.1; omega, by have := hk.2; omega⟩)) HF3.out (fun k hk _ => ⟨by have := hk.1; omega, by have := hk.2; omega⟩))⟩
  clear HF1 HF2 HF3
  have HA22 := Aside0.mk (Fr.bel HA19.out HFX.out (fun k hk => by have h1 := hk.1; have := HA7.out.size; omega))
  have HC22 := Aside0.mk (Fr.bel HC19.out HFX.out (fun k hk => hk.1))
  have bP22 := Fr.blk HFX.out bP19 (fun hk => by have h1 := hk.1; have := blk_lt bP; have := HA7.out.size; omega)
  have hzG := HSZ12.out.1
  have hzE := HSZ12.out.2
  have HGM := Aside0.mk ((HG12.out.below HI19.out).fr HFX.out (fun k hk => .inl hk.2))
  have bGM := Fr.blk HFX.out (blk_below bG HI19.out) (fun hk => by have h2 := hk.2; omega)
  have HJ22 := Aside0.mk (Below.refl w22.heap.size w22)
  clear HFX
  have g0 := (blk_cell bGM 0).trans rfl
  have g1 := (blk_cell bGM 1).trans rfl
  have t0 := (blk_cell (blk_below bS HC22.out) 0).trans rfl
  have t1 := (blk_cell (blk_below bS HC22.out) 1).trans rfl
  go_upto_region 31 with (first
    | (have hh := HC23.out; clear hh; go_at_call 17; refine (eqOccS_any _ _ _ _ p.c _ (HGM.out.below HJ23.out).isL.2.2 (HSC8.out.below HC23.out)).mono ?_; rintro e w24 ⟨rfl, hb⟩; have HA24 := Aside0.mk (below_then HA23.out HA23.out.size hb); have HC24 := Aside0.mk (below_then HC23.out HC23.out.size hb); have HJ24 := Aside0.mk (below_then HJ23.out HJ23.out.size hb); have bP24 := blk_below bP23 hb; clear hb)
    | (go_at_call 16; refine (eqPair_any _ _ _ _ _ _ _ _ p.a p.b _ (HGM.out.below HJ22.out).isL.1 (HGM.out.below HJ22.out).isL.2.1 (HSA8.out.below HC22.out) (HSB8.out.below HC22.out)).mono ?_; rintro e w23 ⟨rfl, hb⟩; have HA23 := Aside0.mk (below_then HA22.out HA22.out.size hb); have HC23 := Aside0.mk (below_then HC22.out HC22.out.size hb); have HJ23 := Aside0.mk (below_then HJ22.out HJ22.out.size hb); have bP23 := blk_below bP22 hb; clear hb))
  clear g0 g1 t0 t1
  have HGN := Aside0.mk (HGM.out.below HJ24.out)
  have bGN := blk_below bGM HJ24.out
  have g0 := (blk_cell bGN 0).trans rfl
  have g1 := (blk_cell bGN 1).trans rfl
  obtain ⟨m1, hm1⟩ : ∃ m : Int, m = 1 + wtO p.a + wtO p.b := ⟨_, rfl⟩
  obtain ⟨m2, hm2⟩ : ∃ m : Int, m = m1 + wtO p.c := ⟨_, rfl⟩
  have c1 : 1 ≤ m1 ∧ m1 ≤ 2199027449857 := by omega
  have c2 : 1 ≤ m2 ∧ m2 ≤ 8796109799424 := by omega
  have HM1 := Aside0.mk hm1
  have HM2 := Aside0.mk hm2
  clear hm1 hm2
  go_upto_region 32 with (go_at_call 18; refine (row3MarkPair _ _ _ _ _ p 1 _ (by decide) (by omega) HGN.out).mono ?_; rintro e w25 ⟨rfl, hr, hf⟩; rw [← HM1.out]; have HGO := Aside0.mk hr; have HF1 := Aside0.mk hf; clear hr hf)
  clear g0 g1 HGN
  go_upto_region 34 with (go_at_call 19; refine (row3MarkC _ _ _ _ _ _ m1 _ (by omega) (by show m1 + (wtO p.c : Int) ≤ _; omega) HGO.out).mono ?_; rintro e w26 ⟨rfl, hr, hf⟩; rw [show m1 + ((wtO (P3.mk (mkO 1 p.a) (mkO (1 + wtO p.a) p.b) p.c).c : Nat) : Int) = m2 from HM2.out.symm]; have HGP := Aside0.mk hr; have HF2 := Aside0.mk hf; clear hr hf)
  have HFG : Aside0 (Fr (In w10.heap.size w11.heap.size) w24 w26) := ⟨Fr.trans HF1.out HF2.out (fun k hk _ => hk)⟩
  have hs11 : W8.heap.size ≤ w10.heap.size := HC10.out.size
  have HA26 := Aside0.mk (Fr.bel HA24.out HFG.out (fun k hk => by have h1 := hk.1; have := HA7.out.size; omega))
  have HC26 := Aside0.mk (Fr.bel HC24.out HFG.out (fun k hk => by have h1 := hk.1; omega))
  have bP26 := Fr.blk HFG.out bP24 (fun hk => by have h1 := hk.1; have := blk_lt bP; have := HA7.out.size; omega)
  have bGQ := Fr.blk HFG.out bGN (fun hk => by have h2 := hk.2; omega)
  have HJ26 := Aside0.mk (Below.refl w26.heap.size w26)
  clear HFG HF1 HF2 HGO
  have g0 := (blk_cell (blk_below bGQ HJ26.out) 0).trans rfl
  have g1 := (blk_cell (blk_below bGQ HJ26.out) 1).trans rfl
  have dm1 : decide (m1 < 0) = false := decide_eq_false (by omega)
  have dm2 : decide (m2 < 0) = false := decide_eq_false (by omega)
  have dmm : (m2 != m2) = false := by simp
  go_upto_region 37 with (go_at_call 20; refine (heldPair_any G0 G1 gc0 gc1 p.a p.b 1 _ (by decide) (by omega) (HGP.out.below HJ26.out).isL.1 (HGP.out.below HJ26.out).isL.2.1).mono ?_; rintro e w27 ⟨rfl, hb⟩; rw [← HM1.out]; have HA27 := Aside0.mk (below_then HA26.out HA26.out.size hb); have HC27 := Aside0.mk (below_then HC26.out HC26.out.size hb); have HJ27 := Aside0.mk (below_then HJ26.out HJ26.out.size hb); have bP27 := blk_below bP26 hb; clear hb)
  clear g0 g1
  go_upto_region 42 with (go_at_call 21; refine (heldO_any G2 gc2 p.c m1 _ (by omega) (by omega) (HGP.out.below HJ27.out).isL.2.2).mono ?_; rintro e w28 ⟨rfl, hb⟩; rw [← HM2.out]; have HA28 := Aside0.mk (below_then HA27.out HA27.out.size hb); have HC28 := Aside0.mk (below_then HC27.out HC27.out.size hb); have HJ28 := Aside0.mk (below_then HJ27.out HJ27.out.size hb); have bP28 := blk_below bP27 hb; clear hb)
  clear dm1 dm2 dmm
  have q0 := (blk_cell bP28 0).trans rfl
  have q1 := (blk_cell bP28 1).trans rfl
  go_upto_region 43 with (first
    | (have hh := HVb.out; clear hh; go_at_call 23; refine (HIM.out V0 V1 Va Vb Vc0 Vc1 Vca Vcb _ (((HV.out).below HSV30.out).below HSV31.out).isL.1 (((HV.out).below HSV30.out).below HSV31.out).isL.2 ((HVa.out).below HSV31.out).isL (HVb.out).isL).mono ?_; rintro e w32 ⟨v0, v1, v2, rfl, h3, hb⟩; obtain ⟨K0, kc0, hg0⟩ : ∃ A c, v0 = .slice A p.a.length c := Three.slice0 h3; obtain ⟨K1, kc1, hg1⟩ : ∃ A c, v1 = .slice A p.b.length c := Three.slice1 h3; obtain ⟨K2, kc2, hg2⟩ : ∃ A c, v2 = .slice A p.c.length c := Three.slice2 h3; subst hg0 hg1 hg2; have HK := Aside0.mk (Row3.of h3); have HA32 := Aside0.mk (below_then HA31.out HA31.out.size hb); have HC32 := Aside0.mk (below_then HC31.out HC31.out.size hb); have HJ32 := Aside0.mk (below_then HJ31.out HJ31.out.size hb); have bP32 := blk_below bP31 hb; clear h3 hb)
    | (have hh := HVa.out; clear hh; go_at_call 14; refine (toOccS_any D cd b _ nb IB.out (HB.out.below HA30.out)).mono ?_; rintro e w31 ⟨v0, rfl, h0, hb⟩; obtain ⟨Vb, Vcb, rfl⟩ := Kd.S_slice h0; have HVb := Aside0.mk (Row.of h0); have HA31 := Aside0.mk (below_then HA30.out HA30.out.size hb); have HC31 := Aside0.mk (below_then HC30.out HC30.out.size hb); have HJ31 := Aside0.mk (below_then HJ30.out HJ30.out.size hb); have bP31 := blk_below bP30 hb; have HSV31 := Aside0.mk hb; clear hb h0)
    | (have hh := HV.out; clear hh; go_at_call 14; refine (toOccS_any C cc a _ na IA.out (HA.out.below HA29.out)).mono ?_; rintro e w30 ⟨v0, rfl, h0, hb⟩; obtain ⟨Va, Vca, rfl⟩ := Kd.S_slice h0; have HVa := Aside0.mk (Row.of h0); have HA30 := Aside0.mk (below_then HA29.out HA29.out.size hb); have HC30 := Aside0.mk (below_then HC29.out HC29.out.size hb); have HJ30 := Aside0.mk (below_then HJ29.out HJ29.out.size hb); have bP30 := blk_below bP29 hb; have HSV30 := Aside0.mk hb; clear hb h0)
    | (go_at_call 13; refine (toPair_any A B ca cb l r _ nl nr IL.out IR.out (HL.out.below HA28.out) (HR.out.below HA28.out)).mono ?_; rintro e w29 ⟨v0, v1, P, Q, rfl, h0, h1, hap, hb⟩; obtain ⟨V0, Vc0, rfl⟩ := Kd.S_slice h0; obtain ⟨V1, Vc1, rfl⟩ := Kd.S_slice h1; have HV := Aside0.mk (Row2.of h0 h1 hap); have HA29 := Aside0.mk (below_then HA28.out HA28.out.size hb); have HC29 := Aside0.mk (below_then HC28.out HC28.out.size hb); have HJ29 := Aside0.mk (below_then HJ28.out HJ28.out.size hb); have bP29 := blk_below bP28 hb; have HSV29 := Aside0.mk hb; clear hb h0 h1 hap))
  clear q0 q1
  have bK := blk_new w32 (.cells #[.slice K0 p.a.length kc0, .slice K1 p.b.length kc1] 29)
  have hbx := below_alloc (Below.refl w32.heap.size w32) (.cells #[.slice K0 p.a.length kc0, .slice K1 p.b.length kc1] 29)
  have hszx : (w32.alloc (.cells #[.slice K0 p.a.length kc0, .slice K1 p.b.length kc1] 29)).heap.size = w32.heap.size + 1 := by simp
  generalize w32.alloc (.cells #[.slice K0 p.a.length kc0, .slice K1 p.b.length kc1] 29) = W33 at bK hbx hszx ⊢
  have HA32' := HA32
  clear HA32
  have HA32 := Aside0.mk (below_then HA32'.out HA32'.out.size hbx)
  have HC32' := HC32
  clear HC32
  have HC32 := Aside0.mk (below_then HC32'.out HC32'.out.size hbx)
  have HJ32' := HJ32
  clear HJ32
  have HJ32 := Aside0.mk (below_then HJ32'.out HJ32'.out.size hbx)
  have bP32 := blk_below bP32 hbx
  have HK33 := Aside0.mk (HK.out.below hbx)
  have HN32 := Aside0.mk (Below.refl W33.heap.size W33)
  clear hbx hszx HK HA32' HC32' HJ32'
  have g0 := (blk_cell bK 0).trans rfl
  have g1 := (blk_cell bK 1).trans rfl
  have t0 := (blk_cell (blk_below bS HC32.out) 0).trans rfl
  have t1 := (blk_cell (blk_below bS HC32.out) 1).trans rfl
  go_upto_region 46 with (first
    | (have hh := HC33.out; clear hh; go_at_call 17; refine (eqOccS_any _ _ _ _ p.c _ (HK33.out.below HN33.out).isL.2.2 (HSC8.out.below HC33.out)).mono ?_; rintro e w34 ⟨rfl, hb⟩; have HA34 := Aside0.mk (below_then HA33.out HA33.out.size hb); have HC34 := Aside0.mk (below_then HC33.out HC33.out.size hb); have HJ34 := Aside0.mk (below_then HJ33.out HJ33.out.size hb); have HN34 := Aside0.mk (below_then HN33.out HN33.out.size hb); have bP34 := blk_below bP33 hb; clear hb)
    | (go_at_call 16; refine (eqPair_any _ _ _ _ _ _ _ _ p.a p.b _ (HK33.out.below HN32.out).isL.1 (HK33.out.below HN32.out).isL.2.1 (HSA8.out.below HC32.out) (HSB8.out.below HC32.out)).mono ?_; rintro e w33 ⟨rfl, hb⟩; have HA33 := Aside0.mk (below_then HA32.out HA32.out.size hb); have HC33 := Aside0.mk (below_then HC32.out HC32.out.size hb); have HJ33 := Aside0.mk (below_then HJ32.out HJ32.out.size hb); have HN33 := Aside0.mk (below_then HN32.out HN32.out.size hb); have bP33 := blk_below bP32 hb; clear hb))
  clear g0 g1 t0 t1
  have g0 := (blk_cell (blk_below bGQ HJ34.out) 0).trans rfl
  have g1 := (blk_cell (blk_below bGQ HJ34.out) 1).trans rfl
  have dm1 : decide (m1 < 0) = false := decide_eq_false (by omega)
  have dm2 : decide (m2 < 0) = false := decide_eq_false (by omega)
  have dmm : (m2 != m2) = false := by simp
  go_upto_region 49 with (go_at_call 20; refine (heldPair_any G0 G1 gc0 gc1 p.a p.b 1 _ (by decide) (by omega) (HGP.out.below HJ34.out).isL.1 (HGP.out.below HJ34.out).isL.2.1).mono ?_; rintro e w35 ⟨rfl, hb⟩; rw [← HM1.out]; have HA35 := Aside0.mk (below_then HA34.out HA34.out.size hb); have HC35 := Aside0.mk (below_then HC34.out HC34.out.size hb); have HJ35 := Aside0.mk (below_then HJ34.out HJ34.out.size hb); have bP35 := blk_below bP34 hb; clear hb)
  clear g0 g1
  go_wp2_with (go_at_call 21; refine (heldO_any G2 gc2 p.c m1 _ (by omega) (by omega) (HGP.out.below HJ35.out).isL.2.2).mono ?_; rintro e w36 ⟨rfl, hb⟩; rw [← HM2.out]; have HA36 := Aside0.mk (below_then HA35.out HA35.out.size hb); have HC36 := Aside0.mk (below_then HC35.out HC35.out.size hb); have HJ36 := Aside0.mk (below_then HJ35.out HJ35.out.size hb); have bP36 := blk_below bP35 hb; clear hb)
  go_ret
  exact ⟨rfl, below_then HW0.out HW0.out.size HA36.out⟩
end Go.Proofs.Ytccenpmaooailaa.Ei
