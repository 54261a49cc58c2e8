
/- FnExactAndOf: walked through. -/
import Derived.Test.YtccenpmaooailaaMB7
import Derived.Test.YtccenpmaooailaaMB6
import Derived.Test.YtccenpmaooailaaMEl
set_option linter.unusedVariables false
set_option linter.unusedSimpArgs false
namespace Go.Proofs.Ytccenpmaooailaa.En
open Go.RowKit Go.Proofs.YtccenpmaooailaaW.PrintWords Go.Proofs.Ytccenpmaooailaa.Wd Go.Proofs.Ytccenpmaooailaa.Pu Go.Proofs.Ytccenpmaooailaa.Pv Go.Proofs.Ytccenpmaooailaa.Ca Go.Proofs.Ytccenpmaooailaa.Cb Go.Proofs.Ytccenpmaooailaa.Cc Go.Proofs.Ytccenpmaooailaa.Cp Go.Proofs.Ytccenpmaooailaa.Cd Go.Proofs.Ytccenpmaooailaa.Ci Go.Proofs.Ytccenpmaooailaa.Ce Go.Proofs.Ytccenpmaooailaa.Cf Go.Proofs.Ytccenpmaooailaa.Cg Go.Proofs.Ytccenpmaooailaa.Sc Go.Proofs.Ytccenpmaooailaa.Se Go.Proofs.Ytccenpmaooailaa.Sh Go.Proofs.Ytccenpmaooailaa.Si Go.Proofs.Ytccenpmaooailaa.Sp Go.Proofs.Ytccenpmaooailaa.Ia Go.Proofs.Ytccenpmaooailaa.Ib Go.Proofs.Ytccenpmaooailaa.Ic Go.Proofs.Ytccenpmaooailaa.Id Go.Proofs.Ytccenpmaooailaa.Ie Go.Proofs.Ytccenpmaooailaa.If Go.Proofs.Ytccenpmaooailaa.Ig Go.Proofs.Ytccenpmaooailaa.Ih Go.Proofs.Ytccenpmaooailaa.Ij Go.Proofs.Ytccenpmaooailaa.Ik Go.Proofs.Ytccenpmaooailaa.Ra Go.Proofs.Ytccenpmaooailaa.Rb Go.Proofs.Ytccenpmaooailaa.Rc Go.Proofs.Ytccenpmaooailaa.Rd Go.Proofs.Ytccenpmaooailaa.Re Go.Proofs.Ytccenpmaooailaa.Sj Go.Proofs.Ytccenpmaooailaa.Ya Go.Proofs.Ytccenpmaooailaa.Yd Go.Proofs.Ytccenpmaooailaa.Yf Go.Proofs.Ytccenpmaooailaa.Yg Go.Proofs.Ytccenpmaooailaa.Ih Go.Proofs.Ytccenpmaooailaa.Yh Go.Proofs.Ytccenpmaooailaa.Yi Go.Proofs.Ytccenpmaooailaa.Sg Go.Proofs.Ytccenpmaooailaa.Sf Go.Proofs.Ytccenpmaooailaa.Yj Go.Proofs.Ytccenpmaooailaa.Ig Go.Proofs.Ytccenpmaooailaa.Yk Go.Proofs.Ytccenpmaooailaa.Ik Go.Proofs.Ytccenpmaooailaa.Yl Go.Proofs.Ytccenpmaooailaa.Ij Go.Proofs.Ytccenpmaooailaa.Ym Go.Proofs.Ytccenpmaooailaa.Il Go.Proofs.Ytccenpmaooailaa.Yn Go.Proofs.Ytccenpmaooailaa.Yo Go.Proofs.Ytccenpmaooailaa.In Go.Proofs.Ytccenpmaooailaa.Yq Go.Proofs.Ytccenpmaooailaa.Pw Go.Proofs.Ytccenpmaooailaa.Px Go.Proofs.Ytccenpmaooailaa.La Go.Proofs.Ytccenpmaooailaa.Db Go.Proofs.Ytccenpmaooailaa.Sh Go.Proofs.Ytccenpmaooailaa.Id Go.Proofs.Ytccenpmaooailaa.Ea Go.Proofs.Ytccenpmaooailaa.Eb Go.Proofs.Ytccenpmaooailaa.Ec Go.Proofs.Ytccenpmaooailaa.Ed Go.Proofs.Ytccenpmaooailaa.Eg Go.Proofs.Ytccenpmaooailaa.Ee Go.Proofs.Ytccenpmaooailaa.Ef Go.Proofs.Ytccenpmaooailaa.Il Go.Proofs.Ytccenpmaooailaa.Im Go.Proofs.Ytccenpmaooailaa.In Go.Proofs.Ytccenpmaooailaa.Ik Go.Proofs.Ytccenpmaooailaa.Yo Go.Proofs.Ytccenpmaooailaa.Yq Go.Proofs.Ytccenpmaooailaa.El
set_option maxHeartbeats 40000000 in
set_option maxRecDepth 100000 in
theorem walk (mode : Int) (C D : Option Addr) (cc cd : Nat) (a b : List Occ) (w : World) (hA : IsL w a C cc) (hB : IsL w b D cd) :
    Calls Try.prog 6 #[.int .i64 mode, .slice C a.length cc, .slice D b.length cd] w fun e w' => e = .returned (.bool true) ∧ Below w.heap.size w w' := by
  obtain ⟨p, hp⟩ : ∃ p, p = ofI and3 mode a b := ⟨_, rfl⟩
  have hw0 : wtO p.1 ≤ 1099513724928 := by rw [hp]; exact wt_andOf mode a b
  have HSP := Aside0.mk (fun (C D : Option Addr) (cc cd : Nat) (w : World) (hA : IsL w a C cc) (hB : IsL w b D cd) => (by rw [hp]; exact sAndOf_any mode C D cc cd a b w hA hB : Calls Try.prog 26 #[.int .i64 mode, .slice C a.length cc, .slice D b.length cd] w fun e w' => SToldOut w w' p e))
  have HIM := Aside0.mk (fun (C D : Option Addr) (cc cd : Nat) (w : World) (hA : IsL w a C cc) (hB : IsL w b D cd) => (by rw [hp]; exact aOf_any mode C D cc cd a b w hA hB : Calls Try.prog 27 #[.int .i64 mode, .slice C a.length cc, .slice D b.length cd] w fun e w' => ToldOut w w' p e))
  clear hp
  obtain ⟨pl, pr⟩ := p
  have hpr : (pr != pr) = false := by simp
  have hw0' : wtO pl ≤ 1099513724928 := hw0
  clear hw0
  obtain ⟨W, rfl⟩ : ∃ W, W = w := ⟨_, rfl⟩
  have HA := Aside0.mk hA
  have HB := Aside0.mk hB
  have HA0 := Aside0.mk (Below.refl W.heap.size W)
  clear hA hB
  go_enter Try.func6, Try.ntmps6
  go_upto_region 2 with fail
  go_upto_region 3 with (go_at_call 11; refine (szOccS_any C cc a 1048576 (by decide) (by decide) _ (HA.out.below HA0.out)).mono ?_; rintro e w1 ⟨q1, rfl, hb, hq0, hq1, hq2⟩; have HQ1 := Aside0.mk hq2; have s1 := And.intro hq0 hq1; have HA1 := Aside0.mk (below_then HA0.out HA0.out.size hb); clear hb hq0 hq1 hq2)
  by_cases hq1 : q1 < 0
  · have d : decide (q1 < 0) = true := decide_eq_true hq1
    clear hq1
    go_wp2
    go_ret
    exact ⟨rfl, HA1.out⟩
  have d1 : decide (q1 < 0) = false := decide_eq_false hq1
  have hz1 := HQ1.out (by omega)
  have na : a.length ≤ 1048576 := by have := hz1.1; omega
  have IA := Aside0.mk (show ∀ x ∈ a, x.f2.length ≤ 1048576 from fun x hx => by have := hz1.2 x hx; omega)
  clear hz1 HQ1
  go_upto_region 6 with (go_at_call 11; refine (szOccS_any D cd b q1 (by omega) (by omega) _ (HB.out.below HA1.out)).mono ?_; rintro e w2 ⟨q2, rfl, hb, hq0, hq1, hq2⟩; have HQ2 := Aside0.mk hq2; have s2 := And.intro hq0 hq1; have HA2 := Aside0.mk (below_then HA1.out HA1.out.size hb); clear hb hq0 hq1 hq2)
  by_cases hq2 : q2 < 0
  · have d : decide (q2 < 0) = true := decide_eq_true hq2
    clear hq2
    go_wp2
    go_ret
    exact ⟨rfl, HA2.out⟩
  have d2 : decide (q2 < 0) = false := decide_eq_false hq2
  have hz2 := HQ2.out (by omega)
  have nb : b.length ≤ 1048576 := by have := hz2.1; omega
  have IB := Aside0.mk (show ∀ x ∈ b, x.f2.length ≤ 1048576 from fun x hx => by have := hz2.2 x hx; omega)
  clear hz2 HQ2
  clear d1 hq1 s1 hq2 s2
  go_upto_region 9 with (first
    | (have hh := HYb.out; clear hh; go_at_call 26; refine (HSP.out Ya Yb Yca Ycb _ ((HYa.out).below HSY4.out).isL (HYb.out).isL).mono ?_; rintro e w5 ⟨v, rfl, h0, hb⟩; obtain ⟨S2, sc2, rfl⟩ := Kd.R_slice h0; have HSC := Aside0.mk (Ra.Rw.isL h0).2; have HA5 := Aside0.mk (below_then HA4.out HA4.out.size hb); clear h0 hb)
    | (have hh := HYa.out; clear hh; go_at_call 14; refine (toOccS_any D cd b _ nb IB.out (HB.out.below HA3.out)).mono ?_; rintro e w4 ⟨v0, rfl, h0, hb⟩; obtain ⟨Yb, Ycb, rfl⟩ := Kd.S_slice h0; have HYb := Aside0.mk (Row.of h0); have HA4 := Aside0.mk (below_then HA3.out HA3.out.size hb); have HSY4 := Aside0.mk hb; clear hb h0)
    | (go_at_call 14; refine (toOccS_any C cc a _ na IA.out (HA.out.below HA2.out)).mono ?_; rintro e w3 ⟨v0, rfl, h0, hb⟩; obtain ⟨Ya, Yca, rfl⟩ := Kd.S_slice h0; have HYa := Aside0.mk (Row.of h0); have HA3 := Aside0.mk (below_then HA2.out HA2.out.size hb); have HSY3 := Aside0.mk hb; clear hb h0))
  clear d2
  have HC5 := Aside0.mk (Below.refl w5.heap.size w5)
  clear HYa HYb
  go_upto_region 10 with (go_at_call 14; refine (toOccS_any C cc a _ na IA.out (HA.out.below HA5.out)).mono ?_; rintro e w6 ⟨v0, rfl, h0, hb⟩; obtain ⟨Xa, Xca, rfl⟩ := Kd.S_slice h0; have HXa := Aside0.mk (Row.of h0); have HA6 := Aside0.mk (below_then HA5.out HA5.out.size hb); have HC6 := Aside0.mk (below_then HC5.out HC5.out.size hb); clear hb h0)
  have HGa6 := Aside0.mk (Below.refl w6.heap.size w6)
  go_upto_region 11 with (go_at_call 14; refine (toOccS_any D cd b _ nb IB.out (HB.out.below HA6.out)).mono ?_; rintro e w7 ⟨v0, rfl, h0, hb⟩; obtain ⟨Xb, Xcb, rfl⟩ := Kd.S_slice h0; have HXb := Aside0.mk (Row.of h0); have HA7 := Aside0.mk (below_then HA6.out HA6.out.size hb); have HC7 := Aside0.mk (below_then HC6.out HC6.out.size hb); have HGa7 := Aside0.mk (below_then HGa6.out HGa6.out.size hb); clear hb h0)
  have HGb7 := Aside0.mk (Below.refl w7.heap.size w7)
  have HXa11 := Aside0.mk (HXa.out.below HGa7.out)
  have HXb11 := Aside0.mk (HXb.out.below HGb7.out)
  have HE7 := Aside0.mk (Below.refl w7.heap.size w7)
  go_upto_region 12 with (go_at_call 27; refine (HIM.out Xa Xb Xca Xcb _ HXa11.out.isL HXb11.out.isL).mono ?_; rintro e w8 ⟨v2, rfl, h3, hb⟩; obtain ⟨G2, gc2, rfl⟩ := Kd.S_slice h3; have HG := Aside0.mk (Row.of h3); have HA8 := Aside0.mk (below_then HA7.out HA7.out.size hb); have HC8 := Aside0.mk (below_then HC7.out HC7.out.size hb); have HE8 := Aside0.mk (below_then HE7.out HE7.out.size hb); clear h3 hb)
  have HI8 := Aside0.mk (Below.refl w8.heap.size w8)
  go_upto_region 14 with (go_at_call 17; refine (eqOccS_any _ _ _ _ pl _ (HG.out.below HI8.out).isL (HSC.out.below HC8.out)).mono ?_; rintro e w9 ⟨rfl, hb⟩; have HA9 := Aside0.mk (below_then HA8.out HA8.out.size hb); have HC9 := Aside0.mk (below_then HC8.out HC8.out.size hb); have HE9 := Aside0.mk (below_then HE8.out HE8.out.size hb); have HI9 := Aside0.mk (below_then HI8.out HI8.out.size hb); clear hb)
  go_upto_region 16 with (first
    | (have hh := HZa.out; clear hh; go_at_call 17; refine (eqOccS_any Xa Za Xca Zca a _ (HXa11.out.below HE10.out).isL HZa.out.isL).mono ?_; rintro e w11 ⟨rfl, hb⟩; have HA11 := Aside0.mk (below_then HA10.out HA10.out.size hb); have HC11 := Aside0.mk (below_then HC10.out HC10.out.size hb); have HE11 := Aside0.mk (below_then HE10.out HE10.out.size hb); have HI11 := Aside0.mk (below_then HI10.out HI10.out.size hb); clear hb)
    | (go_at_call 14; refine (toOccS_any C cc a _ na IA.out (HA.out.below HA9.out)).mono ?_; rintro e w10 ⟨v0, rfl, h0, hb⟩; obtain ⟨Za, Zca, rfl⟩ := Kd.S_slice h0; have HZa := Aside0.mk (Row.of h0); have HA10 := Aside0.mk (below_then HA9.out HA9.out.size hb); have HC10 := Aside0.mk (below_then HC9.out HC9.out.size hb); have HE10 := Aside0.mk (below_then HE9.out HE9.out.size hb); have HI10 := Aside0.mk (below_then HI9.out HI9.out.size hb); clear hb h0))
  clear HZa
  go_upto_region 19 with (first
    | (have hh := HZb.out; clear hh; go_at_call 17; refine (eqOccS_any Xb Zb Xcb Zcb b _ (HXb11.out.below HE12.out).isL HZb.out.isL).mono ?_; rintro e w13 ⟨rfl, hb⟩; have HA13 := Aside0.mk (below_then HA12.out HA12.out.size hb); have HC13 := Aside0.mk (below_then HC12.out HC12.out.size hb); have HE13 := Aside0.mk (below_then HE12.out HE12.out.size hb); have HI13 := Aside0.mk (below_then HI12.out HI12.out.size hb); clear hb)
    | (go_at_call 14; refine (toOccS_any D cd b _ nb IB.out (HB.out.below HA11.out)).mono ?_; rintro e w12 ⟨v0, rfl, h0, hb⟩; obtain ⟨Zb, Zcb, rfl⟩ := Kd.S_slice h0; have HZb := Aside0.mk (Row.of h0); have HA12 := Aside0.mk (below_then HA11.out HA11.out.size hb); have HC12 := Aside0.mk (below_then HC11.out HC11.out.size hb); have HE12 := Aside0.mk (below_then HE11.out HE11.out.size hb); have HI12 := Aside0.mk (below_then HI11.out HI11.out.size hb); clear hb h0))
  clear HZb
  have HXMa0 := Aside0.mk (HXa11.out.below HE13.out)
  have HXMb0 := Aside0.mk (HXb11.out.below HE13.out)
  have hz8 := HC6.out.size
  have hza := HC6.out.size
  have hzb := HC7.out.size
  have hzza := HGa7.out.size
  have hwa := wt_big a na IA.out
  have hwb := wt_big b nb IB.out
  obtain ⟨k0, hk0⟩ : ∃ k : Int, k = 1 := ⟨_, rfl⟩
  obtain ⟨k1, hk1⟩ : ∃ k : Int, k = 1 + wtO a := ⟨_, rfl⟩
  have b1 : 1 ≤ k1 ∧ k1 ≤ 1099513724929 := by omega
  have HK1 := Aside0.mk hk1
  clear hk1
  go_upto_region 20 with (go_at_call 19; refine (rowMark _ _ _ a 1 _ (by decide) (by omega) HXMa0.out).mono ?_; rintro e w14 ⟨rfl, -, hf⟩; rw [← HK1.out]; have HF1 := Aside0.mk hf; have HXMb1 := Aside0.mk (HXMb0.out.fr hf (fun k hk => by have h1 := hk.1; have h2 := hk.2; omega)); clear hf)
  clear HXMa0 HXMb0
  obtain ⟨k2, hk2⟩ : ∃ k : Int, k = k1 + wtO b := ⟨_, rfl⟩
  have b2 : 1 ≤ k2 ∧ k2 ≤ 2199027449857 := by omega
  have HK2 := Aside0.mk hk2
  clear hk2
  have dk : decide (k2 < 0) = false := decide_eq_false (by omega)
  go_upto_region 21 with (go_at_call 19; refine (rowMark _ _ _ b k1 _ (by omega) (by omega) HXMb1.out).mono ?_; rintro e w15 ⟨rfl, -, hf⟩; rw [← HK2.out]; have HF2 := Aside0.mk hf; clear hf)
  clear HXMb1
  have HFX : Aside0 (Fr (In w5.heap.size w7.heap.size) w13 w15) := ⟨(Fr.trans (Fr.mono (T := In w5.heap.size w7.heap.size) HF1.out (fun k hk _ => ⟨by have := hk.1; omega, by have := hk.2; omega⟩)) HF2.out (fun k hk _ => ⟨by have := hk.1; omega, by have := hk.2; omega⟩))⟩
  clear HF1 HF2
  have hzE := HE8.out.size
  have HA15 := Aside0.mk (Fr.bel HA13.out HFX.out (fun k hk => by have h1 := hk.1; have := HA5.out.size; omega))
  have HC15 := Aside0.mk (Fr.bel HC13.out HFX.out (fun k hk => hk.1))
  have HGM := Aside0.mk ((HG.out.below HI13.out).fr HFX.out (fun k hk => .inl hk.2))
  have HJ15 := Aside0.mk (Below.refl w15.heap.size w15)
  clear HFX
  go_upto_region 24 with (go_at_call 17; refine (eqOccS_any _ _ _ _ pl _ (HGM.out.below HJ15.out).isL (HSC.out.below HC15.out)).mono ?_; rintro e w16 ⟨rfl, hb⟩; have HA16 := Aside0.mk (below_then HA15.out HA15.out.size hb); have HC16 := Aside0.mk (below_then HC15.out HC15.out.size hb); have HJ16 := Aside0.mk (below_then HJ15.out HJ15.out.size hb); clear hb)
  have HGN := Aside0.mk (HGM.out.below HJ16.out)
  obtain ⟨m2, hm2⟩ : ∃ m : Int, m = 1 + wtO pl := ⟨_, rfl⟩
  have c2 : 1 ≤ m2 ∧ m2 ≤ 8796109799424 := by omega
  have HM2 := Aside0.mk hm2
  clear hm2
  go_upto_region 26 with (go_at_call 19; refine (rowMark _ _ _ pl 1 _ (by decide) (by omega) HGN.out).mono ?_; rintro e w17 ⟨rfl, hr, hf⟩; rw [← HM2.out]; have HGP := Aside0.mk hr; have HFG := Aside0.mk hf; clear hr hf)
  have hs11 : w5.heap.size ≤ w7.heap.size := HC7.out.size
  have HA17 := Aside0.mk (Fr.bel HA16.out HFG.out (fun k hk => by have h1 := hk.1; have := HA5.out.size; omega))
  have HC17 := Aside0.mk (Fr.bel HC16.out HFG.out (fun k hk => by have h1 := hk.1; omega))
  have HJ17 := Aside0.mk (Below.refl w17.heap.size w17)
  clear HFG HGN
  have dm2 : decide (m2 < 0) = false := decide_eq_false (by omega)
  have dmm : (m2 != m2) = false := by simp
  go_upto_region 31 with (go_at_call 21; refine (heldO_any G2 gc2 pl 1 _ (by decide) (by omega) (HGP.out.below HJ17.out).isL).mono ?_; rintro e w18 ⟨rfl, hb⟩; rw [← HM2.out]; have HA18 := Aside0.mk (below_then HA17.out HA17.out.size hb); have HC18 := Aside0.mk (below_then HC17.out HC17.out.size hb); have HJ18 := Aside0.mk (below_then HJ17.out HJ17.out.size hb); clear hb)
  go_upto_region 32 with (first
    | (have hh := HVb.out; clear hh; go_at_call 27; refine (HIM.out Va Vb Vca Vcb _ ((HVa.out).below HSV20.out).isL (HVb.out).isL).mono ?_; rintro e w21 ⟨v2, rfl, h3, hb⟩; obtain ⟨K2, kc2, rfl⟩ := Kd.S_slice h3; have HK := Aside0.mk (Row.of h3); have HA21 := Aside0.mk (below_then HA20.out HA20.out.size hb); have HC21 := Aside0.mk (below_then HC20.out HC20.out.size hb); have HJ21 := Aside0.mk (below_then HJ20.out HJ20.out.size hb); clear h3 hb)
    | (have hh := HVa.out; clear hh; go_at_call 14; refine (toOccS_any D cd b _ nb IB.out (HB.out.below HA19.out)).mono ?_; rintro e w20 ⟨v0, rfl, h0, hb⟩; obtain ⟨Vb, Vcb, rfl⟩ := Kd.S_slice h0; have HVb := Aside0.mk (Row.of h0); have HA20 := Aside0.mk (below_then HA19.out HA19.out.size hb); have HC20 := Aside0.mk (below_then HC19.out HC19.out.size hb); have HJ20 := Aside0.mk (below_then HJ19.out HJ19.out.size hb); have HSV20 := Aside0.mk hb; clear hb h0)
    | (go_at_call 14; refine (toOccS_any C cc a _ na IA.out (HA.out.below HA18.out)).mono ?_; rintro e w19 ⟨v0, rfl, h0, hb⟩; obtain ⟨Va, Vca, rfl⟩ := Kd.S_slice h0; have HVa := Aside0.mk (Row.of h0); have HA19 := Aside0.mk (below_then HA18.out HA18.out.size hb); have HC19 := Aside0.mk (below_then HC18.out HC18.out.size hb); have HJ19 := Aside0.mk (below_then HJ18.out HJ18.out.size hb); have HSV19 := Aside0.mk hb; clear hb h0))
  go_upto_region 35 with (go_at_call 17; refine (eqOccS_any _ _ _ _ pl _ HK.out.isL (HSC.out.below HC21.out)).mono ?_; rintro e w22 ⟨rfl, hb⟩; have HA22 := Aside0.mk (below_then HA21.out HA21.out.size hb); have HC22 := Aside0.mk (below_then HC21.out HC21.out.size hb); have HJ22 := Aside0.mk (below_then HJ21.out HJ21.out.size hb); clear hb)
  go_wp2_with (go_at_call 21; refine (heldO_any G2 gc2 pl 1 _ (by decide) (by omega) (HGP.out.below HJ22.out).isL).mono ?_; rintro e w23 ⟨rfl, hb⟩; rw [← HM2.out]; have HA23 := Aside0.mk (below_then HA22.out HA22.out.size hb); have HC23 := Aside0.mk (below_then HC22.out HC22.out.size hb); have HJ23 := Aside0.mk (below_then HJ22.out HJ22.out.size hb); clear hb)
  go_ret
  exact ⟨rfl, HA23.out⟩
end Go.Proofs.Ytccenpmaooailaa.En
