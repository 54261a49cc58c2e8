
/- FnExactNotOf: walked through. -/
import Derived.Test.YtccenpmaooailaaGreatNB7
import Derived.Test.YtccenpmaooailaaGreatNB6
import Derived.Test.YtccenpmaooailaaGreatNEo
set_option linter.unusedVariables false
set_option linter.unusedSimpArgs false
namespace Go.Proofs.YtccenpmaooailaaGreat.Ep
open Go.RowKit Go.Proofs.YtccenpmaooailaaGreatW.PrintWords Go.Proofs.YtccenpmaooailaaGreat.Wd Go.Proofs.YtccenpmaooailaaGreat.Pu Go.Proofs.YtccenpmaooailaaGreat.Pv Go.Proofs.YtccenpmaooailaaGreat.Ca Go.Proofs.YtccenpmaooailaaGreat.Cb Go.Proofs.YtccenpmaooailaaGreat.Cc Go.Proofs.YtccenpmaooailaaGreat.Cp Go.Proofs.YtccenpmaooailaaGreat.Cd Go.Proofs.YtccenpmaooailaaGreat.Ci Go.Proofs.YtccenpmaooailaaGreat.Ce Go.Proofs.YtccenpmaooailaaGreat.Cf Go.Proofs.YtccenpmaooailaaGreat.Cg Go.Proofs.YtccenpmaooailaaGreat.Sc Go.Proofs.YtccenpmaooailaaGreat.Se Go.Proofs.YtccenpmaooailaaGreat.Sh Go.Proofs.YtccenpmaooailaaGreat.Si Go.Proofs.YtccenpmaooailaaGreat.Sp Go.Proofs.YtccenpmaooailaaGreat.Ia Go.Proofs.YtccenpmaooailaaGreat.Ib Go.Proofs.YtccenpmaooailaaGreat.Ic Go.Proofs.YtccenpmaooailaaGreat.Id Go.Proofs.YtccenpmaooailaaGreat.Ie Go.Proofs.YtccenpmaooailaaGreat.If Go.Proofs.YtccenpmaooailaaGreat.Ig Go.Proofs.YtccenpmaooailaaGreat.Ih Go.Proofs.YtccenpmaooailaaGreat.Ij Go.Proofs.YtccenpmaooailaaGreat.Ik Go.Proofs.YtccenpmaooailaaGreat.Ra Go.Proofs.YtccenpmaooailaaGreat.Rb Go.Proofs.YtccenpmaooailaaGreat.Rc Go.Proofs.YtccenpmaooailaaGreat.Rd Go.Proofs.YtccenpmaooailaaGreat.Re Go.Proofs.YtccenpmaooailaaGreat.Sj Go.Proofs.YtccenpmaooailaaGreat.Ya Go.Proofs.YtccenpmaooailaaGreat.Yd Go.Proofs.YtccenpmaooailaaGreat.Yf Go.Proofs.YtccenpmaooailaaGreat.Yg Go.Proofs.YtccenpmaooailaaGreat.Ih Go.Proofs.YtccenpmaooailaaGreat.Yh Go.Proofs.YtccenpmaooailaaGreat.Yi Go.Proofs.YtccenpmaooailaaGreat.Sg Go.Proofs.YtccenpmaooailaaGreat.Sf Go.Proofs.YtccenpmaooailaaGreat.Yj Go.Proofs.YtccenpmaooailaaGreat.Ig Go.Proofs.YtccenpmaooailaaGreat.Yk Go.Proofs.YtccenpmaooailaaGreat.Ik Go.Proofs.YtccenpmaooailaaGreat.Yl Go.Proofs.YtccenpmaooailaaGreat.Ij Go.Proofs.YtccenpmaooailaaGreat.Ym Go.Proofs.YtccenpmaooailaaGreat.Il Go.Proofs.YtccenpmaooailaaGreat.Yn Go.Proofs.YtccenpmaooailaaGreat.Yo Go.Proofs.YtccenpmaooailaaGreat.In Go.Proofs.YtccenpmaooailaaGreat.Yq Go.Proofs.YtccenpmaooailaaGreat.Pw Go.Proofs.YtccenpmaooailaaGreat.Px Go.Proofs.YtccenpmaooailaaGreat.La Go.Proofs.YtccenpmaooailaaGreat.Db Go.Proofs.YtccenpmaooailaaGreat.Sh Go.Proofs.YtccenpmaooailaaGreat.Id Go.Proofs.YtccenpmaooailaaGreat.Ea Go.Proofs.YtccenpmaooailaaGreat.Eb Go.Proofs.YtccenpmaooailaaGreat.Ec Go.Proofs.YtccenpmaooailaaGreat.Ed Go.Proofs.YtccenpmaooailaaGreat.Eg Go.Proofs.YtccenpmaooailaaGreat.Ee Go.Proofs.YtccenpmaooailaaGreat.Ef Go.Proofs.YtccenpmaooailaaGreat.Ik Go.Proofs.YtccenpmaooailaaGreat.Tb Go.Proofs.YtccenpmaooailaaGreat.Td Go.Proofs.YtccenpmaooailaaGreat.Te Go.Proofs.YtccenpmaooailaaGreat.Ga Go.Proofs.YtccenpmaooailaaGreat.Gb Go.Proofs.YtccenpmaooailaaGreat.Gc Go.Proofs.YtccenpmaooailaaGreat.Yq Go.Proofs.YtccenpmaooailaaGreat.Eo
set_option maxHeartbeats 40000000 in
set_option maxRecDepth 100000 in
theorem walk (mode : Int) (C D E : Option Addr) (cc cd ce : Nat) (a b c : List Occ) (w : World) (hA : IsL w a C cc) (hB : IsL w b D cd) (hC : IsL w c E ce) :
    Calls Tryz.prog 8 #[.int .i64 mode, .slice C a.length cc, .slice D b.length cd, .slice E c.length ce] w fun e w' => e = .returned (.bool true) ∧ Below w.heap.size w w' := by
  obtain ⟨p, hp⟩ : ∃ p, p = ofN not3 mode a b c := ⟨_, rfl⟩
  have hw0 : wtO p.1 ≤ 1099513724928 := by rw [hp]; exact wt_notOf mode a b c
  have HSP := Aside0.mk (fun (C D E : Option Addr) (cc cd ce : Nat) (w : World) (hA : IsL w a C cc) (hB : IsL w b D cd) (hC : IsL w c E ce) => (by rw [hp]; exact sNotOf_any mode C D E cc cd ce a b c w hA hB hC : Calls Tryz.prog 29 #[.int .i64 mode, .slice C a.length cc, .slice D b.length cd, .slice E c.length ce] w fun e w' => SToldOut w w' p e))
  have HIM := Aside0.mk (fun (C D E : Option Addr) (cc cd ce : Nat) (w : World) (hA : IsL w a C cc) (hB : IsL w b D cd) (hC : IsL w c E ce) => (by rw [hp]; exact nOf_any mode C D E cc cd ce a b c w hA hB hC : Calls Tryz.prog 28 #[.int .i64 mode, .slice C a.length cc, .slice D b.length cd, .slice E c.length ce] w fun e w' => ToldOut w w' p e))
  clear hp
  obtain ⟨pl, pr⟩ := p
  have hpr : (pr != pr) = false := by simp
  have hw0' : wtO pl ≤ 1099513724928 := hw0
  clear hw0
  obtain ⟨W, rfl⟩ : ∃ W, W = w := ⟨_, rfl⟩
  have HA := Aside0.mk hA
  have HB := Aside0.mk hB
  have HC := Aside0.mk hC
  have HA0 := Aside0.mk (Below.refl W.heap.size W)
  clear hA hB hC
  go_enter Tryz.func8, Tryz.ntmps8
  go_upto_region 2 with fail
  go_upto_region 3 with (go_at_call 33; refine (szOccS_any C cc a 1048576 (by decide) (by decide) _ (HA.out.below HA0.out)).mono ?_; rintro e w1 ⟨q1, rfl, hb, hq0, hq1, hq2⟩; have HQ1 := Aside0.mk hq2; have s1 := And.intro hq0 hq1; have HA1 := Aside0.mk (below_then HA0.out HA0.out.size hb); clear hb hq0 hq1 hq2)
  by_cases hq1 : q1 < 0
  · have d : decide (q1 < 0) = true := decide_eq_true hq1
    clear hq1
    go_wp2
    go_ret
    exact ⟨rfl, HA1.out⟩
  have d1 : decide (q1 < 0) = false := decide_eq_false hq1
  have hz1 := HQ1.out (by omega)
  have na : a.length ≤ 1048576 := by have := hz1.1; omega
  have IA := Aside0.mk (show ∀ x ∈ a, x.f2.length ≤ 1048576 from fun x hx => by have := hz1.2 x hx; omega)
  clear hz1 HQ1
  go_upto_region 6 with (go_at_call 33; refine (szOccS_any D cd b q1 (by omega) (by omega) _ (HB.out.below HA1.out)).mono ?_; rintro e w2 ⟨q2, rfl, hb, hq0, hq1, hq2⟩; have HQ2 := Aside0.mk hq2; have s2 := And.intro hq0 hq1; have HA2 := Aside0.mk (below_then HA1.out HA1.out.size hb); clear hb hq0 hq1 hq2)
  by_cases hq2 : q2 < 0
  · have d : decide (q2 < 0) = true := decide_eq_true hq2
    clear hq2
    go_wp2
    go_ret
    exact ⟨rfl, HA2.out⟩
  have d2 : decide (q2 < 0) = false := decide_eq_false hq2
  have hz2 := HQ2.out (by omega)
  have nb : b.length ≤ 1048576 := by have := hz2.1; omega
  have IB := Aside0.mk (show ∀ x ∈ b, x.f2.length ≤ 1048576 from fun x hx => by have := hz2.2 x hx; omega)
  clear hz2 HQ2
  go_upto_region 9 with (go_at_call 33; refine (szOccS_any E ce c q2 (by omega) (by omega) _ (HC.out.below HA2.out)).mono ?_; rintro e w3 ⟨q3, rfl, hb, hq0, hq1, hq2⟩; have HQ3 := Aside0.mk hq2; have s3 := And.intro hq0 hq1; have HA3 := Aside0.mk (below_then HA2.out HA2.out.size hb); clear hb hq0 hq1 hq2)
  by_cases hq3 : q3 < 0
  · have d : decide (q3 < 0) = true := decide_eq_true hq3
    clear hq3
    go_wp2
    go_ret
    exact ⟨rfl, HA3.out⟩
  have d3 : decide (q3 < 0) = false := decide_eq_false hq3
  have hz3 := HQ3.out (by omega)
  have nc : c.length ≤ 1048576 := by have := hz3.1; omega
  have IC := Aside0.mk (show ∀ x ∈ c, x.f2.length ≤ 1048576 from fun x hx => by have := hz3.2 x hx; omega)
  clear hz3 HQ3
  clear d1 hq1 s1 d2 hq2 s2 hq3 s3
  go_upto_region 12 with (first
    | (have hh := HYc.out; clear hh; go_at_call 29; refine (HSP.out Ya Yb Yc Yca Ycb Ycc _ (((HYa.out).below HSY5.out).below HSY6.out).isL ((HYb.out).below HSY6.out).isL (HYc.out).isL).mono ?_; rintro e w7 ⟨v, rfl, h0, hb⟩; obtain ⟨S2, sc2, rfl⟩ := Kd.R_slice h0; have HSC := Aside0.mk (Ra.Rw.isL h0).2; have HA7 := Aside0.mk (below_then HA6.out HA6.out.size hb); clear h0 hb)
    | (have hh := HYb.out; clear hh; go_at_call 34; refine (toOccS_any E ce c _ nc IC.out (HC.out.below HA5.out)).mono ?_; rintro e w6 ⟨v0, rfl, h0, hb⟩; obtain ⟨Yc, Ycc, rfl⟩ := Kd.S_slice h0; have HYc := Aside0.mk (Row.of h0); have HA6 := Aside0.mk (below_then HA5.out HA5.out.size hb); have HSY6 := Aside0.mk hb; clear hb h0)
    | (have hh := HYa.out; clear hh; go_at_call 34; refine (toOccS_any D cd b _ nb IB.out (HB.out.below HA4.out)).mono ?_; rintro e w5 ⟨v0, rfl, h0, hb⟩; obtain ⟨Yb, Ycb, rfl⟩ := Kd.S_slice h0; have HYb := Aside0.mk (Row.of h0); have HA5 := Aside0.mk (below_then HA4.out HA4.out.size hb); have HSY5 := Aside0.mk hb; clear hb h0)
    | (go_at_call 34; refine (toOccS_any C cc a _ na IA.out (HA.out.below HA3.out)).mono ?_; rintro e w4 ⟨v0, rfl, h0, hb⟩; obtain ⟨Ya, Yca, rfl⟩ := Kd.S_slice h0; have HYa := Aside0.mk (Row.of h0); have HA4 := Aside0.mk (below_then HA3.out HA3.out.size hb); have HSY4 := Aside0.mk hb; clear hb h0))
  clear d3
  have HC7 := Aside0.mk (Below.refl w7.heap.size w7)
  clear HYa HYb HYc
  go_upto_region 13 with (go_at_call 34; refine (toOccS_any C cc a _ na IA.out (HA.out.below HA7.out)).mono ?_; rintro e w8 ⟨v0, rfl, h0, hb⟩; obtain ⟨Xa, Xca, rfl⟩ := Kd.S_slice h0; have HXa := Aside0.mk (Row.of h0); have HA8 := Aside0.mk (below_then HA7.out HA7.out.size hb); have HC8 := Aside0.mk (below_then HC7.out HC7.out.size hb); clear hb h0)
  have HGa8 := Aside0.mk (Below.refl w8.heap.size w8)
  go_upto_region 14 with (go_at_call 34; refine (toOccS_any D cd b _ nb IB.out (HB.out.below HA8.out)).mono ?_; rintro e w9 ⟨v0, rfl, h0, hb⟩; obtain ⟨Xb, Xcb, rfl⟩ := Kd.S_slice h0; have HXb := Aside0.mk (Row.of h0); have HA9 := Aside0.mk (below_then HA8.out HA8.out.size hb); have HC9 := Aside0.mk (below_then HC8.out HC8.out.size hb); have HGa9 := Aside0.mk (below_then HGa8.out HGa8.out.size hb); clear hb h0)
  have HGb9 := Aside0.mk (Below.refl w9.heap.size w9)
  go_upto_region 15 with (go_at_call 34; refine (toOccS_any E ce c _ nc IC.out (HC.out.below HA9.out)).mono ?_; rintro e w10 ⟨v0, rfl, h0, hb⟩; obtain ⟨Xc, Xcc, rfl⟩ := Kd.S_slice h0; have HXc := Aside0.mk (Row.of h0); have HA10 := Aside0.mk (below_then HA9.out HA9.out.size hb); have HC10 := Aside0.mk (below_then HC9.out HC9.out.size hb); have HGa10 := Aside0.mk (below_then HGa9.out HGa9.out.size hb); have HGb10 := Aside0.mk (below_then HGb9.out HGb9.out.size hb); clear hb h0)
  have HGc10 := Aside0.mk (Below.refl w10.heap.size w10)
  have HXa11 := Aside0.mk (HXa.out.below HGa10.out)
  have HXb11 := Aside0.mk (HXb.out.below HGb10.out)
  have HXc11 := Aside0.mk (HXc.out.below HGc10.out)
  have HE10 := Aside0.mk (Below.refl w10.heap.size w10)
  go_upto_region 16 with (go_at_call 28; refine (HIM.out Xa Xb Xc Xca Xcb Xcc _ HXa11.out.isL HXb11.out.isL HXc11.out.isL).mono ?_; rintro e w11 ⟨v2, rfl, h3, hb⟩; obtain ⟨G2, gc2, rfl⟩ := Kd.S_slice h3; have HG := Aside0.mk (Row.of h3); have HA11 := Aside0.mk (below_then HA10.out HA10.out.size hb); have HC11 := Aside0.mk (below_then HC10.out HC10.out.size hb); have HE11 := Aside0.mk (below_then HE10.out HE10.out.size hb); clear h3 hb)
  have HI11 := Aside0.mk (Below.refl w11.heap.size w11)
  go_upto_region 18 with (go_at_call 35; refine (eqOccS_any _ _ _ _ pl _ (HG.out.below HI11.out).isL (HSC.out.below HC11.out)).mono ?_; rintro e w12 ⟨rfl, hb⟩; have HA12 := Aside0.mk (below_then HA11.out HA11.out.size hb); have HC12 := Aside0.mk (below_then HC11.out HC11.out.size hb); have HE12 := Aside0.mk (below_then HE11.out HE11.out.size hb); have HI12 := Aside0.mk (below_then HI11.out HI11.out.size hb); clear hb)
  go_upto_region 20 with (first
    | (have hh := HZa.out; clear hh; go_at_call 35; refine (eqOccS_any Xa Za Xca Zca a _ (HXa11.out.below HE13.out).isL HZa.out.isL).mono ?_; rintro e w14 ⟨rfl, hb⟩; have HA14 := Aside0.mk (below_then HA13.out HA13.out.size hb); have HC14 := Aside0.mk (below_then HC13.out HC13.out.size hb); have HE14 := Aside0.mk (below_then HE13.out HE13.out.size hb); have HI14 := Aside0.mk (below_then HI13.out HI13.out.size hb); clear hb)
    | (go_at_call 34; refine (toOccS_any C cc a _ na IA.out (HA.out.below HA12.out)).mono ?_; rintro e w13 ⟨v0, rfl, h0, hb⟩; obtain ⟨Za, Zca, rfl⟩ := Kd.S_slice h0; have HZa := Aside0.mk (Row.of h0); have HA13 := Aside0.mk (below_then HA12.out HA12.out.size hb); have HC13 := Aside0.mk (below_then HC12.out HC12.out.size hb); have HE13 := Aside0.mk (below_then HE12.out HE12.out.size hb); have HI13 := Aside0.mk (below_then HI12.out HI12.out.size hb); clear hb h0))
  clear HZa
  go_upto_region 22 with (first
    | (have hh := HZb.out; clear hh; go_at_call 35; refine (eqOccS_any Xb Zb Xcb Zcb b _ (HXb11.out.below HE15.out).isL HZb.out.isL).mono ?_; rintro e w16 ⟨rfl, hb⟩; have HA16 := Aside0.mk (below_then HA15.out HA15.out.size hb); have HC16 := Aside0.mk (below_then HC15.out HC15.out.size hb); have HE16 := Aside0.mk (below_then HE15.out HE15.out.size hb); have HI16 := Aside0.mk (below_then HI15.out HI15.out.size hb); clear hb)
    | (go_at_call 34; refine (toOccS_any D cd b _ nb IB.out (HB.out.below HA14.out)).mono ?_; rintro e w15 ⟨v0, rfl, h0, hb⟩; obtain ⟨Zb, Zcb, rfl⟩ := Kd.S_slice h0; have HZb := Aside0.mk (Row.of h0); have HA15 := Aside0.mk (below_then HA14.out HA14.out.size hb); have HC15 := Aside0.mk (below_then HC14.out HC14.out.size hb); have HE15 := Aside0.mk (below_then HE14.out HE14.out.size hb); have HI15 := Aside0.mk (below_then HI14.out HI14.out.size hb); clear hb h0))
  clear HZb
  go_upto_region 25 with (first
    | (have hh := HZc.out; clear hh; go_at_call 35; refine (eqOccS_any Xc Zc Xcc Zcc c _ (HXc11.out.below HE17.out).isL HZc.out.isL).mono ?_; rintro e w18 ⟨rfl, hb⟩; have HA18 := Aside0.mk (below_then HA17.out HA17.out.size hb); have HC18 := Aside0.mk (below_then HC17.out HC17.out.size hb); have HE18 := Aside0.mk (below_then HE17.out HE17.out.size hb); have HI18 := Aside0.mk (below_then HI17.out HI17.out.size hb); clear hb)
    | (go_at_call 34; refine (toOccS_any E ce c _ nc IC.out (HC.out.below HA16.out)).mono ?_; rintro e w17 ⟨v0, rfl, h0, hb⟩; obtain ⟨Zc, Zcc, rfl⟩ := Kd.S_slice h0; have HZc := Aside0.mk (Row.of h0); have HA17 := Aside0.mk (below_then HA16.out HA16.out.size hb); have HC17 := Aside0.mk (below_then HC16.out HC16.out.size hb); have HE17 := Aside0.mk (below_then HE16.out HE16.out.size hb); have HI17 := Aside0.mk (below_then HI16.out HI16.out.size hb); clear hb h0))
  clear HZc
  have HXMa0 := Aside0.mk (HXa11.out.below HE18.out)
  have HXMb0 := Aside0.mk (HXb11.out.below HE18.out)
  have HXMc0 := Aside0.mk (HXc11.out.below HE18.out)
  have hz8 := HC8.out.size
  have hza := HC8.out.size
  have hzb := HC9.out.size
  have hzc := HC10.out.size
  have hzza := HGa9.out.size
  have hzzb := HGb10.out.size
  have hwa := wt_big a na IA.out
  have hwb := wt_big b nb IB.out
  have hwc := wt_big c nc IC.out
  obtain ⟨k0, hk0⟩ : ∃ k : Int, k = 1 := ⟨_, rfl⟩
  obtain ⟨k1, hk1⟩ : ∃ k : Int, k = 1 + wtO a := ⟨_, rfl⟩
  have b1 : 1 ≤ k1 ∧ k1 ≤ 1099513724929 := by omega
  have HK1 := Aside0.mk hk1
  clear hk1
  go_upto_region 26 with (go_at_call 36; refine (rowMark _ _ _ a 1 _ (by decide) (by omega) HXMa0.out).mono ?_; rintro e w19 ⟨rfl, -, hf⟩; rw [← HK1.out]; have HF1 := Aside0.mk hf; have HXMb1 := Aside0.mk (HXMb0.out.fr hf (fun k hk => by have h1 := hk.1; have h2 := hk.2; omega)); have HXMc1 := Aside0.mk (HXMc0.out.fr hf (fun k hk => by have h1 := hk.1; have h2 := hk.2; omega)); clear hf)
  clear HXMa0 HXMb0 HXMc0
  obtain ⟨k2, hk2⟩ : ∃ k : Int, k = k1 + wtO b := ⟨_, rfl⟩
  have b2 : 1 ≤ k2 ∧ k2 ≤ 2199027449857 := by omega
  have HK2 := Aside0.mk hk2
  clear hk2
  go_upto_region 27 with (go_at_call 36; refine (rowMark _ _ _ b k1 _ (by omega) (by omega) HXMb1.out).mono ?_; rintro e w20 ⟨rfl, -, hf⟩; rw [← HK2.out]; have HF2 := Aside0.mk hf; have HXMc2 := Aside0.mk (HXMc1.out.fr hf (fun k hk => by have h1 := hk.1; have h2 := hk.2; omega)); clear hf)
  clear HXMb1 HXMc1
  obtain ⟨k3, hk3⟩ : ∃ k : Int, k = k2 + wtO c := ⟨_, rfl⟩
  have b3 : 1 ≤ k3 ∧ k3 ≤ 3298541174785 := by omega
  have HK3 := Aside0.mk hk3
  clear hk3
  have dk : decide (k3 < 0) = false := decide_eq_false (by omega)
  go_upto_region 28 with (go_at_call 36; refine (rowMark _ _ _ c k2 _ (by omega) (by omega) HXMc2.out).mono ?_; rintro e w21 ⟨rfl, -, hf⟩; rw [← HK3.out]; have HF3 := Aside0.mk hf; clear hf)
  clear HXMc2
  have HFX : Aside0 (Fr (In w7.heap.size w10.heap.size) w18 w21) := ⟨(Fr.trans (Fr.trans (Fr.mono (T := In w7.heap.size w10.heap.size) HF1.out (fun k hk _ => ⟨by have := hk.1; omega, by have := hk.2; omega⟩)) HF2.out (fun k hk _ => ⟨by have := hk.1; omega, by have := hk.2; omega⟩)) HF3.out (fun k hk _ => ⟨by have := hk.1; omega, by have := hk.2; omega⟩))⟩
  clear HF1 HF2 HF3
  have hzE := HE11.out.size
  have HA21 := Aside0.mk (Fr.bel HA18.out HFX.out (fun k hk => by have h1 := hk.1; have := HA7.out.size; omega))
  have HC21 := Aside0.mk (Fr.bel HC18.out HFX.out (fun k hk => hk.1))
  have HGM := Aside0.mk ((HG.out.below HI18.out).fr HFX.out (fun k hk => .inl hk.2))
  have HJ21 := Aside0.mk (Below.refl w21.heap.size w21)
  clear HFX
  go_upto_region 31 with (go_at_call 35; refine (eqOccS_any _ _ _ _ pl _ (HGM.out.below HJ21.out).isL (HSC.out.below HC21.out)).mono ?_; rintro e w22 ⟨rfl, hb⟩; have HA22 := Aside0.mk (below_then HA21.out HA21.out.size hb); have HC22 := Aside0.mk (below_then HC21.out HC21.out.size hb); have HJ22 := Aside0.mk (below_then HJ21.out HJ21.out.size hb); clear hb)
  have HGN := Aside0.mk (HGM.out.below HJ22.out)
  obtain ⟨m2, hm2⟩ : ∃ m : Int, m = 1 + wtO pl := ⟨_, rfl⟩
  have c2 : 1 ≤ m2 ∧ m2 ≤ 8796109799424 := by omega
  have HM2 := Aside0.mk hm2
  clear hm2
  go_upto_region 33 with (go_at_call 36; refine (rowMark _ _ _ pl 1 _ (by decide) (by omega) HGN.out).mono ?_; rintro e w23 ⟨rfl, hr, hf⟩; rw [← HM2.out]; have HGP := Aside0.mk hr; have HFG := Aside0.mk hf; clear hr hf)
  have hs11 : w7.heap.size ≤ w10.heap.size := HC10.out.size
  have HA23 := Aside0.mk (Fr.bel HA22.out HFG.out (fun k hk => by have h1 := hk.1; have := HA7.out.size; omega))
  have HC23 := Aside0.mk (Fr.bel HC22.out HFG.out (fun k hk => by have h1 := hk.1; omega))
  have HJ23 := Aside0.mk (Below.refl w23.heap.size w23)
  clear HFG HGN
  have dm2 : decide (m2 < 0) = false := decide_eq_false (by omega)
  have dmm : (m2 != m2) = false := by simp
  go_upto_region 38 with (go_at_call 37; refine (heldO_any G2 gc2 pl 1 _ (by decide) (by omega) (HGP.out.below HJ23.out).isL).mono ?_; rintro e w24 ⟨rfl, hb⟩; rw [← HM2.out]; have HA24 := Aside0.mk (below_then HA23.out HA23.out.size hb); have HC24 := Aside0.mk (below_then HC23.out HC23.out.size hb); have HJ24 := Aside0.mk (below_then HJ23.out HJ23.out.size hb); clear hb)
  go_upto_region 39 with (first
    | (have hh := HVc.out; clear hh; go_at_call 28; refine (HIM.out Va Vb Vc Vca Vcb Vcc _ (((HVa.out).below HSV26.out).below HSV27.out).isL ((HVb.out).below HSV27.out).isL (HVc.out).isL).mono ?_; rintro e w28 ⟨v2, rfl, h3, hb⟩; obtain ⟨K2, kc2, rfl⟩ := Kd.S_slice h3; have HK := Aside0.mk (Row.of h3); have HA28 := Aside0.mk (below_then HA27.out HA27.out.size hb); have HC28 := Aside0.mk (below_then HC27.out HC27.out.size hb); have HJ28 := Aside0.mk (below_then HJ27.out HJ27.out.size hb); clear h3 hb)
    | (have hh := HVb.out; clear hh; go_at_call 34; refine (toOccS_any E ce c _ nc IC.out (HC.out.below HA26.out)).mono ?_; rintro e w27 ⟨v0, rfl, h0, hb⟩; obtain ⟨Vc, Vcc, rfl⟩ := Kd.S_slice h0; have HVc := Aside0.mk (Row.of h0); have HA27 := Aside0.mk (below_then HA26.out HA26.out.size hb); have HC27 := Aside0.mk (below_then HC26.out HC26.out.size hb); have HJ27 := Aside0.mk (below_then HJ26.out HJ26.out.size hb); have HSV27 := Aside0.mk hb; clear hb h0)
    | (have hh := HVa.out; clear hh; go_at_call 34; refine (toOccS_any D cd b _ nb IB.out (HB.out.below HA25.out)).mono ?_; rintro e w26 ⟨v0, rfl, h0, hb⟩; obtain ⟨Vb, Vcb, rfl⟩ := Kd.S_slice h0; have HVb := Aside0.mk (Row.of h0); have HA26 := Aside0.mk (below_then HA25.out HA25.out.size hb); have HC26 := Aside0.mk (below_then HC25.out HC25.out.size hb); have HJ26 := Aside0.mk (below_then HJ25.out HJ25.out.size hb); have HSV26 := Aside0.mk hb; clear hb h0)
    | (go_at_call 34; refine (toOccS_any C cc a _ na IA.out (HA.out.below HA24.out)).mono ?_; rintro e w25 ⟨v0, rfl, h0, hb⟩; obtain ⟨Va, Vca, rfl⟩ := Kd.S_slice h0; have HVa := Aside0.mk (Row.of h0); have HA25 := Aside0.mk (below_then HA24.out HA24.out.size hb); have HC25 := Aside0.mk (below_then HC24.out HC24.out.size hb); have HJ25 := Aside0.mk (below_then HJ24.out HJ24.out.size hb); have HSV25 := Aside0.mk hb; clear hb h0))
  go_upto_region 42 with (go_at_call 35; refine (eqOccS_any _ _ _ _ pl _ HK.out.isL (HSC.out.below HC28.out)).mono ?_; rintro e w29 ⟨rfl, hb⟩; have HA29 := Aside0.mk (below_then HA28.out HA28.out.size hb); have HC29 := Aside0.mk (below_then HC28.out HC28.out.size hb); have HJ29 := Aside0.mk (below_then HJ28.out HJ28.out.size hb); clear hb)
  go_wp2_with (go_at_call 37; refine (heldO_any G2 gc2 pl 1 _ (by decide) (by omega) (HGP.out.below HJ29.out).isL).mono ?_; rintro e w30 ⟨rfl, hb⟩; rw [← HM2.out]; have HA30 := Aside0.mk (below_then HA29.out HA29.out.size hb); have HC30 := Aside0.mk (below_then HC29.out HC29.out.size hb); have HJ30 := Aside0.mk (below_then HJ29.out HJ29.out.size hb); clear hb)
  go_ret
  exact ⟨rfl, HA30.out⟩
end Go.Proofs.YtccenpmaooailaaGreat.Ep
