
/- NotOf, EachOf drawn. -/
import Derived.Test.YtccenpmaooailaaGreatLB7
import Derived.Test.YtccenpmaooailaaGreatLB6
import Derived.Test.YtccenpmaooailaaGreatLTf
set_option linter.unusedVariables false
set_option linter.unusedSimpArgs false
namespace Go.Proofs.YtccenpmaooailaaGreat.Hb
open Go.RowKit Go.Proofs.YtccenpmaooailaaGreatW.PrintWords Go.Proofs.YtccenpmaooailaaGreat.Wd Go.Proofs.YtccenpmaooailaaGreat.Pu Go.Proofs.YtccenpmaooailaaGreat.Pv Go.Proofs.YtccenpmaooailaaGreat.Ca Go.Proofs.YtccenpmaooailaaGreat.Cb Go.Proofs.YtccenpmaooailaaGreat.Cc Go.Proofs.YtccenpmaooailaaGreat.Cp Go.Proofs.YtccenpmaooailaaGreat.Cd Go.Proofs.YtccenpmaooailaaGreat.Ci Go.Proofs.YtccenpmaooailaaGreat.Ce Go.Proofs.YtccenpmaooailaaGreat.Cf Go.Proofs.YtccenpmaooailaaGreat.Cg Go.Proofs.YtccenpmaooailaaGreat.Sc Go.Proofs.YtccenpmaooailaaGreat.Se Go.Proofs.YtccenpmaooailaaGreat.Sh Go.Proofs.YtccenpmaooailaaGreat.Si Go.Proofs.YtccenpmaooailaaGreat.Sp Go.Proofs.YtccenpmaooailaaGreat.Ia Go.Proofs.YtccenpmaooailaaGreat.Ib Go.Proofs.YtccenpmaooailaaGreat.Ic Go.Proofs.YtccenpmaooailaaGreat.Id Go.Proofs.YtccenpmaooailaaGreat.Ie Go.Proofs.YtccenpmaooailaaGreat.If Go.Proofs.YtccenpmaooailaaGreat.Ig Go.Proofs.YtccenpmaooailaaGreat.Ih Go.Proofs.YtccenpmaooailaaGreat.Ij Go.Proofs.YtccenpmaooailaaGreat.Ik Go.Proofs.YtccenpmaooailaaGreat.Ra Go.Proofs.YtccenpmaooailaaGreat.Rb Go.Proofs.YtccenpmaooailaaGreat.Rc Go.Proofs.YtccenpmaooailaaGreat.Rd Go.Proofs.YtccenpmaooailaaGreat.Re Go.Proofs.YtccenpmaooailaaGreat.Sj Go.Proofs.YtccenpmaooailaaGreat.Ya Go.Proofs.YtccenpmaooailaaGreat.Yd Go.Proofs.YtccenpmaooailaaGreat.Yf Go.Proofs.YtccenpmaooailaaGreat.Yg Go.Proofs.YtccenpmaooailaaGreat.Ih Go.Proofs.YtccenpmaooailaaGreat.Yh Go.Proofs.YtccenpmaooailaaGreat.Yi Go.Proofs.YtccenpmaooailaaGreat.Sg Go.Proofs.YtccenpmaooailaaGreat.Sf Go.Proofs.YtccenpmaooailaaGreat.Yj Go.Proofs.YtccenpmaooailaaGreat.Ig Go.Proofs.YtccenpmaooailaaGreat.Yk Go.Proofs.YtccenpmaooailaaGreat.Ik Go.Proofs.YtccenpmaooailaaGreat.Yl Go.Proofs.YtccenpmaooailaaGreat.Ij Go.Proofs.YtccenpmaooailaaGreat.Ym Go.Proofs.YtccenpmaooailaaGreat.Il Go.Proofs.YtccenpmaooailaaGreat.Yn Go.Proofs.YtccenpmaooailaaGreat.Yo Go.Proofs.YtccenpmaooailaaGreat.In Go.Proofs.YtccenpmaooailaaGreat.Yq Go.Proofs.YtccenpmaooailaaGreat.Pw Go.Proofs.YtccenpmaooailaaGreat.Px Go.Proofs.YtccenpmaooailaaGreat.La Go.Proofs.YtccenpmaooailaaGreat.Db Go.Proofs.YtccenpmaooailaaGreat.Sa Go.Proofs.YtccenpmaooailaaGreat.Sb Go.Proofs.YtccenpmaooailaaGreat.Sc Go.Proofs.YtccenpmaooailaaGreat.Sd Go.Proofs.YtccenpmaooailaaGreat.Sh Go.Proofs.YtccenpmaooailaaGreat.Sk Go.Proofs.YtccenpmaooailaaGreat.Sl Go.Proofs.YtccenpmaooailaaGreat.Sm Go.Proofs.YtccenpmaooailaaGreat.Da Go.Proofs.YtccenpmaooailaaGreat.Id Go.Proofs.YtccenpmaooailaaGreat.Tf

theorem results_four {fn : Func} {s t u v : Tmp} (h : fn.results = #[.tmp s, .tmp t, .tmp u, .tmp v]) (tmps : Array Value) (P : Program) (w : World) :
    (results fn tmps).run P w = .ok (.tuple #[tmps.getD s undef, tmps.getD t undef, tmps.getD u undef, tmps.getD v undef]) w := by
  simp [results, h]
/-- a mode and three lists -/
def D3Out (w w' : World) (e : Ending) : Prop := ∃ (mode : Int) (a b d : List Occ) (A B D : Option Addr) (ca cb cd : Nat), e = .returned (.tuple #[.int .i64 mode, .slice A a.length ca, .slice B b.length cb, .slice D d.length cd]) ∧ IsL w' a A ca ∧ IsL w' b B cb ∧ IsL w' d D cd ∧ Below w.heap.size w w'
set_option maxHeartbeats 1000000 in
set_option maxRecDepth 100000 in
theorem three_any (A : Option Addr) (c : Nat) (bs : List Int) (w : World) (hC : (Kd.int .u8).C w A bs.length bs) (hc : bs.length ≤ c) (hb : ∀ b ∈ bs, 0 ≤ b ∧ b ≤ 255) :
    Calls Tryz.prog 60 #[.slice A bs.length c] w fun e w' => D3Out w w' e := by
  go_enter Tryz.func60, Tryz.ntmps60
  go_upto_region 3 with (first
    | (go_at_call 39; refine (draw_any w g bs2 0 _ HR1.out (by omega)).mono ?_; rintro e w2 ⟨mode, rfl, hr2, hg2⟩; have HR2 := Aside0.mk hr2; have HG2 := Aside0.mk hg2; have hgw : g < w2.heap.size := rd_lt hr2; clear hr2 hg2)
    | (go_at_call 38; refine (open_any w A c bs _ (Below.refl _ _) hC hc hb).mono ?_; rintro e w1 ⟨g, rfl, ⟨bs2, hr⟩, hb1⟩; have HR1 := Aside0.mk hr; clear hr hb1))
  go_upto_region 4 with (go_at_call 69; refine (bent_any w g bs2 (0 + 1) _ HR2.out (by omega)).mono ?_; rintro e w3 ⟨va, a, rfl, hm3⟩; obtain ⟨Xa, ca, rfl⟩ := Kd.R_slice hm3.own; have HM3 := Aside0.mk hm3; obtain ⟨q3, hq3, hr3⟩ := hm3.rd; have HR3 := Aside0.mk hr3; clear hm3 hr3)
  have hg3 : g < w3.heap.size := rd_lt HR3.out
  go_upto_region 5 with (go_at_call 78; refine (some_any w g bs2 q3 3 _ HR3.out (by omega) (by omega)).mono ?_; rintro e w4 ⟨vb, b, rfl, hl4, ⟨ho4, ⟨q4, hq4, hr4⟩, hg4, hk4⟩⟩; obtain ⟨Xb, cb, rfl⟩ := Kd.R_slice ho4; have HA4 := Aside0.mk (own_step HM3.out.own hg4 hgw); have HB4 := Aside0.mk ho4; have HR4 := Aside0.mk hr4; clear ho4 hr4 hg4 hk4)
  have hg4 : g < w4.heap.size := rd_lt HR4.out
  go_wp2_with (go_at_call 69; refine (Sl2.bent_any2 w g bs2 q4 _ HR4.out (by omega)).mono ?_; rintro e w5 ⟨vd, d, rfl, hm5⟩; obtain ⟨Xd, cd, rfl⟩ := Kd.R_slice hm5.own; have HM5 := Aside0.mk hm5; have HA5 := Aside0.mk (own_step HA4.out hm5.gr hgw); have HB5 := Aside0.mk (own_step HB4.out hm5.gr hg3); have hz := hm5.rd; have HZ : Aside0 (Below w.heap.size w w5) := ⟨by { obtain ⟨q, _, hr⟩ := hz; exact hr.below }⟩; clear hm5 hz)
  (try simp only [Exit.inBlock, Exit.then])
  refine bodyPost_ret (results_four rfl _ _ _) rfl ?_
  exact ⟨mode, a, b, d, Xa, Xb, Xd, ca, cb, cd, rfl, Dw.isL HZ.out HA5.out, Dw.isL HZ.out HB5.out, Dw.isL HZ.out HM5.out.own, HZ.out⟩

set_option maxRecDepth 100000 in
theorem dDrawNotOf_any (A : Option Addr) (c : Nat) (bs : List Int) (w : World) (hC : (Kd.int .u8).C w A bs.length bs) (hc : bs.length ≤ c) (hb : ∀ b ∈ bs, 0 ≤ b ∧ b ≤ 255) :
    Calls Tryz.prog 27 #[.slice A bs.length c] w fun e w' => D3Out w w' e := by
  have hcall := three_any A c bs w hC hc hb
  go_enter Tryz.func27, Tryz.ntmps27
  go_wp2_with (go_at_call 60; refine hcall.mono ?_; rintro e w1 ⟨mode, a, b, d, Xa, Xb, Xd, ca, cb, cd, rfl, h1, h2, h3, hbel⟩; have H1 := Aside0.mk h1; have H2 := Aside0.mk h2; have H3 := Aside0.mk h3; have HBL := Aside0.mk hbel; clear h1 h2 h3 hbel)
  (try simp only [Exit.inBlock, Exit.then])
  refine bodyPost_ret (results_four rfl _ _ _) rfl ?_
  exact ⟨mode, a, b, d, Xa, Xb, Xd, ca, cb, cd, rfl, H1.out, H2.out, H3.out, HBL.out⟩

set_option maxRecDepth 100000 in
theorem dDrawEachOf_any (A : Option Addr) (c : Nat) (bs : List Int) (w : World) (hC : (Kd.int .u8).C w A bs.length bs) (hc : bs.length ≤ c) (hb : ∀ b ∈ bs, 0 ≤ b ∧ b ≤ 255) :
    Calls Tryz.prog 22 #[.slice A bs.length c] w fun e w' => D3Out w w' e := by
  have hcall := three_any A c bs w hC hc hb
  go_enter Tryz.func22, Tryz.ntmps22
  go_wp2_with (go_at_call 60; refine hcall.mono ?_; rintro e w1 ⟨mode, a, b, d, Xa, Xb, Xd, ca, cb, cd, rfl, h1, h2, h3, hbel⟩; have H1 := Aside0.mk h1; have H2 := Aside0.mk h2; have H3 := Aside0.mk h3; have HBL := Aside0.mk hbel; clear h1 h2 h3 hbel)
  (try simp only [Exit.inBlock, Exit.then])
  refine bodyPost_ret (results_four rfl _ _ _) rfl ?_
  exact ⟨mode, a, b, d, Xa, Xb, Xd, ca, cb, cd, rfl, H1.out, H2.out, H3.out, HBL.out⟩
end Go.Proofs.YtccenpmaooailaaGreat.Hb
