
/- SpanNot, SpanEach drawn. -/
import Derived.Test.YtccenpmaooailaaGreatKB7
import Derived.Test.YtccenpmaooailaaGreatKB6
import Derived.Test.YtccenpmaooailaaGreatKTf
set_option linter.unusedVariables false
set_option linter.unusedSimpArgs false
namespace Go.Proofs.YtccenpmaooailaaGreat.Tg
open Go.RowKit Go.Proofs.YtccenpmaooailaaGreatW.PrintWords Go.Proofs.YtccenpmaooailaaGreat.Wd Go.Proofs.YtccenpmaooailaaGreat.Pu Go.Proofs.YtccenpmaooailaaGreat.Pv Go.Proofs.YtccenpmaooailaaGreat.Ca Go.Proofs.YtccenpmaooailaaGreat.Cb Go.Proofs.YtccenpmaooailaaGreat.Cc Go.Proofs.YtccenpmaooailaaGreat.Cp Go.Proofs.YtccenpmaooailaaGreat.Cd Go.Proofs.YtccenpmaooailaaGreat.Ci Go.Proofs.YtccenpmaooailaaGreat.Ce Go.Proofs.YtccenpmaooailaaGreat.Cf Go.Proofs.YtccenpmaooailaaGreat.Cg Go.Proofs.YtccenpmaooailaaGreat.Sc Go.Proofs.YtccenpmaooailaaGreat.Se Go.Proofs.YtccenpmaooailaaGreat.Sh Go.Proofs.YtccenpmaooailaaGreat.Si Go.Proofs.YtccenpmaooailaaGreat.Sp Go.Proofs.YtccenpmaooailaaGreat.Ia Go.Proofs.YtccenpmaooailaaGreat.Ib Go.Proofs.YtccenpmaooailaaGreat.Ic Go.Proofs.YtccenpmaooailaaGreat.Id Go.Proofs.YtccenpmaooailaaGreat.Ie Go.Proofs.YtccenpmaooailaaGreat.If Go.Proofs.YtccenpmaooailaaGreat.Ig Go.Proofs.YtccenpmaooailaaGreat.Ih Go.Proofs.YtccenpmaooailaaGreat.Ij Go.Proofs.YtccenpmaooailaaGreat.Ik Go.Proofs.YtccenpmaooailaaGreat.Ra Go.Proofs.YtccenpmaooailaaGreat.Rb Go.Proofs.YtccenpmaooailaaGreat.Rc Go.Proofs.YtccenpmaooailaaGreat.Rd Go.Proofs.YtccenpmaooailaaGreat.Re Go.Proofs.YtccenpmaooailaaGreat.Sj Go.Proofs.YtccenpmaooailaaGreat.Ya Go.Proofs.YtccenpmaooailaaGreat.Yd Go.Proofs.YtccenpmaooailaaGreat.Yf Go.Proofs.YtccenpmaooailaaGreat.Yg Go.Proofs.YtccenpmaooailaaGreat.Ih Go.Proofs.YtccenpmaooailaaGreat.Yh Go.Proofs.YtccenpmaooailaaGreat.Yi Go.Proofs.YtccenpmaooailaaGreat.Sg Go.Proofs.YtccenpmaooailaaGreat.Sf Go.Proofs.YtccenpmaooailaaGreat.Yj Go.Proofs.YtccenpmaooailaaGreat.Ig Go.Proofs.YtccenpmaooailaaGreat.Yk Go.Proofs.YtccenpmaooailaaGreat.Ik Go.Proofs.YtccenpmaooailaaGreat.Yl Go.Proofs.YtccenpmaooailaaGreat.Ij Go.Proofs.YtccenpmaooailaaGreat.Ym Go.Proofs.YtccenpmaooailaaGreat.Il Go.Proofs.YtccenpmaooailaaGreat.Yn Go.Proofs.YtccenpmaooailaaGreat.Yo Go.Proofs.YtccenpmaooailaaGreat.In Go.Proofs.YtccenpmaooailaaGreat.Yq Go.Proofs.YtccenpmaooailaaGreat.Pw Go.Proofs.YtccenpmaooailaaGreat.Px Go.Proofs.YtccenpmaooailaaGreat.La Go.Proofs.YtccenpmaooailaaGreat.Db Go.Proofs.YtccenpmaooailaaGreat.Sa Go.Proofs.YtccenpmaooailaaGreat.Sb Go.Proofs.YtccenpmaooailaaGreat.Sc Go.Proofs.YtccenpmaooailaaGreat.Sd Go.Proofs.YtccenpmaooailaaGreat.Sh Go.Proofs.YtccenpmaooailaaGreat.Sk Go.Proofs.YtccenpmaooailaaGreat.Sl Go.Proofs.YtccenpmaooailaaGreat.Sm Go.Proofs.YtccenpmaooailaaGreat.Da Go.Proofs.YtccenpmaooailaaGreat.Id Go.Proofs.YtccenpmaooailaaGreat.Tf
def DSpOut (w w' : World) (e : Ending) : Prop := ∃ (mode : Int) (l r a b d : List Occ) (A B C D E : Option Addr) (ca cb cc cd ce : Nat), e = .returned (.tuple #[.int .i64 mode, .agg #[.slice A l.length ca, .slice B r.length cb], .slice C a.length cc, .slice D b.length cd, .slice E d.length ce]) ∧ IsL w' l A ca ∧ IsL w' r B cb ∧ IsL w' a C cc ∧ IsL w' b D cd ∧ IsL w' d E ce ∧ Below w.heap.size w w'
theorem results_tcttt {P : Program} {fn : Func} {p u v x y : Tmp} {ty : TypeId} (h : fn.results = #[.tmp x, .cell p ty, .tmp u, .tmp v, .tmp y]) (tmps : Array Value) (w : World) (g : Nat) (t : TypeId) (cs : Array Value) (fr : Nat × Nat) (d : TypeDesc)
    (hp : tmps.getD p undef = .pointer (some ⟨g, 0, none⟩)) (hg : w.heap[g]? = some (.cells cs t fr))
    (hu : P.underlying ty = some d) (hd : (match d with | .struct _ | .array _ _ => true | _ => false) = true) (hi : (P.info? ty).map (·.size) = some cs.size) :
    (results fn tmps).run P w = .ok (.tuple #[tmps.getD x undef, .agg cs, tmps.getD u undef, tmps.getD v undef, tmps.getD y undef]) w := by
  have hp' : tmps[p]?.getD undef = .pointer (some ⟨g, 0, none⟩) := by simpa using hp
  simp [results, h, hp', asAddr, run_loadVar_row w g t ty cs fr d hg hu hd hi]
theorem isL_setS {w7 : World} {G : Nat} {X : Option Addr} {cx : Nat} {x : List Occ} (h1 : IsL w7 x X cx) (bG : w7.heap[G]? = some (.cells #[.slice none 0 0, .slice none 0 0] 25 (0, 0))) (A0 A1 : Option Addr) (n0 n1 c0 c1 : Nat) : IsL (Id.set2 w7 G (.slice A0 n0 c0) (.slice A1 n1 c1)) x X cx :=
  IsL.away (ni_two (blk_put bG 0 (.slice A0 n0 c0) rfl)) (keep_set _ G 1 (.slice A1 n1 c1)) (IsL.away (ni_two bG) (keep_set w7 G 0 (.slice A0 n0 c0)) h1)
set_option maxHeartbeats 2000000 in
set_option maxRecDepth 100000 in
theorem drawSpanNot_any (A : Option Addr) (c : Nat) (bs : List Int) (w : World) (hC : (Kd.int .u8).C w A bs.length bs) (hc : bs.length ≤ c) (hb : ∀ b ∈ bs, 0 ≤ b ∧ b ≤ 255) :
    Calls Tryz.prog 10 #[.slice A bs.length c] w fun e w' => DSpOut w w' e := by
  have bR0 := blk_new w (.cells #[.slice none 0 0, .slice none 0 0] 25)
  have hb0 := below_alloc (Below.refl w.heap.size w) (.cells #[.slice none 0 0, .slice none 0 0] 25)
  go_enter Tryz.func10, Tryz.ntmps10
  go_upto_region 1 with fail
  generalize hW : w.alloc (.cells #[.slice none 0 0, .slice none 0 0] 25) = W1 at bR0 hb0 ⊢
  clear hW
  have hs1 := blk_lt bR0
  have HC := Aside0.mk (Kd.C_below hC hb0)
  have HBW := Aside0.mk hb0
  clear hC hb0
  go_upto_region 4 with (first
    | (go_at_call 40; refine (span_any W1 g bs2 (0 + 1) _ HR2.out (by omega)).mono ?_; rintro e w3 ⟨v0, v1, l, r, rfl, hm3⟩; obtain ⟨A0, c0, rfl⟩ := Kd.R_slice hm3.r0; obtain ⟨A1, c1, rfl⟩ := Kd.R_slice hm3.r1; have HM3 := Aside0.mk hm3; have hgr3 := grown_two HG2.out hm3.gr; have HG3 := Aside0.mk hgr3; have bR3 := blk_grown bR1 hgr3 (by simp; omega); clear hm3 hgr3)
    | (go_at_call 39; refine (draw_any W1 g bs2 0 _ HR1.out (by omega)).mono ?_; rintro e w2 ⟨mode, rfl, hr2, hg2⟩; have HR2 := Aside0.mk hr2; have HG2 := Aside0.mk hg2; clear hr2 hg2)
    | (go_at_call 38; refine (open_any W1 A c bs _ (Below.refl _ _) HC.out hc hb).mono ?_; rintro e w1 ⟨g, rfl, ⟨bs2, hr⟩, hb1⟩; have HR1 := Aside0.mk hr; have bR1 := blk_below bR0 hb1; have hgW : W1.heap.size ≤ g := hr.base; have hglt := rd_lt hr; have HB1 := Aside0.mk hb1; clear hr hb1))
  have hgw : g < w2.heap.size := rd_lt HR2.out
  have bP := blk_new w3 (.cells #[.slice A0 l.length c0, .slice A1 r.length c1] 25)
  have hb4 := below_alloc (Below.refl w3.heap.size w3) (.cells #[.slice A0 l.length c0, .slice A1 r.length c1] 25)
  have HM4 : Aside0 (PR W1 w2 (w3.alloc (.cells #[.slice A0 l.length c0, .slice A1 r.length c1] 25)) g (.slice A0 l.length c0) (.slice A1 r.length c1) l r) :=
    ⟨⟨Kd.R_below HM3.out.r0 hb4, Kd.R_below HM3.out.r1 hb4, World.grownBy.trans HM3.out.gr (grown_of_below hb4 _)⟩⟩
  obtain ⟨q4, hq4, hr4⟩ : ∃ q, q ≤ 3000 ∧ Rd W1 (w3.alloc (.cells #[.slice A0 l.length c0, .slice A1 r.length c1] 25)) g bs2 q := by obtain ⟨q, hq, hr⟩ := HM3.out.rd; exact ⟨q, hq, hr.grown hb4⟩
  have HR4 := Aside0.mk hr4
  clear hr4
  have bR4 := blk_below bR3 hb4
  have HG4 := Aside0.mk (World.grownBy.trans HG3.out (grown_of_below hb4 (some g)))
  have h23 : w2.heap.size ≤ w3.heap.size := HM3.out.gr.size
  generalize hW4 : w3.alloc (.cells #[.slice A0 l.length c0, .slice A1 r.length c1] 25) = W4 at bP HM4 bR4 HG4 HR4 ⊢
  clear hW4 hb4
  generalize hPe : w3.heap.size = P at bP h23 ⊢
  clear hPe bR3 HM3 HG3 HR2 HG2 HR1
  have hPg : P ≠ g := by omega
  have hP4 := blk_lt bP
  go_upto_region 6 with (first
    | (go_at_call 42; refine (now_any W1 g bs2 (q4 + 1) _ _ HR5.out (by omega)).mono ?_; rintro e w6 ⟨va, a, rfl, _, hn6⟩; obtain ⟨Xa, ca, rfl⟩ := Kd.R_slice hn6.own; have HM6 := Aside0.mk (HM5.out.grow hn6.gr hgw); have hr6 := hn6.rd; have HR6 : Aside0 (∃ q, q ≤ 4000 ∧ Rd W1 w6 g bs2 q) := ⟨by { obtain ⟨q, hq, hr⟩ := hr6; exact ⟨q, by omega, hr⟩ }⟩; have HA6 := Aside0.mk hn6.own; have h56 := hn6.gr.size; have bP6 := blk_grown bP5 hn6.gr (by { simp; omega }); have bR6 := blk_grown bR5 hn6.gr (by { simp; omega }); clear hn6 hr6)
    | (go_at_call 41; refine (pick_any W1 g bs2 q4 8 _ HR4.out (by omega) (by omega)).mono ?_; rintro e w5 ⟨x, rfl, hx, hr5, hg5⟩; have hx0 := hx.1; have hx1 := hx.2.1 (by omega); have hwx : IntKind.i64.wrap (8 + x) = 8 + x := by { rw [IntKind.wrap_i64]; omega }; have HM5 := Aside0.mk (HM4.out.grow hg5 hgw); have HR5 := Aside0.mk hr5; have hg5w : g < w5.heap.size := rd_lt hr5; have bP5 := blk_grown bP hg5 (by { simp; omega }); have bR5 := blk_grown bR4 hg5 (by { simp; omega }); clear hr5 hg5 hx))
  obtain ⟨q6, hq6, hr6⟩ := HR6.out
  have HR6' := Aside0.mk hr6
  clear hr6
  have hg6w := rd_lt HR6'.out
  go_upto_region 7 with (go_at_call 42; refine (now_any W1 g bs2 q6 _ _ HR6'.out (by omega)).mono ?_; rintro e w9 ⟨vb, b, rfl, _, hn9⟩; obtain ⟨Xb, cb, rfl⟩ := Kd.R_slice hn9.own; have HM9 := Aside0.mk (HM6.out.grow hn9.gr hgw); have HA9 := Aside0.mk (own_step HA6.out hn9.gr hg5w); have HBb9 := Aside0.mk hn9.own; have hr9 := hn9.rd; have HR9e : Aside0 (∃ q, q ≤ 6000 ∧ Rd W1 w9 g bs2 q) := ⟨by { obtain ⟨q, hq, hr⟩ := hr9; exact ⟨q, by omega, hr⟩ }⟩; have bP9 := blk_grown bP6 hn9.gr (by { simp; omega }); have bR9 := blk_grown bR6 hn9.gr (by { simp; omega }); clear hn9 hr9)
  obtain ⟨q9, hq9, hr9⟩ := HR9e.out
  have HR9 := Aside0.mk hr9
  clear hr9
  have hRP : w.heap.size ≠ P := by omega
  have HF9 : Aside0 (∀ w' : World, w9.grownBy w' (some g) → (fun w' => w'.cell? ⟨P, 0, none⟩ = some (.slice A0 l.length c0) ∧ w'.cell? ⟨P, 1, none⟩ = some (.slice A1 r.length c1)) w') := ⟨fun w' h => ⟨(blk_cell (blk_grown bP9 h (by simp; omega)) 0).trans rfl, (blk_cell (blk_grown bP9 h (by simp; omega)) 1).trans rfl⟩⟩
  refine Za.regionL (fun w' => w'.cell? ⟨P, 0, none⟩ = some (.slice A0 l.length c0) ∧ w'.cell? ⟨P, 1, none⟩ = some (.slice A1 r.length c1)) [] (by kernel_rfl) ?_
  have HS : (fun w' => w'.cell? ⟨P, 0, none⟩ = some (.slice A0 l.length c0) ∧ w'.cell? ⟨P, 1, none⟩ = some (.slice A1 r.length c1)) w9.drew := HF9.out _ (grown_of_below (below_drew (Below.refl _ _)) _)
  refine Za.takeL 0 (v := ?v0) rfl (by kernel_rfl) (by kernel_rfl) (by kernel_rfl) (by kernel_rfl) (fun _ _ _ h => h) (Or.inl ⟨by rfl, ?hy0⟩) HS ?rest0
  case hy0 => (intro w hSw; (try dsimp only at hSw); go_simp; try with_reducible rfl)
  (try simp only [Act.put, List.setIfInBounds_toArray, List.set_cons_zero, List.set_cons_succ])
  refine Za.takeL 1 (v := ?v1) rfl (by kernel_rfl) (by kernel_rfl) (by kernel_rfl) (by kernel_rfl) (fun _ _ _ h => h) (Or.inl ⟨by rfl, ?hy1⟩) HS ?rest1
  case hy1 => (intro w hSw; (try dsimp only at hSw); go_simp; try with_reducible rfl)
  (try simp only [Act.put, List.setIfInBounds_toArray, List.set_cons_zero, List.set_cons_succ])
  refine Za.takeL 2 (v := ?v2) rfl (by kernel_rfl) (by kernel_rfl) (by kernel_rfl) (by kernel_rfl) (fun _ _ _ h => h) (Or.inl ⟨by rfl, ?hy2⟩) HS ?rest2
  case hy2 => (intro w hSw; (try dsimp only at hSw); go_simp; try with_reducible rfl)
  (try simp only [Act.put, List.setIfInBounds_toArray, List.set_cons_zero, List.set_cons_succ])
  refine Za.takeL 3 (v := ?v3) rfl (by kernel_rfl) (by kernel_rfl) (by kernel_rfl) (by kernel_rfl) (fun _ _ _ h => h) (Or.inl ⟨by rfl, ?hy3⟩) HS ?rest3
  case hy3 => (intro w hSw; (try dsimp only at hSw); go_simp; try with_reducible rfl)
  (try simp only [Act.put, List.setIfInBounds_toArray, List.set_cons_zero, List.set_cons_succ])
  refine Za.takeL 4 (v := ?v4) rfl (by kernel_rfl) (by kernel_rfl) (by kernel_rfl) (by kernel_rfl) (fun _ _ _ h => h) (Or.inl ⟨by rfl, ?hy4⟩) HS ?rest4
  case hy4 => (intro w hSw; (try dsimp only at hSw); go_simp; try with_reducible rfl)
  (try simp only [Act.put, List.setIfInBounds_toArray, List.set_cons_zero, List.set_cons_succ])
  refine Za.takeL 5 (v := ?v5) rfl (by kernel_rfl) (by kernel_rfl) (by kernel_rfl) (by kernel_rfl) (fun _ _ _ h => h) (Or.inl ⟨by rfl, ?hy5⟩) HS ?rest5
  case hy5 => (intro w hSw; (try dsimp only at hSw); go_simp; try with_reducible rfl)
  (try simp only [Act.put, List.setIfInBounds_toArray, List.set_cons_zero, List.set_cons_succ])
  clear HS
  refine Za.nextL 6 (by kernel_rfl) rfl (fun K' hK => ?_)
  go_simp
  (go_at_call 42; refine (now_any W1 g bs2 q9 _ _ (Rd.grown HR9.out (below_drew (Below.refl _ _))) (by omega)).mono ?_; rintro e w7 ⟨vd, d, rfl, _, hn7⟩; obtain ⟨Xd, cd9, rfl⟩ := Kd.R_slice hn7.own; have HG7 : w9.grownBy w7 (some g) := World.grownBy.trans (grown_of_below (below_drew (Below.refl _ _)) _) hn7.gr; have HF7 := HF9.out _ HG7; have HD7 := Aside0.mk hn7.own; have hrd7 := hn7.rd; have HZ7 : Aside0 (Below W1.heap.size W1 w7) := ⟨by { obtain ⟨q, _, hr⟩ := hrd7; exact hr.below }⟩; clear hn7 hrd7)
  go_wp2_with fail
  refine hK.out _ _ ⟨fun _ => HF7, ?_⟩
  clear hK K'
  (try simp only [Act.put, List.setIfInBounds_toArray, List.set_cons_zero, List.set_cons_succ])
  have HS : (fun w' => w'.cell? ⟨P, 0, none⟩ = some (.slice A0 l.length c0) ∧ w'.cell? ⟨P, 1, none⟩ = some (.slice A1 r.length c1)) w7 := HF7
  clear HS
  have bP7 := blk_grown bP9 HG7 (by simp; omega)
  have bR7 := blk_grown bR9 HG7 (by simp; omega)
  have HM7 := Aside0.mk (HM9.out.grow HG7 hgw)
  have HA7 := Aside0.mk (own_step HA9.out HG7 hg5w)
  have HB7 := Aside0.mk (own_step HBb9.out HG7 hg6w)
  have bP8 := blk_far (blk_far bP7 (p := ⟨w.heap.size, 0, none⟩) (show P ≠ w.heap.size by omega) (.slice A0 l.length c0)) (p := ⟨w.heap.size, 1, none⟩) (show P ≠ w.heap.size by omega) (.slice A1 r.length c1)
  have HS8 : Aside0 ((fun w' => w'.cell? ⟨P, 0, none⟩ = some (.slice A0 l.length c0) ∧ w'.cell? ⟨P, 1, none⟩ = some (.slice A1 r.length c1)) (Id.set2 w7 w.heap.size (.slice A0 l.length c0) (.slice A1 r.length c1))) := ⟨⟨(blk_cell bP8 0).trans rfl, (blk_cell bP8 1).trans rfl⟩⟩
  have r0 := (blk_cell bR7 0).trans rfl
  have r1 := (blk_cell bR7 1).trans rfl
  have f0 := blk_frozen bR7 0
  have f1 := blk_frozen bR7 1
  clear bP7 bP8
  refine Za.nextL 7 (by kernel_rfl) rfl (fun K' hK => ?_)
  go_simp
  refine hK.out _ _ ⟨fun _ => HF7, ?_⟩
  clear hK K'
  (try simp only [Act.put, List.setIfInBounds_toArray, List.set_cons_zero, List.set_cons_succ])
  refine Za.nextL 8 (by kernel_rfl) rfl (fun K' hK => ?_)
  go_simp
  refine hK.out _ _ ⟨fun _ => HS8.out, ?_⟩
  clear hK K'
  (try simp only [Act.put, List.setIfInBounds_toArray, List.set_cons_zero, List.set_cons_succ])
  refine Za.nextL 9 (by kernel_rfl) rfl (fun K' hK => ?_)
  go_simp
  refine hK.out _ _ ⟨fun _ => HS8.out, ?_⟩
  clear hK K'
  (try simp only [Act.put, List.setIfInBounds_toArray, List.set_cons_zero, List.set_cons_succ])
  refine Za.nextL 10 (by kernel_rfl) rfl (fun K' hK => ?_)
  go_simp
  refine hK.out _ _ ⟨fun _ => HS8.out, ?_⟩
  clear hK K'
  (try simp only [Act.put, List.setIfInBounds_toArray, List.set_cons_zero, List.set_cons_succ])
  refine Za.nextL 11 (by kernel_rfl) rfl (fun K' hK => ?_)
  go_simp
  refine hK.out _ _ ⟨fun _ => HS8.out, ?_⟩
  clear hK K'
  (try simp only [Act.put, List.setIfInBounds_toArray, List.set_cons_zero, List.set_cons_succ])
  refine Za.Walk.done (by kernel_rfl) ?_
  go_wp2
  refine bodyPost_ret (results_tcttt rfl _ _ w.heap.size 25 #[.slice A0 l.length c0, .slice A1 r.length c1] (0, 0) _ rfl (Id.set2_blk _ _ bR7) Tryz.underlying25 rfl (by kernel_rfl)) rfl ?_
  have hZ := below_then HBW.out HBW.out.size HZ7.out
  have K : ∀ {b : Nat} {X : Option Addr} {cx : Nat} {x : List Occ}, Dw W1 w7 b (.slice X x.length cx) x → IsL (Id.set2 w7 w.heap.size (.slice A0 l.length c0) (.slice A1 r.length c1)) x X cx := fun hx =>
    isL_setS (Dw.isL HZ7.out hx) bR7 _ _ _ _ _ _
  exact ⟨mode, l, r, a, b, d, A0, A1, Xa, Xb, Xd, c0, c1, ca, cb, cd9, rfl, K HM7.out.r0, K HM7.out.r1, K HA7.out, K HB7.out, K HD7.out, Id.set2_below hZ (Nat.le_refl _) _ _⟩

end Go.Proofs.YtccenpmaooailaaGreat.Tg
