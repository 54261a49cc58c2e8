
/- Spans drawn. -/
import Derived.Test.YtccenpmaooailaaLB7
import Derived.Test.YtccenpmaooailaaLB6
set_option linter.unusedVariables false
set_option linter.unusedSimpArgs false
namespace Go.Proofs.Ytccenpmaooailaa.Tf
open Go.RowKit Go.Proofs.YtccenpmaooailaaW.PrintWords Go.Proofs.Ytccenpmaooailaa.Wd Go.Proofs.Ytccenpmaooailaa.Pu Go.Proofs.Ytccenpmaooailaa.Pv Go.Proofs.Ytccenpmaooailaa.Ca Go.Proofs.Ytccenpmaooailaa.Cb Go.Proofs.Ytccenpmaooailaa.Cc Go.Proofs.Ytccenpmaooailaa.Cp Go.Proofs.Ytccenpmaooailaa.Cd Go.Proofs.Ytccenpmaooailaa.Ci Go.Proofs.Ytccenpmaooailaa.Ce Go.Proofs.Ytccenpmaooailaa.Cf Go.Proofs.Ytccenpmaooailaa.Cg Go.Proofs.Ytccenpmaooailaa.Sc Go.Proofs.Ytccenpmaooailaa.Se Go.Proofs.Ytccenpmaooailaa.Sh Go.Proofs.Ytccenpmaooailaa.Si Go.Proofs.Ytccenpmaooailaa.Sp Go.Proofs.Ytccenpmaooailaa.Ia Go.Proofs.Ytccenpmaooailaa.Ib Go.Proofs.Ytccenpmaooailaa.Ic Go.Proofs.Ytccenpmaooailaa.Id Go.Proofs.Ytccenpmaooailaa.Ie Go.Proofs.Ytccenpmaooailaa.If Go.Proofs.Ytccenpmaooailaa.Ig Go.Proofs.Ytccenpmaooailaa.Ih Go.Proofs.Ytccenpmaooailaa.Ij Go.Proofs.Ytccenpmaooailaa.Ik Go.Proofs.Ytccenpmaooailaa.Ra Go.Proofs.Ytccenpmaooailaa.Rb Go.Proofs.Ytccenpmaooailaa.Rc Go.Proofs.Ytccenpmaooailaa.Rd Go.Proofs.Ytccenpmaooailaa.Re Go.Proofs.Ytccenpmaooailaa.Sj Go.Proofs.Ytccenpmaooailaa.Ya Go.Proofs.Ytccenpmaooailaa.Yd Go.Proofs.Ytccenpmaooailaa.Yf Go.Proofs.Ytccenpmaooailaa.Yg Go.Proofs.Ytccenpmaooailaa.Ih Go.Proofs.Ytccenpmaooailaa.Yh Go.Proofs.Ytccenpmaooailaa.Yi Go.Proofs.Ytccenpmaooailaa.Sg Go.Proofs.Ytccenpmaooailaa.Sf Go.Proofs.Ytccenpmaooailaa.Yj Go.Proofs.Ytccenpmaooailaa.Ig Go.Proofs.Ytccenpmaooailaa.Yk Go.Proofs.Ytccenpmaooailaa.Ik Go.Proofs.Ytccenpmaooailaa.Yl Go.Proofs.Ytccenpmaooailaa.Ij Go.Proofs.Ytccenpmaooailaa.Ym Go.Proofs.Ytccenpmaooailaa.Il Go.Proofs.Ytccenpmaooailaa.Yn Go.Proofs.Ytccenpmaooailaa.Yo Go.Proofs.Ytccenpmaooailaa.In Go.Proofs.Ytccenpmaooailaa.Yq Go.Proofs.Ytccenpmaooailaa.Pw Go.Proofs.Ytccenpmaooailaa.Px Go.Proofs.Ytccenpmaooailaa.La Go.Proofs.Ytccenpmaooailaa.Db Go.Proofs.Ytccenpmaooailaa.Sa Go.Proofs.Ytccenpmaooailaa.Sb Go.Proofs.Ytccenpmaooailaa.Sc Go.Proofs.Ytccenpmaooailaa.Sd Go.Proofs.Ytccenpmaooailaa.Sh Go.Proofs.Ytccenpmaooailaa.Sk Go.Proofs.Ytccenpmaooailaa.Sl Go.Proofs.Ytccenpmaooailaa.Sm Go.Proofs.Ytccenpmaooailaa.Da Go.Proofs.Ytccenpmaooailaa.Id
theorem _root_.Go.Proofs.Ytccenpmaooailaa.Da.PairMem.setS {w0 w w1 : World} {g P : Nat} {bs : List Int} {v0 v1 : Value} {l r : List Occ} {cells : Array Value} (h : PairMem w0 w w1 g bs v0 v1 l r) (hb : w1.heap[P]? = some (.cells cells 46 (0, 0))) (hP : w.heap.size ≤ P) (hgw : g < w.heap.size) (j : Nat) (u : Value) : PairMem w0 w (w1.setCell ⟨P, j, none⟩ u) g bs v0 v1 l r := by
  obtain ⟨p, hp, hr⟩ := h.rd
  exact ⟨Dw.set h.r0 hb (by decide) j u, Dw.set h.r1 hb (by decide) j u, ⟨p, hp, rd_far hr (by have := hr.base; omega) (by omega) _ _⟩, grown_set (n := j) h.gr hP, h.len0, h.len1, h.ids0, h.ids1⟩
set_option maxHeartbeats 2000000 in
set_option maxRecDepth 100000 in
theorem span_any (w0 : World) (g : Nat) (bs : List Int) (p : Nat) (w : World) (h : Rd w0 w g bs p) (hp : p ≤ 800) :
    Calls Try.prog 103 #[.pointer (some ⟨g, 0, none⟩)] w fun e w' => PairOut w0 w w' g bs e := by
  have hgw := rd_lt h
  have hw0 := h.base
  go_enter Try.func103, Try.ntmps103
  go_upto_region 1 with fail
  have bR0 := blk_new w (.cells #[.slice none 0 0, .slice none 0 0] 46)
  have HG0 := Aside0.mk (grown_alloc (w := w) (.cells #[.slice none 0 0, .slice none 0 0] 46) (some g))
  have HR0 := Aside0.mk (h.grown (below_alloc (Below.refl _ _) (.cells #[.slice none 0 0, .slice none 0 0] 46)))
  generalize hW : w.alloc (.cells #[.slice none 0 0, .slice none 0 0] 46) = W1 at bR0 HG0 HR0 ⊢
  clear hW
  have hs1 := HG0.out.size
  have hgne : ∀ {v : Value} {l : List Occ} {W : World}, Dw w0 W w.heap.size v l → w.heap.size ≠ g := fun _ => by omega
  go_upto_region 2 with (first
    | (go_at_call 127; refine (some_any w0 g bs q1 2 _ HR1.out (by omega) (by omega)).mono ?_; rintro e w2 ⟨v1, r, rfl, hl2, ⟨ho2, ⟨q2, hq2, hr2⟩, hg2, hk2⟩⟩; obtain ⟨A1, c1, rfl⟩ := Kd.R_slice ho2; have HV0 := Aside0.mk (own_step HO1.out hg2 hgw); have HV1 := Aside0.mk (Kd.R_lower ho2 HG1.out.size); have HR2 := Aside0.mk hr2; have HG2 := Aside0.mk (grown_two HG1.out hg2); have HK2 := Aside0.mk hk2; have bR2 := blk_grown bR1 hg2 (by simp; omega); clear ho2 hr2 hg2 hk2)
    | (go_at_call 127; refine (some_any w0 g bs p 4 _ HR0.out (by omega) (by omega)).mono ?_; rintro e w1 ⟨v0, l, rfl, hl1, ⟨ho1, ⟨q1, hq1, hr1⟩, hg1, hk1⟩⟩; obtain ⟨A0, c0, rfl⟩ := Kd.R_slice ho1; have HO1 := Aside0.mk (Kd.R_lower ho1 hs1); have HR1 := Aside0.mk hr1; have HG1 := Aside0.mk (grown_two HG0.out hg1); have HK1 := Aside0.mk hk1; have bR1 := blk_grown bR0 hg1 (by simp; omega); clear ho1 hr1 hg1 hk1))
  have bP := blk_new w2 (.cells #[.slice A0 l.length c0, .slice A1 r.length c1] 46)
  have hb3 := below_alloc (Below.refl w2.heap.size w2) (.cells #[.slice A0 l.length c0, .slice A1 r.length c1] 46)
  have hPw : w.heap.size ≤ w2.heap.size := HG2.out.size
  have HM3 : Aside0 (PairMem w0 w (w2.alloc (.cells #[.slice A0 l.length c0, .slice A1 r.length c1] 46)) g bs (.slice A0 l.length c0) (.slice A1 r.length c1) l r) :=
    ⟨⟨Kd.R_below HV0.out hb3, Kd.R_below HV1.out hb3, ⟨q2, by omega, HR2.out.grown hb3⟩, World.grownBy.trans HG2.out (grown_of_below hb3 _), by omega, by omega, fun x hx => Sl.isOk_24 (HK1.out.all x hx), fun x hx => Sl.isOk_24 (HK2.out.all x hx)⟩⟩
  have HR3 := Aside0.mk (HR2.out.grown hb3)
  have bR3 := blk_below bR2 hb3
  have hPs := blk_lt bP
  have hPne : w2.heap.size ≠ w.heap.size := fun h => by have := blk_lt bR2; omega
  generalize w2.alloc (.cells #[.slice A0 l.length c0, .slice A1 r.length c1] 46) = W3 at bP HM3 HR3 bR3 hPs ⊢
  generalize w2.heap.size = P at bP hPw hPs hPne ⊢
  clear hb3 HV0 HV1 HR2 HG2 HK1 HK2 bR2 HO1 HR1 HG1 bR1 bR0 HG0 HR0
  go_wp2_with (first
    | (go_at_call 128; refine (bent_any w0 g bs (q2 + 1) _ HR4.out (by omega)).mono ?_; rintro e w5 ⟨v5, l5, rfl, hm5⟩; obtain ⟨A5, c5, rfl⟩ := Kd.R_slice hm5.own; have hr5 := hm5.rd; have HM5 := Aside0.mk (HM4.out.grow hm5.gr hgw (by { obtain ⟨q5, hq5, hr5⟩ := hr5; exact ⟨q5, by omega, hr5⟩ })); have HB5 := Aside0.mk (show Dw w0 w5 w.heap.size (.slice A5 l5.length c5) l5 from Kd.R_lower hm5.own HM4.out.gr.size); have hl5 := hm5.len; have HI5 := Aside0.mk hm5.ids; have bP5 := blk_grown bP4 hm5.gr (by { simp; omega }); have bR5 := blk_grown bR4 hm5.gr (by { simp; omega }); have z0 := (blk_cell bP5 0).trans rfl; have z1 := (blk_cell bP5 1).trans rfl; have y0 := blk_frozen bP5 1; have u0 := (blk_cell bR5 0).trans rfl; have u1 := (blk_cell bR5 1).trans rfl; have o0 := blk_frozen bR5 0; have o1 := blk_frozen bR5 1; clear hm5 hr5)
    | (go_at_call 104; refine (pick_any w0 g bs q2 16 _ HR3.out (by omega) (by omega)).mono ?_; rintro e w4 ⟨x, rfl, _, hr4, hg4⟩; have HM4 := Aside0.mk (HM3.out.grow hg4 hgw ⟨q2 + 1, by omega, hr4⟩); have HR4 := Aside0.mk hr4; have bP4 := blk_grown bP hg4 (by { simp; omega }); have bR4 := blk_grown bR3 hg4 (by { simp; omega }); have z0 := (blk_cell bP4 0).trans rfl; have z1 := (blk_cell bP4 1).trans rfl; have y0 := blk_frozen bP4 0; have u0 := (blk_cell bR4 0).trans rfl; have u1 := (blk_cell bR4 1).trans rfl; have o0 := blk_frozen bR4 0; have o1 := blk_frozen bR4 1; clear hr4 hg4; obtain hx0 | hx0 : (x == 0) = true ∨ (x == 0) = false := by cases (x == 0) <;> simp))
  · have hA : PairMem w0 w w5 g bs (.slice A0 l.length c0) (.slice A5 l5.length c5) l l5 := ⟨HM5.out.r0, HB5.out, HM5.out.rd, HM5.out.gr, HM5.out.len0, hl5, HM5.out.ids0, HI5.out⟩
    have hB := hA.setS bP5 hPw hgw 1 (.slice A5 l5.length c5)
    have bR6 := (Below.heap_setCell w5 ⟨P, 1, none⟩ (.slice A5 l5.length c5) w.heap.size (by show w.heap.size ≠ P; omega)).trans bR5
    have hC := (hB.setS bR6 (Nat.le_refl _) hgw 0 (.slice A0 l.length c0)).setS (blk_set bR6 0 _) (Nat.le_refl _) hgw 1 (.slice A5 l5.length c5)
    refine bodyPost_ret (results_cell_row rfl _ _ w.heap.size 46 #[.slice A0 l.length c0, .slice A5 l5.length c5] (0, 0) _ rfl (Id.set2_blk _ _ bR6) Try.underlying46 rfl (by kernel_rfl)) rfl ?_
    exact ⟨_, _, l, l5, rfl, hC⟩
  · have hC := (HM4.out.setS bR4 (Nat.le_refl _) hgw 0 (.slice A0 l.length c0)).setS (blk_set bR4 0 _) (Nat.le_refl _) hgw 1 (.slice A1 r.length c1)
    refine bodyPost_ret (results_cell_row rfl _ _ w.heap.size 46 #[.slice A0 l.length c0, .slice A1 r.length c1] (0, 0) _ rfl (Id.set2_blk _ _ bR4) Try.underlying46 rfl (by kernel_rfl)) rfl ?_
    exact ⟨_, _, l, r, rfl, hC⟩
end Go.Proofs.Ytccenpmaooailaa.Tf
