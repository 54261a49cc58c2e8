
/- Spans drawn. -/
import Derived.Test.YtccenpmaooailaaGreatKB7
import Derived.Test.YtccenpmaooailaaGreatKB6
set_option linter.unusedVariables false
set_option linter.unusedSimpArgs false
namespace Go.Proofs.YtccenpmaooailaaGreat.Tf
open Go.RowKit Go.Proofs.YtccenpmaooailaaGreatW.PrintWords Go.Proofs.YtccenpmaooailaaGreat.Wd Go.Proofs.YtccenpmaooailaaGreat.Pu Go.Proofs.YtccenpmaooailaaGreat.Pv Go.Proofs.YtccenpmaooailaaGreat.Ca Go.Proofs.YtccenpmaooailaaGreat.Cb Go.Proofs.YtccenpmaooailaaGreat.Cc Go.Proofs.YtccenpmaooailaaGreat.Cp Go.Proofs.YtccenpmaooailaaGreat.Cd Go.Proofs.YtccenpmaooailaaGreat.Ci Go.Proofs.YtccenpmaooailaaGreat.Ce Go.Proofs.YtccenpmaooailaaGreat.Cf Go.Proofs.YtccenpmaooailaaGreat.Cg Go.Proofs.YtccenpmaooailaaGreat.Sc Go.Proofs.YtccenpmaooailaaGreat.Se Go.Proofs.YtccenpmaooailaaGreat.Sh Go.Proofs.YtccenpmaooailaaGreat.Si Go.Proofs.YtccenpmaooailaaGreat.Sp Go.Proofs.YtccenpmaooailaaGreat.Ia Go.Proofs.YtccenpmaooailaaGreat.Ib Go.Proofs.YtccenpmaooailaaGreat.Ic Go.Proofs.YtccenpmaooailaaGreat.Id Go.Proofs.YtccenpmaooailaaGreat.Ie Go.Proofs.YtccenpmaooailaaGreat.If Go.Proofs.YtccenpmaooailaaGreat.Ig Go.Proofs.YtccenpmaooailaaGreat.Ih Go.Proofs.YtccenpmaooailaaGreat.Ij Go.Proofs.YtccenpmaooailaaGreat.Ik Go.Proofs.YtccenpmaooailaaGreat.Ra Go.Proofs.YtccenpmaooailaaGreat.Rb Go.Proofs.YtccenpmaooailaaGreat.Rc Go.Proofs.YtccenpmaooailaaGreat.Rd Go.Proofs.YtccenpmaooailaaGreat.Re Go.Proofs.YtccenpmaooailaaGreat.Sj Go.Proofs.YtccenpmaooailaaGreat.Ya Go.Proofs.YtccenpmaooailaaGreat.Yd Go.Proofs.YtccenpmaooailaaGreat.Yf Go.Proofs.YtccenpmaooailaaGreat.Yg Go.Proofs.YtccenpmaooailaaGreat.Ih Go.Proofs.YtccenpmaooailaaGreat.Yh Go.Proofs.YtccenpmaooailaaGreat.Yi Go.Proofs.YtccenpmaooailaaGreat.Sg Go.Proofs.YtccenpmaooailaaGreat.Sf Go.Proofs.YtccenpmaooailaaGreat.Yj Go.Proofs.YtccenpmaooailaaGreat.Ig Go.Proofs.YtccenpmaooailaaGreat.Yk Go.Proofs.YtccenpmaooailaaGreat.Ik Go.Proofs.YtccenpmaooailaaGreat.Yl Go.Proofs.YtccenpmaooailaaGreat.Ij Go.Proofs.YtccenpmaooailaaGreat.Ym Go.Proofs.YtccenpmaooailaaGreat.Il Go.Proofs.YtccenpmaooailaaGreat.Yn Go.Proofs.YtccenpmaooailaaGreat.Yo Go.Proofs.YtccenpmaooailaaGreat.In Go.Proofs.YtccenpmaooailaaGreat.Yq Go.Proofs.YtccenpmaooailaaGreat.Pw Go.Proofs.YtccenpmaooailaaGreat.Px Go.Proofs.YtccenpmaooailaaGreat.La Go.Proofs.YtccenpmaooailaaGreat.Db Go.Proofs.YtccenpmaooailaaGreat.Sa Go.Proofs.YtccenpmaooailaaGreat.Sb Go.Proofs.YtccenpmaooailaaGreat.Sc Go.Proofs.YtccenpmaooailaaGreat.Sd Go.Proofs.YtccenpmaooailaaGreat.Sh Go.Proofs.YtccenpmaooailaaGreat.Sk Go.Proofs.YtccenpmaooailaaGreat.Sl Go.Proofs.YtccenpmaooailaaGreat.Sm Go.Proofs.YtccenpmaooailaaGreat.Da Go.Proofs.YtccenpmaooailaaGreat.Id
theorem _root_.Go.Proofs.YtccenpmaooailaaGreat.Da.PairMem.setS {w0 w w1 : World} {g P : Nat} {bs : List Int} {v0 v1 : Value} {l r : List Occ} {cells : Array Value} (h : PairMem w0 w w1 g bs v0 v1 l r) (hb : w1.heap[P]? = some (.cells cells 25 (0, 0))) (hP : w.heap.size ≤ P) (hgw : g < w.heap.size) (j : Nat) (u : Value) : PairMem w0 w (w1.setCell ⟨P, j, none⟩ u) g bs v0 v1 l r := by
  obtain ⟨p, hp, hr⟩ := h.rd
  exact ⟨Dw.set h.r0 hb (by decide) j u, Dw.set h.r1 hb (by decide) j u, ⟨p, hp, rd_far hr (by have := hr.base; omega) (by omega) _ _⟩, grown_set (n := j) h.gr hP, h.len0, h.len1, h.ids0, h.ids1⟩
set_option maxHeartbeats 2000000 in
set_option maxRecDepth 100000 in
theorem span_any (w0 : World) (g : Nat) (bs : List Int) (p : Nat) (w : World) (h : Rd w0 w g bs p) (hp : p ≤ 800) :
    Calls Tryz.prog 40 #[.pointer (some ⟨g, 0, none⟩)] w fun e w' => PairOut w0 w w' g bs e := by
  have hgw := rd_lt h
  have hw0 := h.base
  go_enter Tryz.func40, Tryz.ntmps40
  go_upto_region 1 with fail
  have bR0 := blk_new w (.cells #[.slice none 0 0, .slice none 0 0] 25)
  have HG0 := Aside0.mk (grown_alloc (w := w) (.cells #[.slice none 0 0, .slice none 0 0] 25) (some g))
  have HR0 := Aside0.mk (h.grown (below_alloc (Below.refl _ _) (.cells #[.slice none 0 0, .slice none 0 0] 25)))
  generalize hW : w.alloc (.cells #[.slice none 0 0, .slice none 0 0] 25) = W1 at bR0 HG0 HR0 ⊢
  clear hW
  have hs1 := HG0.out.size
  have hgne : ∀ {v : Value} {l : List Occ} {W : World}, Dw w0 W w.heap.size v l → w.heap.size ≠ g := fun _ => by omega
  go_upto_region 2 with (first
    | (go_at_call 78; refine (some_any w0 g bs q1 2 _ HR1.out (by omega) (by omega)).mono ?_; rintro e w2 ⟨v1, r, rfl, hl2, ⟨ho2, ⟨q2, hq2, hr2⟩, hg2, hk2⟩⟩; obtain ⟨A1, c1, rfl⟩ := Kd.R_slice ho2; have HV0 := Aside0.mk (own_step HO1.out hg2 hgw); have HV1 := Aside0.mk (Kd.R_lower ho2 HG1.out.size); have HR2 := Aside0.mk hr2; have HG2 := Aside0.mk (grown_two HG1.out hg2); have HK2 := Aside0.mk hk2; have bR2 := blk_grown bR1 hg2 (by simp; omega); clear ho2 hr2 hg2 hk2)
    | (go_at_call 78; refine (some_any w0 g bs p 4 _ HR0.out (by omega) (by omega)).mono ?_; rintro e w1 ⟨v0, l, rfl, hl1, ⟨ho1, ⟨q1, hq1, hr1⟩, hg1, hk1⟩⟩; obtain ⟨A0, c0, rfl⟩ := Kd.R_slice ho1; have HO1 := Aside0.mk (Kd.R_lower ho1 hs1); have HR1 := Aside0.mk hr1; have HG1 := Aside0.mk (grown_two HG0.out hg1); have HK1 := Aside0.mk hk1; have bR1 := blk_grown bR0 hg1 (by simp; omega); clear ho1 hr1 hg1 hk1))
  have bP := blk_new w2 (.cells #[.slice A0 l.length c0, .slice A1 r.length c1] 25)
  have hb3 := below_alloc (Below.refl w2.heap.size w2) (.cells #[.slice A0 l.length c0, .slice A1 r.length c1] 25)
  have hPw : w.heap.size ≤ w2.heap.size := HG2.out.size
  have HM3 : Aside0 (PairMem w0 w (w2.alloc (.cells #[.slice A0 l.length c0, .slice A1 r.length c1] 25)) g bs (.slice A0 l.length c0) (.slice A1 r.length c1) l r) :=
    ⟨⟨Kd.R_below HV0.out hb3, Kd.R_below HV1.out hb3, ⟨q2, by omega, HR2.out.grown hb3⟩, World.grownBy.trans HG2.out (grown_of_below hb3 _), by omega, by omega, fun x hx => Sl.isOk_24 (HK1.out.all x hx), fun x hx => Sl.isOk_24 (HK2.out.all x hx)⟩⟩
  have HR3 := Aside0.mk (HR2.out.grown hb3)
  have bR3 := blk_below bR2 hb3
  have hPs := blk_lt bP
  have hPne : w2.heap.size ≠ w.heap.size := fun h => by have := blk_lt bR2; omega
  generalize w2.alloc (.cells #[.slice A0 l.length c0, .slice A1 r.length c1] 25) = W3 at bP HM3 HR3 bR3 hPs ⊢
  generalize w2.heap.size = P at bP hPw hPs hPne ⊢
  clear hb3 HV0 HV1 HR2 HG2 HK1 HK2 bR2 HO1 HR1 HG1 bR1 bR0 HG0 HR0
  go_wp2_with (first
    | (go_at_call 69; refine (bent_any w0 g bs (q2 + 1) _ HR4.out (by omega)).mono ?_; rintro e w5 ⟨v5, l5, rfl, hm5⟩; obtain ⟨A5, c5, rfl⟩ := Kd.R_slice hm5.own; have hr5 := hm5.rd; have HM5 := Aside0.mk (HM4.out.grow hm5.gr hgw (by { obtain ⟨q5, hq5, hr5⟩ := hr5; exact ⟨q5, by omega, hr5⟩ })); have HB5 := Aside0.mk (show Dw w0 w5 w.heap.size (.slice A5 l5.length c5) l5 from Kd.R_lower hm5.own HM4.out.gr.size); have hl5 := hm5.len; have HI5 := Aside0.mk hm5.ids; have bP5 := blk_grown bP4 hm5.gr (by { simp; omega }); have bR5 := blk_grown bR4 hm5.gr (by { simp; omega }); have z0 := (blk_cell bP5 0).trans rfl; have z1 := (blk_cell bP5 1).trans rfl; have y0 := blk_frozen bP5 1; have u0 := (blk_cell bR5 0).trans rfl; have u1 := (blk_cell bR5 1).trans rfl; have o0 := blk_frozen bR5 0; have o1 := blk_frozen bR5 1; clear hm5 hr5)
    | (go_at_call 41; refine (pick_any w0 g bs q2 16 _ HR3.out (by omega) (by omega)).mono ?_; rintro e w4 ⟨x, rfl, _, hr4, hg4⟩; have HM4 := Aside0.mk (HM3.out.grow hg4 hgw ⟨q2 + 1, by omega, hr4⟩); have HR4 := Aside0.mk hr4; have bP4 := blk_grown bP hg4 (by { simp; omega }); have bR4 := blk_grown bR3 hg4 (by { simp; omega }); have z0 := (blk_cell bP4 0).trans rfl; have z1 := (blk_cell bP4 1).trans rfl; have y0 := blk_frozen bP4 0; have u0 := (blk_cell bR4 0).trans rfl; have u1 := (blk_cell bR4 1).trans rfl; have o0 := blk_frozen bR4 0; have o1 := blk_frozen bR4 1; clear hr4 hg4; obtain hx0 | hx0 : (x == 0) = true ∨ (x == 0) = false := by cases (x == 0) <;> simp))
  · have hA : PairMem w0 w w5 g bs (.slice A0 l.length c0) (.slice A5 l5.length c5) l l5 := ⟨HM5.out.r0, HB5.out, HM5.out.rd, HM5.out.gr, HM5.out.len0, hl5, HM5.out.ids0, HI5.out⟩
    have hB := hA.setS bP5 hPw hgw 1 (.slice A5 l5.length c5)
    have bR6 := (Below.heap_setCell w5 ⟨P, 1, none⟩ (.slice A5 l5.length c5) w.heap.size (by show w.heap.size ≠ P; omega)).trans bR5
    have hC := (hB.setS bR6 (Nat.le_refl _) hgw 0 (.slice A0 l.length c0)).setS (blk_set bR6 0 _) (Nat.le_refl _) hgw 1 (.slice A5 l5.length c5)
    refine bodyPost_ret (results_cell_row rfl _ _ w.heap.size 25 #[.slice A0 l.length c0, .slice A5 l5.length c5] (0, 0) _ rfl (Id.set2_blk _ _ bR6) Tryz.underlying25 rfl (by kernel_rfl)) rfl ?_
    exact ⟨_, _, l, l5, rfl, hC⟩
  · have hC := (HM4.out.setS bR4 (Nat.le_refl _) hgw 0 (.slice A0 l.length c0)).setS (blk_set bR4 0 _) (Nat.le_refl _) hgw 1 (.slice A1 r.length c1)
    refine bodyPost_ret (results_cell_row rfl _ _ w.heap.size 25 #[.slice A0 l.length c0, .slice A1 r.length c1] (0, 0) _ rfl (Id.set2_blk _ _ bR4) Tryz.underlying25 rfl (by kernel_rfl)) rfl ?_
    exact ⟨_, _, l, r, rfl, hC⟩
end Go.Proofs.YtccenpmaooailaaGreat.Tf
