
import Derived.Test.YtjeojdbfpncnkaaGreatB2
import Derived.Test.YtjeojdbfpncnkaaGreatB4
import Derived.Test.YtjeojdbfpncnkaaGreatB3
import Derived.OwnWalk
/- What is drawn for pairs: the reference's. -/
set_option linter.unusedVariables false
set_option linter.unusedSimpArgs false
namespace Go.Proofs.YtjeojdbfpncnkaaGreat.Da
open Go.RowKit Go.Proofs.YtjeojdbfpncnkaaGreatW.PrintWords Go.Proofs.YtjeojdbfpncnkaaGreat.Wd Go.Proofs.YtjeojdbfpncnkaaGreat.Pu Go.Proofs.YtjeojdbfpncnkaaGreat.Ca Go.Proofs.YtjeojdbfpncnkaaGreat.Cg Go.Proofs.YtjeojdbfpncnkaaGreat.Cf Go.Proofs.YtjeojdbfpncnkaaGreat.Ce Go.Proofs.YtjeojdbfpncnkaaGreat.Cp Go.Proofs.YtjeojdbfpncnkaaGreat.Sa Go.Proofs.YtjeojdbfpncnkaaGreat.Sb Go.Proofs.YtjeojdbfpncnkaaGreat.Sc Go.Proofs.YtjeojdbfpncnkaaGreat.Sh Go.Proofs.YtjeojdbfpncnkaaGreat.Si Go.Proofs.YtjeojdbfpncnkaaGreat.Sj Go.Proofs.YtjeojdbfpncnkaaGreat.Sk Go.Proofs.YtjeojdbfpncnkaaGreat.Sl Go.Proofs.YtjeojdbfpncnkaaGreat.Sm Go.Proofs.YtjeojdbfpncnkaaGreat.Rb Go.Proofs.YtjeojdbfpncnkaaGreat.Id

/-- a drawn list: its row, what lies in it came in or was made -/
abbrev Dw (w0 w : World) (base : Nat) (v : Value) (l : List Occ) : Prop := (kX w0).R 38 w base (fun _ => True) v l
theorem Dw.isL {w0 w : World} {base : Nat} {A : Option Addr} {n c : Nat} {l : List Occ} (hb : Below w0.heap.size w0 w) (h : Dw w0 w base (.slice A n c) l) : IsL w l A c := by
  have hq := Kd.R_reads' h
  exact ⟨by have := hq.2.1; have := hq.1; omega, X_O hb hq.2.2⟩
theorem Dw.set {w0 w : World} {base P : Nat} {u : Value} {l : List Occ} {cells : Array Value} {t : TypeId} (h : Dw w0 w base u l) (b : w.heap[P]? = some (.cells cells t (0, 0))) (ht : ∀ q, q ∈ 38 :: kO.E → q ≠ t) (j : Nat) (x : Value) : Dw w0 (w.setCell ⟨P, j, none⟩ x) base u l := Kd.R_set h b ht j x
theorem grown_two {w1 w2 w3 : World} {g : Nat} (h : w1.grownBy w2 (some g)) (k : w2.grownBy w3 (some g)) : w1.grownBy w3 (some g) := grown_new h k (fun j hj => .inr hj.symm)
theorem lits_C {w : World} {B : Nat} {e : TypeId} {xs : List Int} (hB : w.heap[B]? = some (.cells (xs.map (Value.int .i64)).toArray e (0, 0))) (hl : xs.length ≤ 1000 := by decide) : (Kd.int .i64).C w (some ⟨B, 0, none⟩) xs.length xs := (Kd.R_reads' (R_lits (base := 0) hB (Nat.zero_le _) hl)).2.2
def DrawOut (w0 w w' : World) (g : Nat) (bs : List Int) (p : Nat) (e : Ending) : Prop := ∃ x : Int, e = .returned (.int .i64 x) ∧ Rd w0 w' g bs (p + 1) ∧ w.grownBy w' (some g)
set_option maxHeartbeats 1000000 in
set_option maxRecDepth 100000 in
theorem draw_any (w0 : World) (g : Nat) (bs : List Int) (p : Nat) (w : World) (h : Rd w0 w g bs p) (hp : p < 100000) :
    Calls Tryz.prog 34 #[.pointer (some ⟨g, 0, none⟩)] w fun e w' => DrawOut w0 w w' g bs p e := by
  have hgw := rd_lt h
  go_enter Tryz.func34, Tryz.ntmps34
  go_wp2_with (go_at_call 64; refine (num_any w0 g bs p (some ⟨w.heap.size, 0, none⟩) 17 [0, 1, 2, 3, 4, 0, 1, 2, 3, 4, 0, 1, 2, 3, 4, -1, 5] _ (h.grown (below_alloc (Below.refl _ _) _)) hp (by decide) (by decide) (fun w' hg => lits_C (blk_grown (blk_new w _) hg (by simp; omega)))).mono ?_; rintro e w1 ⟨x, rfl, _, hr, hg⟩; have HR := Aside0.mk hr; have HG := Aside0.mk (World.grownBy.trans (grown_alloc _ (some g)) hg); clear hr hg)
  go_ret
  exact ⟨x, rfl, HR.out, HG.out⟩
structure PairMem (w0 w w' : World) (g : Nat) (bs : List Int) (v0 v1 : Value) (l r : List Occ) : Prop where
  r0 : Dw w0 w' w.heap.size v0 l
  r1 : Dw w0 w' w.heap.size v1 r
  rd : ∃ p, p ≤ 3000 ∧ Rd w0 w' g bs p
  gr : w.grownBy w' (some g)
  len0 : l.length ≤ 7
  len1 : r.length ≤ 7
  ids0 : ∀ x ∈ l, x.f2.length ≤ 24
  ids1 : ∀ x ∈ r, x.f2.length ≤ 24
theorem PairMem.grow {w0 w w1 w2 : World} {g : Nat} {bs : List Int} {v0 v1 : Value} {l r : List Occ} (h : PairMem w0 w w1 g bs v0 v1 l r) (hg : w1.grownBy w2 (some g)) (hgw : g < w.heap.size) (hr : ∃ p, p ≤ 3000 ∧ Rd w0 w2 g bs p) : PairMem w0 w w2 g bs v0 v1 l r :=
  ⟨own_step h.r0 hg hgw, own_step h.r1 hg hgw, hr, grown_two h.gr hg, h.len0, h.len1, h.ids0, h.ids1⟩
theorem PairMem.set {w0 w w1 : World} {g P : Nat} {bs : List Int} {v0 v1 : Value} {l r : List Occ} {cells : Array Value} (h : PairMem w0 w w1 g bs v0 v1 l r) (hb : w1.heap[P]? = some (.cells cells 25 (0, 0))) (hP : w.heap.size ≤ P) (hgw : g < w.heap.size) (j : Nat) (u : Value) : PairMem w0 w (w1.setCell ⟨P, j, none⟩ u) g bs v0 v1 l r := by
  obtain ⟨p, hp, hr⟩ := h.rd
  exact ⟨Dw.set h.r0 hb (by decide) j u, Dw.set h.r1 hb (by decide) j u, ⟨p, hp, rd_far hr (by have := hr.base; omega) (by omega) _ _⟩, grown_set (n := j) h.gr hP, h.len0, h.len1, h.ids0, h.ids1⟩
def PairOut (w0 w w' : World) (g : Nat) (bs : List Int) (e : Ending) : Prop := ∃ v0 v1 l r, e = .returned (.agg #[v0, v1]) ∧ PairMem w0 w w' g bs v0 v1 l r
set_option maxHeartbeats 2000000 in
set_option maxRecDepth 100000 in
theorem pair_any (w0 : World) (g : Nat) (bs : List Int) (p : Nat) (w : World) (h : Rd w0 w g bs p) (hp : p ≤ 800) :
    Calls Tryz.prog 35 #[.pointer (some ⟨g, 0, none⟩)] w fun e w' => PairOut w0 w w' g bs e := by
  have hgw := rd_lt h
  have hw0 := h.base
  go_enter Tryz.func35, Tryz.ntmps35
  go_upto_region 1 with fail
  have bR0 := blk_new w (.cells #[.slice none 0 0, .slice none 0 0] 25)
  have HG0 := Aside0.mk (grown_alloc (w := w) (.cells #[.slice none 0 0, .slice none 0 0] 25) (some g))
  have HR0 := Aside0.mk (h.grown (below_alloc (Below.refl _ _) (.cells #[.slice none 0 0, .slice none 0 0] 25)))
  generalize hW : w.alloc (.cells #[.slice none 0 0, .slice none 0 0] 25) = W1 at bR0 HG0 HR0 ⊢
  clear hW
  have hs1 := HG0.out.size
  have hgne : ∀ {v : Value} {l : List Occ} {W : World}, Dw w0 W w.heap.size v l → w.heap.size ≠ g := fun _ => by omega
  go_upto_region 2 with (first
    | (go_at_call 65; refine (some_any w0 g bs q1 4 _ HR1.out (by omega) (by omega)).mono ?_; rintro e w2 ⟨v1, r, rfl, hl2, ⟨ho2, ⟨q2, hq2, hr2⟩, hg2, hk2⟩⟩; obtain ⟨A1, c1, rfl⟩ := Kd.R_slice ho2; have HV0 := Aside0.mk (own_step HO1.out hg2 hgw); have HV1 := Aside0.mk (Kd.R_lower ho2 HG1.out.size); have HR2 := Aside0.mk hr2; have HG2 := Aside0.mk (grown_two HG1.out hg2); have HK2 := Aside0.mk hk2; have bR2 := blk_grown bR1 hg2 (by simp; omega); clear ho2 hr2 hg2 hk2)
    | (go_at_call 65; refine (some_any w0 g bs p 4 _ HR0.out (by omega) (by omega)).mono ?_; rintro e w1 ⟨v0, l, rfl, hl1, ⟨ho1, ⟨q1, hq1, hr1⟩, hg1, hk1⟩⟩; obtain ⟨A0, c0, rfl⟩ := Kd.R_slice ho1; have HO1 := Aside0.mk (Kd.R_lower ho1 hs1); have HR1 := Aside0.mk hr1; have HG1 := Aside0.mk (grown_two HG0.out hg1); have HK1 := Aside0.mk hk1; have bR1 := blk_grown bR0 hg1 (by simp; omega); clear ho1 hr1 hg1 hk1))
  have bP := blk_new w2 (.cells #[.slice A0 l.length c0, .slice A1 r.length c1] 25)
  have hb3 := below_alloc (Below.refl w2.heap.size w2) (.cells #[.slice A0 l.length c0, .slice A1 r.length c1] 25)
  have hPw : w.heap.size ≤ w2.heap.size := HG2.out.size
  have HM3 : Aside0 (PairMem w0 w (w2.alloc (.cells #[.slice A0 l.length c0, .slice A1 r.length c1] 25)) g bs (.slice A0 l.length c0) (.slice A1 r.length c1) l r) :=
    ⟨⟨Kd.R_below HV0.out hb3, Kd.R_below HV1.out hb3, ⟨q2, by omega, HR2.out.grown hb3⟩, World.grownBy.trans HG2.out (grown_of_below hb3 _), by omega, by omega, fun x hx => isOk_24 (HK1.out.all x hx), fun x hx => isOk_24 (HK2.out.all x hx)⟩⟩
  have HR3 := Aside0.mk (HR2.out.grown hb3)
  have bR3 := blk_below bR2 hb3
  have hPs := blk_lt bP
  have hPne : w2.heap.size ≠ w.heap.size := fun h => by have := blk_lt bR2; omega
  generalize w2.alloc (.cells #[.slice A0 l.length c0, .slice A1 r.length c1] 25) = W3 at bP HM3 HR3 bR3 hPs ⊢
  generalize w2.heap.size = P at bP hPw hPs hPne ⊢
  clear hb3 HV0 HV1 HR2 HG2 HK1 HK2 bR2 HO1 HR1 HG1 bR1 bR0 HG0 HR0
  go_wp2_with (first
    | (go_at_call 54; refine (bent_any w0 g bs (q2 + 1) _ HR4.out (by omega)).mono ?_; rintro e w5 ⟨v5, l5, rfl, hm5⟩; obtain ⟨A5, c5, rfl⟩ := Kd.R_slice hm5.own; have hr5 := hm5.rd; have HM5 := Aside0.mk (HM4.out.grow hm5.gr hgw (by { obtain ⟨q5, hq5, hr5⟩ := hr5; exact ⟨q5, by omega, hr5⟩ })); have HB5 := Aside0.mk (show Dw w0 w5 w.heap.size (.slice A5 l5.length c5) l5 from Kd.R_lower hm5.own HM4.out.gr.size); have hl5 := hm5.len; have HI5 := Aside0.mk hm5.ids; have bP5 := blk_grown bP4 hm5.gr (by { simp; omega }); have bR5 := blk_grown bR4 hm5.gr (by { simp; omega }); have z0 := (blk_cell bP5 0).trans rfl; have z1 := (blk_cell bP5 1).trans rfl; have y0 := blk_frozen bP5 0; have u0 := (blk_cell bR5 0).trans rfl; have u1 := (blk_cell bR5 1).trans rfl; have o0 := blk_frozen bR5 0; have o1 := blk_frozen bR5 1; clear hm5 hr5)
    | (go_at_call 36; refine (pick_any w0 g bs q2 16 _ HR3.out (by omega) (by omega)).mono ?_; rintro e w4 ⟨x, rfl, _, hr4, hg4⟩; have HM4 := Aside0.mk (HM3.out.grow hg4 hgw ⟨q2 + 1, by omega, hr4⟩); have HR4 := Aside0.mk hr4; have bP4 := blk_grown bP hg4 (by { simp; omega }); have bR4 := blk_grown bR3 hg4 (by { simp; omega }); have z0 := (blk_cell bP4 0).trans rfl; have z1 := (blk_cell bP4 1).trans rfl; have y0 := blk_frozen bP4 0; have u0 := (blk_cell bR4 0).trans rfl; have u1 := (blk_cell bR4 1).trans rfl; have o0 := blk_frozen bR4 0; have o1 := blk_frozen bR4 1; clear hr4 hg4; obtain hx0 | hx0 : (x == 0) = true ∨ (x == 0) = false := by cases (x == 0) <;> simp))
  · have hA : PairMem w0 w w5 g bs (.slice A5 l5.length c5) (.slice A1 r.length c1) l5 r := ⟨HB5.out, HM5.out.r1, HM5.out.rd, HM5.out.gr, hl5, HM5.out.len1, HI5.out, HM5.out.ids1⟩
    have hB := hA.set bP5 hPw hgw 0 (.slice A5 l5.length c5)
    have bR6 := (Below.heap_setCell w5 ⟨P, 0, none⟩ (.slice A5 l5.length c5) w.heap.size (by show w.heap.size ≠ P; omega)).trans bR5
    have hC := (hB.set bR6 (Nat.le_refl _) hgw 0 (.slice A5 l5.length c5)).set (blk_set bR6 0 _) (Nat.le_refl _) hgw 1 (.slice A1 r.length c1)
    refine bodyPost_ret (results_cell_row rfl _ _ w.heap.size 25 #[.slice A5 l5.length c5, .slice A1 r.length c1] (0, 0) _ rfl (Id.set2_blk _ _ bR6) Tryz.underlying25 rfl (by kernel_rfl)) rfl ?_
    exact ⟨_, _, l5, r, rfl, hC⟩
  · have hC := (HM4.out.set bR4 (Nat.le_refl _) hgw 0 (.slice A0 l.length c0)).set (blk_set bR4 0 _) (Nat.le_refl _) hgw 1 (.slice A1 r.length c1)
    refine bodyPost_ret (results_cell_row rfl _ _ w.heap.size 25 #[.slice A0 l.length c0, .slice A1 r.length c1] (0, 0) _ rfl (Id.set2_blk _ _ bR4) Tryz.underlying25 rfl (by kernel_rfl)) rfl ?_
    exact ⟨_, _, l, r, rfl, hC⟩
structure NowMem (w0 w wr : World) (g : Nat) (bs : List Int) (q : Nat) (v : Value) (l : List Occ) : Prop where
  own : Dw w0 wr w.heap.size v l
  rd : ∃ p, p ≤ q ∧ Rd w0 wr g bs p
  gr : w.grownBy wr (some g)
  srt : Sorted l
def NowOut (w0 w w' : World) (g : Nat) (bs : List Int) (q : Nat) (e : Ending) : Prop := ∃ (v : Value) (l : List Occ), e = .returned v ∧ l.length ≤ 2 ∧ NowMem w0 w w' g bs q v l
set_option maxHeartbeats 2000000 in
set_option maxRecDepth 100000 in
theorem now_any (w0 : World) (g : Nat) (bs : List Int) (p : Nat) (at_ : Int) (w : World) (h : Rd w0 w g bs p) (hp : p < 50000) :
    Calls Tryz.prog 37 #[.pointer (some ⟨g, 0, none⟩), .int .i64 at_] w fun e w' => NowOut w0 w w' g bs (p + 21) e := by
  have hgw := rd_lt h
  have hw0 := h.base
  go_enter Tryz.func37, Tryz.ntmps37
  go_wp2_with (go_at_call 36; refine (pick_any w0 g bs p 3 _ (h.grown (below_alloc (Below.refl _ _) _)) (by omega) (by omega)).mono ?_; rintro e w1 ⟨x, rfl, hx, hr, hg⟩; have hx0 := hx.1; have hx1 := hx.2.1 (by omega); have bE := blk_grown (blk_new w (.cells #[] 38)) hg (by simp; omega); have HM : Aside0 (NowMem w0 w w1 g bs (p + 1) (.slice (some ⟨w.heap.size, 0, none⟩) 0 0) []) := ⟨⟨R_empty (kX w0) bE (Nat.le_refl _), ⟨p + 1, Nat.le_refl _, hr⟩, World.grownBy.trans (grown_alloc _ _) hg, List.Pairwise.nil⟩⟩; clear hx hr hg bE)
  obtain ⟨n, hn⟩ : ∃ n : Nat, (n : Int) = x := ⟨x.toNat, by omega⟩
  have hnm : n ≤ 2 := by omega
  subst hn
  clear hx0 hx1
  go_loopw [5, 6] (fun v5 v6 wr => ∃ (v : Value) (m : Nat) (l : List Occ), v = v5 ∧ v6 = .int .i64 m ∧ m ≤ n ∧ l.length ≤ n - m ∧ Aside0 (NowMem w0 w wr g bs (p + 1 + 10 * (n - m)) v l)) (fun _ v6 _ => (intOf v6).toNat)
  case atStart => exact ⟨_, n, [], rfl, rfl, Nat.le_refl _, by simp, by simpa using HM⟩
  case round =>
    obtain ⟨v, m, l, rfl, rfl, hmn, hlm, HS⟩ := hrel
    by_cases h0 : m = 0
    · subst h0
      have HP := Aside0.mk (show NowOut w0 w _ g bs (p + 21) (.returned v) from ⟨v, l, rfl, by omega, ⟨HS.out.own, by obtain ⟨q, hq, hr⟩ := HS.out.rd; exact ⟨q, by omega, hr⟩, HS.out.gr, HS.out.srt⟩⟩)
      go_wp2
      go_ret
      exact HP.out
    · have hm0b : decide (0 < m) = true := by rw [decide_eq_true_eq]; omega
      have hm0 : decide ((m : Int) > 0) = true := by rw [decide_eq_true_eq]; omega
      have hm1 : (0 : Int) < m := by omega
      obtain ⟨q, hq, hrd⟩ := HS.out.rd
      have HRD := Aside0.mk hrd
      clear hrd
      go_wp2_with (first
        | (go_at_call 68; refine (sPut_any w0 w.heap.size (fun _ => True) v l A2 c2 ⟨min o.f0 at_, at_, o.f2⟩ _ (below_then HR2.out.below HR2.out.below.size (HBX.out _ _)) HS.out.srt (by omega) (Kd.R_below HO2.out (HBX.out _ _)) (IsO.below HI2.out (HBX.out _ _)) HL2.out (Nat.le_trans HG2.out.size (HBX.out _ _).size) (fun _ _ => trivial)).mono ?_; rintro e w3 ⟨v3, rfl, hr3, hg3, hat3⟩; have hb3 : ∀ j, v.ownBlock = some j → w.heap.size ≤ j := Kd.R_base HO2.out; have HM3 : Aside0 (NowMem w0 w w3 g bs (q + 10) v3 (put l ⟨min o.f0 at_, at_, o.f2⟩)) := ⟨⟨hr3, by { obtain ⟨q2, hq2, hr2⟩ := HQ2.out; exact ⟨q2, hq2, rd_keep (hr2.grown (HBX.out _ _)) hg3 (fun j hj => by have := hb3 j hj; omega)⟩ }, grown_new (World.grownBy.trans HG2.out (grown_of_below (HBX.out _ _) _)) hg3 (fun j hj => .inl (hb3 j hj)), sorted_put HS.out.srt⟩⟩; have hlp := len_put l ⟨min o.f0 at_, at_, o.f2⟩; clear hr3 hg3 hat3)
        | (go_at_call 67; refine (min_any o.f0 at_ _).mono ?_; rintro e w' ⟨rfl, rfl⟩)
        | (go_at_call 66; refine (any_any w0 g bs q _ HRD.out (by omega)).mono ?_; rintro e w2 ⟨o, v2, rfl, hk2, ho2, hq2, hg2⟩; obtain ⟨A2, c2, rfl⟩ := Kd.R_slice ho2; have HL2 := Aside0.mk (isOk_len hk2); have HQ2 := Aside0.mk hq2; have HR2 : Aside0 (∃ q2, Rd w0 w2 g bs q2) := ⟨by { obtain ⟨q2, _, hr2⟩ := hq2; exact ⟨q2, hr2⟩ }⟩; obtain ⟨q3, hr3⟩ := HR2.out; have HR2 := Aside0.mk hr3; have HI2 : Aside0 (IsO w2 ⟨min o.f0 at_, at_, o.f2⟩ A2 c2) := ⟨⟨(Kd.R_reads' ho2).2.1, (Kd.R_reads' ho2).2.2⟩⟩; have HO2 := Aside0.mk (own_step HS.out.own hg2 hgw); have HG2 := Aside0.mk (grown_new HS.out.gr hg2 (fun j hj => .inr hj.symm)); have HBX : Aside0 (∀ cs : Array Value, ∀ t, Below w2.heap.size w2 (w2.alloc (.cells cs t))) := ⟨fun cs t => below_alloc (Below.refl _ _) _⟩; clear hk2 ho2 hq2 hg2 hr3))
      go_roundw
      case rel => exact ⟨_, m - 1, put l ⟨min o.f0 at_, at_, o.f2⟩, rfl, by go_num, by omega, by omega, ⟨⟨HM3.out.own, by obtain ⟨q2, hq2, hr2⟩ := HM3.out.rd; exact ⟨q2, by omega, hr2⟩, HM3.out.gr, HM3.out.srt⟩⟩⟩
      case measure => simp [intOf]; omega
end Go.Proofs.YtjeojdbfpncnkaaGreat.Da

/- What is drawn for pairs and sequences: the reference's. -/
set_option linter.unusedVariables false
set_option linter.unusedSimpArgs false
namespace Go.Proofs.YtjeojdbfpncnkaaGreat.Db
open Go.RowKit Go.Proofs.YtjeojdbfpncnkaaGreatW.PrintWords Go.Proofs.YtjeojdbfpncnkaaGreat.Wd Go.Proofs.YtjeojdbfpncnkaaGreat.Pu Go.Proofs.YtjeojdbfpncnkaaGreat.Ca Go.Proofs.YtjeojdbfpncnkaaGreat.Cg Go.Proofs.YtjeojdbfpncnkaaGreat.Cf Go.Proofs.YtjeojdbfpncnkaaGreat.Ce Go.Proofs.YtjeojdbfpncnkaaGreat.Cp Go.Proofs.YtjeojdbfpncnkaaGreat.Sa Go.Proofs.YtjeojdbfpncnkaaGreat.Sb Go.Proofs.YtjeojdbfpncnkaaGreat.Sc Go.Proofs.YtjeojdbfpncnkaaGreat.Sh Go.Proofs.YtjeojdbfpncnkaaGreat.Si Go.Proofs.YtjeojdbfpncnkaaGreat.Sj Go.Proofs.YtjeojdbfpncnkaaGreat.Sk Go.Proofs.YtjeojdbfpncnkaaGreat.Sl Go.Proofs.YtjeojdbfpncnkaaGreat.Sm Go.Proofs.YtjeojdbfpncnkaaGreat.Rb Go.Proofs.YtjeojdbfpncnkaaGreat.Id Go.Proofs.YtjeojdbfpncnkaaGreat.Da

theorem results_tctt {P : Program} {fn : Func} {p u v x : Tmp} {ty : TypeId} (h : fn.results = #[.tmp x, .cell p ty, .tmp u, .tmp v]) (tmps : Array Value) (w : World) (g : Nat) (t : TypeId) (cs : Array Value) (fr : Nat × Nat) (d : TypeDesc)
    (hp : tmps.getD p undef = .pointer (some ⟨g, 0, none⟩)) (hg : w.heap[g]? = some (.cells cs t fr))
    (hu : P.underlying ty = some d) (hd : (match d with | .struct _ | .array _ _ => true | _ => false) = true) (hi : (P.info? ty).map (·.size) = some cs.size) :
    (results fn tmps).run P w = .ok (.tuple #[tmps.getD x undef, .agg cs, tmps.getD u undef, tmps.getD v undef]) w := by
  have hp' : tmps[p]?.getD undef = .pointer (some ⟨g, 0, none⟩) := by simpa using hp
  simp [results, h, hp', asAddr, run_loadVar_row w g t ty cs fr d hg hu hd hi]
/-- a mode, what waits, and what is found at one time -/
def DPOut (w w' : World) (e : Ending) : Prop := ∃ (mode : Int) (l r a b : List Occ) (A B C D : Option Addr) (ca cb cc cd : Nat), e = .returned (.tuple #[.int .i64 mode, .agg #[.slice A l.length ca, .slice B r.length cb], .slice C a.length cc, .slice D b.length cd]) ∧ IsL w' l A ca ∧ IsL w' r B cb ∧ IsL w' a C cc ∧ IsL w' b D cd ∧ Below w.heap.size w w'
structure PR (w0 w w' : World) (g : Nat) (v0 v1 : Value) (l r : List Occ) : Prop where
  r0 : Dw w0 w' w.heap.size v0 l
  r1 : Dw w0 w' w.heap.size v1 r
  gr : w.grownBy w' (some g)
theorem PR.grow {w0 w w1 w2 : World} {g : Nat} {v0 v1 : Value} {l r : List Occ} (h : PR w0 w w1 g v0 v1 l r) (hg : w1.grownBy w2 (some g)) (hgw : g < w.heap.size) : PR w0 w w2 g v0 v1 l r :=
  ⟨own_step h.r0 hg hgw, own_step h.r1 hg hgw, grown_two h.gr hg⟩
theorem dw_set {W1 w7 : World} {b G : Nat} {X : Option Addr} {cx : Nat} {x : List Occ} (h : Dw W1 w7 b (.slice X x.length cx) x) (hz : Below W1.heap.size W1 w7) (bG : w7.heap[G]? = some (.cells #[.slice none 0 0, .slice none 0 0] 25 (0, 0))) (A0 A1 : Option Addr) (n0 n1 c0 c1 : Nat) : IsL (Id.set2 w7 G (.slice A0 n0 c0) (.slice A1 n1 c1)) x X cx := by
  have h1 : IsL w7 x X cx := Dw.isL hz h
  have h2 := IsL.away (ni_two bG) (keep_set w7 G 0 (.slice A0 n0 c0)) h1
  exact IsL.away (ni_two (blk_put bG 0 (.slice A0 n0 c0) rfl)) (keep_set _ G 1 (.slice A1 n1 c1)) h2
set_option maxHeartbeats 2000000 in
set_option maxRecDepth 100000 in
theorem drawPairSeq_any (A : Option Addr) (c : Nat) (bs : List Int) (w : World) (hC : (Kd.int .u8).C w A bs.length bs) (hc : bs.length ≤ c) (hb : ∀ b ∈ bs, 0 ≤ b ∧ b ≤ 255) :
    Calls Tryz.prog 10 #[.slice A bs.length c] w fun e w' => DPOut w w' e := by
  have bR0 := blk_new w (.cells #[.slice none 0 0, .slice none 0 0] 25)
  have hb0 := below_alloc (Below.refl w.heap.size w) (.cells #[.slice none 0 0, .slice none 0 0] 25)
  go_enter Tryz.func10, Tryz.ntmps10
  go_upto_region 1 with fail
  generalize hW : w.alloc (.cells #[.slice none 0 0, .slice none 0 0] 25) = W1 at bR0 hb0 ⊢
  clear hW
  have hs1 := blk_lt bR0
  have HC := Aside0.mk (Kd.C_below hC hb0)
  have HBW := Aside0.mk hb0
  clear hC hb0
  go_upto_region 4 with (first
    | (go_at_call 35; refine (pair_any W1 g bs2 (0 + 1) _ HR2.out (by omega)).mono ?_; rintro e w3 ⟨v0, v1, l, r, rfl, hm3⟩; obtain ⟨A0, c0, rfl⟩ := Kd.R_slice hm3.r0; obtain ⟨A1, c1, rfl⟩ := Kd.R_slice hm3.r1; have HM3 := Aside0.mk hm3; have hgr3 := grown_two HG2.out hm3.gr; have HG3 := Aside0.mk hgr3; have bR3 := blk_grown bR1 hgr3 (by simp; omega); clear hm3 hgr3)
    | (go_at_call 34; refine (draw_any W1 g bs2 0 _ HR1.out (by omega)).mono ?_; rintro e w2 ⟨mode, rfl, hr2, hg2⟩; have HR2 := Aside0.mk hr2; have HG2 := Aside0.mk hg2; clear hr2 hg2)
    | (go_at_call 33; refine (open_any W1 A c bs _ (Below.refl _ _) HC.out hc hb).mono ?_; rintro e w1 ⟨g, rfl, ⟨bs2, hr⟩, hb1⟩; have HR1 := Aside0.mk hr; have bR1 := blk_below bR0 hb1; have hgW : W1.heap.size ≤ g := hr.base; have hglt := rd_lt hr; have HB1 := Aside0.mk hb1; clear hr hb1))
  have hgw : g < w2.heap.size := rd_lt HR2.out
  have bP := blk_new w3 (.cells #[.slice A0 l.length c0, .slice A1 r.length c1] 25)
  have hb4 := below_alloc (Below.refl w3.heap.size w3) (.cells #[.slice A0 l.length c0, .slice A1 r.length c1] 25)
  have HM4 : Aside0 (PR W1 w2 (w3.alloc (.cells #[.slice A0 l.length c0, .slice A1 r.length c1] 25)) g (.slice A0 l.length c0) (.slice A1 r.length c1) l r) :=
    ⟨⟨Kd.R_below HM3.out.r0 hb4, Kd.R_below HM3.out.r1 hb4, World.grownBy.trans HM3.out.gr (grown_of_below hb4 _)⟩⟩
  obtain ⟨q4, hq4, hr4⟩ : ∃ q, q ≤ 3000 ∧ Rd W1 (w3.alloc (.cells #[.slice A0 l.length c0, .slice A1 r.length c1] 25)) g bs2 q := by obtain ⟨q, hq, hr⟩ := HM3.out.rd; exact ⟨q, hq, hr.grown hb4⟩
  have HR4 := Aside0.mk hr4
  clear hr4
  have bR4 := blk_below bR3 hb4
  have HG4 := Aside0.mk (World.grownBy.trans HG3.out (grown_of_below hb4 (some g)))
  have h23 : w2.heap.size ≤ w3.heap.size := HM3.out.gr.size
  generalize hW4 : w3.alloc (.cells #[.slice A0 l.length c0, .slice A1 r.length c1] 25) = W4 at bP HM4 bR4 HG4 HR4 ⊢
  clear hW4 hb4
  generalize hPe : w3.heap.size = P at bP h23 ⊢
  clear hPe bR3 HM3 HG3 HR2 HG2 HR1
  have hPg : P ≠ g := by omega
  have hP4 := blk_lt bP
  go_upto_region 6 with (first
    | (go_at_call 37; refine (now_any W1 g bs2 (q4 + 1) _ _ HR5.out (by omega)).mono ?_; rintro e w6 ⟨va, a, rfl, _, hn6⟩; obtain ⟨Xa, ca, rfl⟩ := Kd.R_slice hn6.own; have HM6 := Aside0.mk (HM5.out.grow hn6.gr hgw); have hr6 := hn6.rd; have HR6 : Aside0 (∃ q, q ≤ 4000 ∧ Rd W1 w6 g bs2 q) := ⟨by { obtain ⟨q, hq, hr⟩ := hr6; exact ⟨q, by omega, hr⟩ }⟩; have HA6 := Aside0.mk hn6.own; have h56 := hn6.gr.size; have bP6 := blk_grown bP5 hn6.gr (by { simp; omega }); have bR6 := blk_grown bR5 hn6.gr (by { simp; omega }); clear hn6 hr6)
    | (go_at_call 36; refine (pick_any W1 g bs2 q4 8 _ HR4.out (by omega) (by omega)).mono ?_; rintro e w5 ⟨x, rfl, hx, hr5, hg5⟩; have hx0 := hx.1; have hx1 := hx.2.1 (by omega); have hwx : IntKind.i64.wrap (8 + x) = 8 + x := by { rw [IntKind.wrap_i64]; omega }; have HM5 := Aside0.mk (HM4.out.grow hg5 hgw); have HR5 := Aside0.mk hr5; have hg5w : g < w5.heap.size := rd_lt hr5; have bP5 := blk_grown bP hg5 (by { simp; omega }); have bR5 := blk_grown bR4 hg5 (by { simp; omega }); clear hr5 hg5 hx))
  obtain ⟨q6, hq6, hr6⟩ := HR6.out
  have HR6' := Aside0.mk hr6
  clear hr6
  have F : ∀ w' : World, w6.grownBy w' (some g) → w'.cell? ⟨P, 0, none⟩ = some (.slice A0 l.length c0) ∧ w'.cell? ⟨P, 1, none⟩ = some (.slice A1 r.length c1) :=
    fun w' h => ⟨(blk_cell (blk_grown bP6 h (by simp; omega)) 0).trans rfl, (blk_cell (blk_grown bP6 h (by simp; omega)) 1).trans rfl⟩
  have HG0 : w6.grownBy w6 (some g) := World.grownBy.refl _ _
  have HGd : w6.grownBy w6.drew (some g) := grown_of_below (below_drew (Below.refl _ _)) _
  have hRP : w.heap.size ≠ P := by omega
  go_region_held3 (fun w' => w'.cell? ⟨P, 0, none⟩ = some (.slice A0 l.length c0) ∧ w'.cell? ⟨P, 1, none⟩ = some (.slice A1 r.length c1))
    (first | (with_reducible exact F _ HG0) | (with_reducible exact F _ HGd) | (with_reducible exact F _ HG7) | (with_reducible exact ⟨s0 _ _, s1 _ _⟩))
    (first
      | (go_at_call 37; refine (now_any W1 g bs2 q6 _ _ (Rd.grown HR6'.out (below_drew (Below.refl _ _))) (by omega)).mono ?_; rintro e w7 ⟨vb, b, rfl, _, hn7⟩; obtain ⟨Xb, cb, rfl⟩ := Kd.R_slice hn7.own; have HG7 : w6.grownBy w7 (some g) := World.grownBy.trans HGd hn7.gr; have HM7 := Aside0.mk (HM6.out.grow HG7 hgw); have HA7 := Aside0.mk (own_step HA6.out HG7 hg5w); have HB7 := Aside0.mk hn7.own; have bP7 := blk_grown bP6 HG7 (by { simp; omega }); have bR7 := blk_grown bR6 HG7 (by { simp; omega }); have r0 := (blk_cell bR7 0).trans rfl; have r1 := (blk_cell bR7 1).trans rfl; have f0 := blk_frozen bR7 0; have f1 := blk_frozen bR7 1; have s0 : ∀ u0 u1, ((w7.setCell ⟨w.heap.size, 0, none⟩ u0).setCell ⟨w.heap.size, 1, none⟩ u1).cell? ⟨P, 0, none⟩ = some (.slice A0 l.length c0) := fun u0 u1 => (blk_cell (blk_far (blk_far bP7 (p := ⟨w.heap.size, 0, none⟩) (by { show P ≠ w.heap.size; omega }) u0) (p := ⟨w.heap.size, 1, none⟩) (by { show P ≠ w.heap.size; omega }) u1) 0).trans rfl; have s1 : ∀ u0 u1, ((w7.setCell ⟨w.heap.size, 0, none⟩ u0).setCell ⟨w.heap.size, 1, none⟩ u1).cell? ⟨P, 1, none⟩ = some (.slice A1 r.length c1) := fun u0 u1 => (blk_cell (blk_far (blk_far bP7 (p := ⟨w.heap.size, 0, none⟩) (by { show P ≠ w.heap.size; omega }) u0) (p := ⟨w.heap.size, 1, none⟩) (by { show P ≠ w.heap.size; omega }) u1) 1).trans rfl; have hrd7 := hn7.rd; have HZ7 : Aside0 (Below W1.heap.size W1 w7) := ⟨by { obtain ⟨q, _, hr⟩ := hrd7; exact hr.below }⟩; clear hn7 hrd7))
  all_goals
    go_wp2
    refine bodyPost_ret (results_tctt rfl _ _ w.heap.size 25 #[.slice A0 l.length c0, .slice A1 r.length c1] (0, 0) _ rfl (Id.set2_blk _ _ bR7) Tryz.underlying25 rfl (by kernel_rfl)) rfl ?_
    have hZ := below_then HBW.out HBW.out.size HZ7.out
    have K : ∀ {b : Nat} {X : Option Addr} {cx : Nat} {x : List Occ}, Dw W1 w7 b (.slice X x.length cx) x → IsL (Id.set2 w7 w.heap.size (.slice A0 l.length c0) (.slice A1 r.length c1)) x X cx := fun hx =>
      dw_set hx HZ7.out bR7 _ _ _ _ _ _
    exact ⟨mode, l, r, a, b, A0, A1, Xa, Xb, c0, c1, ca, cb, rfl, K HM7.out.r0, K HM7.out.r1, K HA7.out, K HB7.out, Id.set2_below hZ (Nat.le_refl _) _ _⟩

theorem isL_set {w7 : World} {G : Nat} {X : Option Addr} {cx : Nat} {x : List Occ} (h1 : IsL w7 x X cx) (bG : w7.heap[G]? = some (.cells #[.slice none 0 0, .slice none 0 0] 25 (0, 0))) (A0 A1 : Option Addr) (n0 n1 c0 c1 : Nat) : IsL (Id.set2 w7 G (.slice A0 n0 c0) (.slice A1 n1 c1)) x X cx :=
  IsL.away (ni_two (blk_put bG 0 (.slice A0 n0 c0) rfl)) (keep_set _ G 1 (.slice A1 n1 c1)) (IsL.away (ni_two bG) (keep_set w7 G 0 (.slice A0 n0 c0)) h1)
end Go.Proofs.YtjeojdbfpncnkaaGreat.Db
