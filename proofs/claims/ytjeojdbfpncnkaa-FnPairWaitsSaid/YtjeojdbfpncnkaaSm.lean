/- The reference's draws: DrawOccOk, DrawOccsOk. -/
import Derived.Test.YtjeojdbfpncnkaaSl
set_option linter.unusedVariables false
set_option linter.unusedSimpArgs false
namespace Go.Proofs.Ytjeojdbfpncnkaa.Sm
open Go.RowKit Go.Proofs.YtjeojdbfpncnkaaW.PrintWords Go.Proofs.Ytjeojdbfpncnkaa.Wd Go.Proofs.Ytjeojdbfpncnkaa.Pu Go.Proofs.Ytjeojdbfpncnkaa.Ca Go.Proofs.Ytjeojdbfpncnkaa.Cg Go.Proofs.Ytjeojdbfpncnkaa.Cf Go.Proofs.Ytjeojdbfpncnkaa.Ce Go.Proofs.Ytjeojdbfpncnkaa.Cp Go.Proofs.Ytjeojdbfpncnkaa.Sa Go.Proofs.Ytjeojdbfpncnkaa.Sb Go.Proofs.Ytjeojdbfpncnkaa.Sc Go.Proofs.Ytjeojdbfpncnkaa.Sh Go.Proofs.Ytjeojdbfpncnkaa.Si Go.Proofs.Ytjeojdbfpncnkaa.Sj Go.Proofs.Ytjeojdbfpncnkaa.Sk Go.Proofs.Ytjeojdbfpncnkaa.Sl

theorem below_of_grown {w w1 w2 : World} {row : Option Nat} (h : Below w.heap.size w w1) (hg : w1.grownBy w2 row) (hr : ∀ k, row = some k → w.heap.size ≤ k) : Below w.heap.size w w2 := h.grown hg h.size hr
/-- a list as it was drawn -/
def ListOut (w w' : World) (e : Ending) : Prop := ∃ (l : List Occ) (A : Option Addr) (c : Nat), e = .returned (.slice A l.length c) ∧ IsL w' l A c ∧ l.length ≤ 7 ∧ (∀ x ∈ l, x.f2.length ≤ 24) ∧ Below w.heap.size w w'
theorem drawList_any (A : Option Addr) (c : Nat) (bs : List Int) (w : World) (hC : (Kd.int .u8).C w A bs.length bs) (hc : bs.length ≤ c) (hb : ∀ b ∈ bs, 0 ≤ b ∧ b ≤ 255) :
    Calls Try.prog 9 #[.slice A bs.length c] w fun e w' => ListOut w w' e := by
  go_enter Try.func9, Try.ntmps9
  go_wp2_with (first
    | (go_at_call 34; refine (bent_any w g bs2 0 _ HR.out (by omega)).mono ?_; rintro e w2 ⟨v, l, rfl, hm⟩; obtain ⟨A2, c2, rfl⟩ := Kd.R_slice hm.own; have hbl := below_of_grown HR.out.below hm.gr (fun k hk => by injection hk with hk; have := HR.out.base; omega); have hrd := Kd.R_reads' hm.own; have HP := Aside0.mk (show ListOut w w2 (.returned (.slice A2 l.length c2)) from ⟨l, A2, c2, rfl, ⟨hrd.2.1, X_O hbl hrd.2.2⟩, hm.len, hm.ids, hbl⟩); clear hm hbl hrd)
    | (go_at_call 33; refine (open_any w A c bs _ (Below.refl _ _) hC hc hb).mono ?_; rintro e w1 ⟨g, rfl, ⟨bs2, hr⟩, _⟩; have HR := Aside0.mk hr; clear hr))
  go_ret
  exact HP.out

theorem EX (w0 : World) : (kX w0).E = [3] := rfl
theorem set3_M {w0 w : World} {base G : Nat} {ok : Nat → Prop} {x : Occ} {cs : List Value} {cells : Array Value} (h : (kX w0).M w base ok x cs) (b : w.heap[G]? = some (.cells cells 25 (0, 0))) (u0 u1 u2 : Value) : (kX w0).M (set3 w G u0 u1 u2) base ok x cs := by
  refine (kX w0).M_mono (fun k hk => hk.1) ((kX w0).M_move (fun k hk => ?_) ((kX w0).M_bound h))
  obtain ⟨_, _, _, q, hq, cl, hc⟩ := hk
  rw [EX] at hq
  have hq2 : q = 3 := by simpa using hq
  have hne : k ≠ G := fun e => by
    rw [e, b] at hc
    simp at hc
    have := hc.2
    rw [hq2] at this
    exact absurd this (by decide)
  unfold set3
  rw [Below.heap_setCell _ _ _ _ hne, Below.heap_setCell _ _ _ _ hne, Below.heap_setCell _ _ _ _ hne]

/-- an occurrence as it was drawn -/
def OccOut (w w' : World) (e : Ending) : Prop := ∃ (o : Occ) (A : Option Addr) (c : Nat), e = .returned (.agg #[.int .i64 o.f0, .int .i64 o.f1, .slice A o.f2.length c]) ∧ IsO w' o A c ∧ o.f2.length ≤ 24 ∧ Below w.heap.size w w'
set_option maxHeartbeats 1000000 in
set_option maxRecDepth 100000 in
theorem drawOcc_any (A : Option Addr) (c : Nat) (bs : List Int) (w : World) (hC : (Kd.int .u8).C w A bs.length bs) (hc : bs.length ≤ c) (hb : ∀ b ∈ bs, 0 ≤ b ∧ b ≤ 255) :
    Calls Try.prog 8 #[.slice A bs.length c] w fun e w' => OccOut w w' e := by
  have bG := blk_new w (.cells #[.int .i64 0, .int .i64 0, .slice none 0 0] 25)
  have hB0 := below_alloc (Below.refl w.heap.size w) (.cells #[.int .i64 0, .int .i64 0, .slice none 0 0] 25)
  go_enter Try.func8, Try.ntmps8
  go_wp2_with (first
    | (go_at_call 35; refine (any_any w g bs2 p2 _ HR2.out (by omega)).mono ?_; rintro e w3 ⟨o, v3, rfl, hk3, ho3, _, hg3⟩; obtain ⟨A3, c3, rfl⟩ := Kd.R_slice ho3; have b3 := blk_grown b2 hg3 (by simp; exact hgG); have e0 : w3.cell? ⟨w.heap.size, 0, none⟩ = some (.int .i64 0) := (blk_cell b3 0).trans rfl; have e1 : w3.cell? ⟨w.heap.size, 1, none⟩ = some (.int .i64 0) := (blk_cell b3 1).trans rfl; have e2 : w3.cell? ⟨w.heap.size, 2, none⟩ = some (.slice none 0 0) := (blk_cell b3 2).trans rfl; have g0 := blk_frozen b3 0; have g1 := blk_frozen b3 1; have g2 := blk_frozen b3 2; have HB3 := Aside0.mk (below_of_grown HBL.out hg3 (fun k hk => by injection hk with hk; have := HR2.out.base; omega)); have HO3 := Aside0.mk ho3; have HK3 := Aside0.mk (isOk_24 hk3); clear hk3 ho3 hg3)
    | (go_at_call 36; refine (pick_any w g bs2 p2 l.length _ HR2.out (by omega) (by have := HM.out.len; omega)).mono ?_; rintro e w3 ⟨x, rfl, hx, _, hg3⟩; obtain ⟨k, rfl⟩ := Int.eq_ofNat_of_zero_le hx.1; have hkl : k < l.length := by { have := hx.2.1 (by omega); omega }; have b3 := blk_grown b2 hg3 (by simp; exact hgG); have e0 : w3.cell? ⟨w.heap.size, 0, none⟩ = some (.int .i64 0) := (blk_cell b3 0).trans rfl; have e1 : w3.cell? ⟨w.heap.size, 1, none⟩ = some (.int .i64 0) := (blk_cell b3 1).trans rfl; have e2 : w3.cell? ⟨w.heap.size, 2, none⟩ = some (.slice none 0 0) := (blk_cell b3 2).trans rfl; have g0 := blk_frozen b3 0; have g1 := blk_frozen b3 1; have g2 := blk_frozen b3 2; have hgw1 : g < w1.heap.size := rd_lt HR.out; have HO3 := Aside0.mk (own_step HM.out.own hg3 hgw1); have HB3 := Aside0.mk (below_of_grown HBL.out hg3 (fun k hk => by injection hk with hk; have := HR2.out.base; omega)); obtain ⟨gl, capl, hv, hbl, hgl, cl, hcl⟩ := Kd.R_form HO3.out hl0; cases hv; obtain ⟨c9, hc1, hMk, hcc, _⟩ := Kd.R_elem HO3.out zO (k : Int) (by omega) (by omega); simp only [Int.toNat_natCast] at hMk hcc; have hxm : l.getD k zO ∈ l := by { rw [List.getD_eq_getElem?_getD, List.getElem?_eq_getElem hkl]; exact List.getElem_mem _ }; have hx24 := HM.out.ids _ hxm; generalize l.getD k zO = o at hMk hx24; obtain ⟨A3, c3, rfl, _, _⟩ := kO_open (kX_read HB3.out ((kX w).K_of_M hMk)); have HMK := Aside0.mk hMk; have d0 : w3.cell? ⟨gl, k * 3, none⟩ = some (.int .i64 o.f0) := hcc 0 _ rfl; have d1 : w3.cell? ⟨gl, k * 3 + 1, none⟩ = some (.int .i64 o.f1) := hcc 1 _ rfl; have d2 : w3.cell? ⟨gl, k * 3 + 2, none⟩ = some (.slice A3 o.f2.length c3) := hcc 2 _ rfl; have HX24 := Aside0.mk hx24; clear hc1 hMk hcc hxm hx24 hx)
    | (go_at_call 34; refine (bent_any _ g bs2 0 _ HR.out (by omega)).mono ?_; rintro e w2 ⟨v, l, rfl, hm⟩; obtain ⟨A2, c2, rfl⟩ := Kd.R_slice hm.own; have HM := Aside0.mk hm; have b2 := blk_grown b1 hm.gr (by simp; exact hgG); have q0 : w2.cell? ⟨w.heap.size, 0, none⟩ = some (.int .i64 0) := (blk_cell b2 0).trans rfl; have q1 : w2.cell? ⟨w.heap.size, 1, none⟩ = some (.int .i64 0) := (blk_cell b2 1).trans rfl; have q2 : w2.cell? ⟨w.heap.size, 2, none⟩ = some (.slice none 0 0) := (blk_cell b2 2).trans rfl; have hbl := below_of_grown HR.out.below hm.gr (fun k hk => by injection hk with hk; have := HR.out.base; omega); have HBL := Aside0.mk hbl; obtain ⟨p2, hp2, hr2⟩ := hm.rd; have HR2 := Aside0.mk hr2; clear hm hbl hr2; obtain hl0 | hl0 : l = [] ∨ 0 < l.length := by { rcases l with _ | ⟨x, l⟩; exact .inl rfl; exact .inr (by simp) })
    | (go_at_call 33; refine (open_any w A c bs _ hB0 hC hc hb).mono ?_; rintro e w1 ⟨g, rfl, ⟨bs2, hr⟩, hb1⟩; have HR := Aside0.mk hr; have b1 := blk_below bG hb1; have hgG : w.heap.size ≠ g := by { obtain ⟨Ag, cg, hg, _⟩ := hr.mem; exact blk_ne b1 hg (by decide) }; have hs1 : w.heap.size < w1.heap.size := blk_lt b1; clear hr hb1))
  · refine bodyPost_ret (results_cell_row rfl _ _ w.heap.size 25 #[.int .i64 o.f0, .int .i64 o.f1, .slice A3 o.f2.length c3] (0, 0) _ rfl (set3_blk _ _ _ b3) Try.underlying25 rfl (by kernel_rfl)) rfl ?_
    have r := Kd.R_reads' (set3_R HO3.out b3 (by decide) (.int .i64 o.f0) (.int .i64 o.f1) (.slice A3 o.f2.length c3))
    exact ⟨o, A3, c3, rfl, ⟨r.2.1, r.2.2⟩, HK3.out, set3_below HB3.out (Nat.le_refl _) _ _ _⟩
  · refine bodyPost_ret (results_cell_row rfl _ _ w.heap.size 25 #[.int .i64 o.f0, .int .i64 o.f1, .slice A3 o.f2.length c3] (0, 0) _ rfl (set3_blk _ _ _ b3) Try.underlying25 rfl (by kernel_rfl)) rfl ?_
    have hB := set3_below HB3.out (Nat.le_refl w.heap.size) (.int .i64 o.f0) (.int .i64 o.f1) (.slice A3 o.f2.length c3)
    have hO : IsO (set3 w3 w.heap.size (.int .i64 o.f0) (.int .i64 o.f1) (.slice A3 o.f2.length c3)) o A3 c3 := by
      obtain ⟨A', c', e, l, g⟩ := kO_open (kX_read hB ((kX w).K_of_M (set3_M HMK.out b3 (.int .i64 o.f0) (.int .i64 o.f1) (.slice A3 o.f2.length c3))))
      cases e
      exact ⟨l, g⟩
    exact ⟨o, A3, c3, rfl, hO, HX24.out, hB⟩
end Go.Proofs.Ytjeojdbfpncnkaa.Sm
