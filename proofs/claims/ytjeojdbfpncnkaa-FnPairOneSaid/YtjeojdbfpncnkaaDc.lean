
/- Two occurrences that are drawn: the reference's. -/
import Derived.Test.YtjeojdbfpncnkaaB6
import Derived.Test.YtjeojdbfpncnkaaB5
set_option linter.unusedVariables false
set_option linter.unusedSimpArgs false
namespace Go.Proofs.Ytjeojdbfpncnkaa.Dc
open Go.RowKit Go.Proofs.YtjeojdbfpncnkaaW.PrintWords Go.Proofs.Ytjeojdbfpncnkaa.Wd Go.Proofs.Ytjeojdbfpncnkaa.Pu Go.Proofs.Ytjeojdbfpncnkaa.Ca Go.Proofs.Ytjeojdbfpncnkaa.Cg Go.Proofs.Ytjeojdbfpncnkaa.Cf Go.Proofs.Ytjeojdbfpncnkaa.Ce Go.Proofs.Ytjeojdbfpncnkaa.Cp Go.Proofs.Ytjeojdbfpncnkaa.Sa Go.Proofs.Ytjeojdbfpncnkaa.Sb Go.Proofs.Ytjeojdbfpncnkaa.Sc Go.Proofs.Ytjeojdbfpncnkaa.Sh Go.Proofs.Ytjeojdbfpncnkaa.Si Go.Proofs.Ytjeojdbfpncnkaa.Sj Go.Proofs.Ytjeojdbfpncnkaa.Sk Go.Proofs.Ytjeojdbfpncnkaa.Sl Go.Proofs.Ytjeojdbfpncnkaa.Sm Go.Proofs.Ytjeojdbfpncnkaa.Rb Go.Proofs.Ytjeojdbfpncnkaa.Id Go.Proofs.Ytjeojdbfpncnkaa.Da Go.Proofs.Ytjeojdbfpncnkaa.Db
theorem results_cc {P : Program} {fn : Func} {p q : Tmp} {ty : TypeId} (h : fn.results = #[.cell p ty, .cell q ty]) (tmps : Array Value) (w : World) (g g2 : Nat) (t : TypeId) (cs cs2 : Array Value) (fr fr2 : Nat × Nat) (d : TypeDesc)
    (hp : tmps.getD p undef = .pointer (some ⟨g, 0, none⟩)) (hq : tmps.getD q undef = .pointer (some ⟨g2, 0, none⟩)) (hg : w.heap[g]? = some (.cells cs t fr)) (hg2 : w.heap[g2]? = some (.cells cs2 t fr2))
    (hu : P.underlying ty = some d) (hd : (match d with | .struct _ | .array _ _ => true | _ => false) = true) (hi : (P.info? ty).map (·.size) = some cs.size ∧ (P.info? ty).map (·.size) = some cs2.size) :
    (results fn tmps).run P w = .ok (.tuple #[.agg cs, .agg cs2]) w := by
  have hp' : tmps[p]?.getD undef = .pointer (some ⟨g, 0, none⟩) := by simpa using hp
  have hq' : tmps[q]?.getD undef = .pointer (some ⟨g2, 0, none⟩) := by simpa using hq
  simp [results, h, hp', hq', asAddr, run_loadVar_row w g t ty cs fr d hg hu hd hi.1, run_loadVar_row w g2 t ty cs2 fr2 d hg2 hu hd hi.2]
def LessOut (w w' : World) (e : Ending) : Prop := ∃ (x y : Occ) (A B : Option Addr) (c d : Nat), e = .returned (.tuple #[.agg #[.int .i64 x.f0, .int .i64 x.f1, .slice A x.f2.length c], .agg #[.int .i64 y.f0, .int .i64 y.f1, .slice B y.f2.length d]]) ∧ IsOk x ∧ IsOk y ∧ IsO w' x A c ∧ IsO w' y B d ∧ Below w.heap.size w w'
theorem far3 {w : World} {G H : Nat} {t : TypeId} {cs : Array Value} (b : w.heap[G]? = some (.cells cs t (0, 0))) (h : G ≠ H) (u0 u1 u2 : Value) : (set3 w H u0 u1 u2).heap[G]? = some (.cells cs t (0, 0)) :=
  blk_far (blk_far (blk_far b (p := ⟨H, 0, none⟩) h _) (p := ⟨H, 1, none⟩) h _) (p := ⟨H, 2, none⟩) h _
theorem less_end {w W : World} {N M : Nat} {x y : Occ} {A B : Option Addr} {c d bx by' : Nat} {cs cs2 : Array Value} (hN : w.heap.size ≤ N) (hM : w.heap.size ≤ M) (hne : M ≠ N) (hb : Below w.heap.size w W) (bN : W.heap[N]? = some (.cells cs 25 (0, 0))) (bM : W.heap[M]? = some (.cells cs2 25 (0, 0))) (kx : IsOk x) (ky : IsOk y)
    (hx : (Kd.int .i64).R 3 W bx (fun _ => True) (.slice A x.f2.length c) x.f2) (hy : (Kd.int .i64).R 3 W by' (fun _ => True) (.slice B y.f2.length d) y.f2) (u0 u1 u2 v0 v1 v2 : Value) :
    LessOut w (set3 (set3 W N u0 u1 u2) M v0 v1 v2) (.returned (.tuple #[.agg #[.int .i64 x.f0, .int .i64 x.f1, .slice A x.f2.length c], .agg #[.int .i64 y.f0, .int .i64 y.f1, .slice B y.f2.length d]])) := by
  have k : ∀ {b : Nat} {v : Value} {l : List Int}, (Kd.int .i64).R 3 W b (fun _ => True) v l → (Kd.int .i64).R 3 (set3 (set3 W N u0 u1 u2) M v0 v1 v2) b (fun _ => True) v l := fun h =>
    set3_R (set3_R h bN (by decide) u0 u1 u2) (far3 bM hne u0 u1 u2) (by decide) v0 v1 v2
  have r1 := Kd.R_reads' (k hx)
  have r2 := Kd.R_reads' (k hy)
  exact ⟨x, y, A, B, c, d, rfl, kx, ky, ⟨r1.2.1, r1.2.2⟩, ⟨r2.2.1, r2.2.2⟩, set3_below (set3_below hb hN _ _ _) hM _ _ _⟩
set_option maxHeartbeats 4000000 in
set_option maxRecDepth 100000 in
theorem drawLess_any (A : Option Addr) (c : Nat) (bs : List Int) (w : World) (hC : (Kd.int .u8).C w A bs.length bs) (hc : bs.length ≤ c) (hb : ∀ b ∈ bs, 0 ≤ b ∧ b ≤ 255) :
    Calls Try.prog 22 #[.slice A bs.length c] w fun e w' => LessOut w w' e := by
  obtain ⟨hb0, bN0, bM0⟩ := boxes2 w #[.int .i64 0, .int .i64 0, .slice none 0 0] #[.int .i64 0, .int .i64 0, .slice none 0 0] 25 25
  have HC := Aside0.mk (Kd.C_below hC hb0)
  have HB0 := Aside0.mk hb0
  clear hC hb0
  go_enter Try.func22, Try.ntmps22
  go_upto_region 1 with fail
  generalize (w.alloc (.cells #[.int .i64 0, .int .i64 0, .slice none 0 0] 25)).alloc (.cells #[.int .i64 0, .int .i64 0, .slice none 0 0] 25) = W1 at bN0 bM0 HC HB0 ⊢
  have hs1 := blk_lt bM0
  go_upto_region 2 with (go_at_call 33; refine (open_any W1 A c bs _ (Below.refl _ _) HC.out hc hb).mono ?_; rintro e w1 ⟨g, rfl, ⟨bs2, hr⟩, hb1⟩; have HR1 := Aside0.mk hr; have HBN1 := Aside0.mk (blk_below bN0 hb1); have HBM1 := Aside0.mk (blk_below bM0 hb1); have hgW : W1.heap.size ≤ g := hr.base; have HB1 := Aside0.mk (below_then HB0.out HB0.out.size hb1); clear hr hb1)
  have hgN : w.heap.size ≠ g := by omega
  have hgM : w.heap.size + 1 ≠ g := by omega
  have hg1 := rd_lt HR1.out
  go_upto_region 3 with (go_at_call 35; refine (any_any W1 g bs2 0 _ HR1.out (by omega)).mono ?_; rintro e w2 ⟨x, v, rfl, hkx, hox, ⟨p2, hp2, hr2⟩, hg2⟩; obtain ⟨A3, c3, rfl⟩ := Kd.R_slice hox; have HKX := Aside0.mk hkx; have HOX := Aside0.mk hox; have HR2 := Aside0.mk hr2; have HBN2 := Aside0.mk (blk_grown HBN1.out hg2 (by simp; omega)); have HBM2 := Aside0.mk (blk_grown HBM1.out hg2 (by simp; omega)); have hs2 := hg2.size; have HB2 := Aside0.mk (HB1.out.grown hg2 (by omega) (fun k hk => by cases hk; omega)); clear hkx hox hr2 hg2)
  have bP := blk_new w2 (.cells #[.int .i64 x.f0, .int .i64 x.f1, .slice A3 x.f2.length c3] 25)
  have hb3 := below_alloc (Below.refl w2.heap.size w2) (.cells #[.int .i64 x.f0, .int .i64 x.f1, .slice A3 x.f2.length c3] 25)
  have HR3 := Aside0.mk (HR2.out.grown hb3)
  have HBN3 := Aside0.mk (blk_below HBN2.out hb3)
  have HBM3 := Aside0.mk (blk_below HBM2.out hb3)
  have HOX3 := Aside0.mk (Kd.R_below HOX.out hb3)
  have HB3 := Aside0.mk (below_then HB2.out HB2.out.size hb3)
  have hsz3 := hb3.size
  have hg3 := rd_lt HR3.out
  have hPg : w2.heap.size ≠ g := by have := rd_lt HR2.out; omega
  have hP3 := blk_lt bP
  generalize hP : w2.heap.size = P at bP hPg hsz3 hP3 ⊢
  generalize w2.alloc (.cells #[.int .i64 x.f0, .int .i64 x.f1, .slice A3 x.f2.length c3] 25) = w3 at bP HR3 HBN3 HBM3 HOX3 HB3 hsz3 hg3 hP3 ⊢
  clear hb3 HR2 HBN2 HBM2 HOX HB2 HR1 HBN1 HBM1 HB1
  have g3 : g < w3.heap.size := hg3
  go_upto_region 4 with (go_at_call 36; refine (pick_any W1 g bs2 p2 6 _ HR3.out (by omega) (by omega)).mono ?_; rintro e w4 ⟨z, rfl, hz, hr4, hg4⟩; have hr4' := hr4; have HR4 := Aside0.mk hr4; have bP4 := blk_grown bP hg4 (by simp; omega); have HBN := Aside0.mk (blk_grown HBN3.out hg4 (by simp; omega)); have HBM4 := Aside0.mk (blk_grown HBM3.out hg4 (by simp; omega)); have hs4 := hg4.size; have HB4 := Aside0.mk (HB3.out.grown hg4 (by omega) (fun k hk => by cases hk; omega)); have HOX4 := Aside0.mk (own_step HOX3.out hg4 hg1); clear hr4 hr4' hg4)
  all_goals
    have HF : Aside0 (∀ w', Below w4.heap.size w4 w' → (fun w' => w'.cell? ⟨P, 0, none⟩ = some (.int .i64 x.f0) ∧ w'.cell? ⟨P, 1, none⟩ = some (.int .i64 x.f1) ∧ w'.cell? ⟨P, 2, none⟩ = some (.slice A3 x.f2.length c3)) w') := ⟨fun w' h => ⟨(blk_cell (blk_below bP4 h) 0).trans rfl, (blk_cell (blk_below bP4 h) 1).trans rfl, (blk_cell (blk_below bP4 h) 2).trans rfl⟩⟩
    have hg4 := rd_lt HR4.out
    have hne : w.heap.size + 1 ≠ w.heap.size := by omega
  · refine Za.regionL (fun w' => w'.cell? ⟨P, 0, none⟩ = some (.int .i64 x.f0) ∧ w'.cell? ⟨P, 1, none⟩ = some (.int .i64 x.f1) ∧ w'.cell? ⟨P, 2, none⟩ = some (.slice A3 x.f2.length c3)) [3, 4] (by kernel_rfl) ?_
    have HS : (fun w' => w'.cell? ⟨P, 0, none⟩ = some (.int .i64 x.f0) ∧ w'.cell? ⟨P, 1, none⟩ = some (.int .i64 x.f1) ∧ w'.cell? ⟨P, 2, none⟩ = some (.slice A3 x.f2.length c3)) w4.drew := HF.out _ (below_drew (Below.refl _ _))
    refine Za.takeL 0 (v := ?va0) rfl (by kernel_rfl) (by kernel_rfl) (by kernel_rfl) (by kernel_rfl) (fun _ _ _ h => h) (Or.inl ⟨by rfl, ?hya0⟩) HS ?resta0
    case hya0 => (intro w hSw; (try dsimp only at hSw); go_simp; try with_reducible rfl)
    (try simp only [Act.put, List.setIfInBounds_toArray, List.set_cons_zero, List.set_cons_succ])
    refine Za.takeL 1 (v := ?va1) rfl (by kernel_rfl) (by kernel_rfl) (by kernel_rfl) (by kernel_rfl) (fun _ _ _ h => h) (Or.inl ⟨by rfl, ?hya1⟩) HS ?resta1
    case hya1 => (intro w hSw; (try dsimp only at hSw); go_simp; try with_reducible rfl)
    (try simp only [Act.put, List.setIfInBounds_toArray, List.set_cons_zero, List.set_cons_succ])
    clear HS
    refine Za.nextL 2 (by kernel_rfl) rfl (fun K' hK => ?_)
    go_simp
    (go_at_call 54; refine (sCopy_any A3 c3 x _ (IsO.below ⟨(Kd.R_reads' HOX4.out).2.1, (Kd.R_reads' HOX4.out).2.2⟩ (below_drew (Below.refl _ _))) (isOk_len HKX.out)).mono ?_; rintro e w6 ⟨v6, rfl, hoy, hb6⟩; obtain ⟨A6, c6, rfl⟩ := Kd.R_slice hoy; have hbw : Below w4.heap.size w4 w6 := keepD hb6; have hoy' := hoy; have HK6 := HF.out w6 hbw; have bN := blk_below HBN.out hbw; have bM6 := blk_below HBM4.out hbw; have HB6 := below_then HB4.out HB4.out.size hbw; have HX6 := Kd.R_below HOX4.out hbw; have HKY := HKX.out; have HEND := Aside0.mk (less_end (w := w) (W := w6) (N := w.heap.size) (M := w.heap.size + 1) (Nat.le_refl _) (by omega) hne HB6 bN bM6 HKX.out HKY HX6 hoy' (.int .i64 x.f0) (.int .i64 x.f1) (.slice A3 x.f2.length c3) (.int .i64 x.f0) (.int .i64 x.f1) (.slice A6 x.f2.length c6)); have HNx : Aside0 (∀ u0 u1 u2 v0 v1 v2, (set3 (set3 w6 w.heap.size u0 u1 u2) (w.heap.size + 1) v0 v1 v2).heap[w.heap.size]? = some (.cells #[u0, u1, u2] 25 (0, 0))) := ⟨fun u0 u1 u2 v0 v1 v2 => far3 (set3_blk u0 u1 u2 bN) (by omega) v0 v1 v2⟩; have bM := fun (u0 u1 u2 : Value) => far3 bM6 hne u0 u1 u2; have HFk : (fun w' => w'.cell? ⟨P, 0, none⟩ = some (.int .i64 x.f0) ∧ w'.cell? ⟨P, 1, none⟩ = some (.int .i64 x.f1) ∧ w'.cell? ⟨P, 2, none⟩ = some (.slice A3 x.f2.length c3)) w6 := HK6; clear hoy hoy' HB6 HX6 HKY hbw hb6)
    go_wp2_with fail
    refine hK.out _ _ ⟨fun _ => HFk, ?_⟩
    clear hK K'
    (try simp only [Act.put, List.setIfInBounds_toArray, List.set_cons_zero, List.set_cons_succ])
    have n0 := (blk_cell bN 0).trans rfl
    have n1 := (blk_cell bN 1).trans rfl
    have n2 := (blk_cell bN 2).trans rfl
    have m0 := blk_frozen bN 0
    have m1 := blk_frozen bN 1
    have m2 := blk_frozen bN 2
    have b1 := bM (.int .i64 x.f0) (.int .i64 x.f1) (.slice A3 x.f2.length c3)
    have q0 := (blk_cell b1 0).trans rfl
    have q1 := (blk_cell b1 1).trans rfl
    have q2 := (blk_cell b1 2).trans rfl
    have r0 := blk_frozen b1 0
    have r1 := blk_frozen b1 1
    have r2 := blk_frozen b1 2
    unfold set3 at q0 q1 q2 r0 r1 r2
    refine Za.nextL 3 (by kernel_rfl) rfl (fun K' hK => ?_)
    go_simp
    refine hK.out _ _ ⟨fun h => absurd (by simp) h, ?_⟩
    clear hK K'
    (try simp only [Act.put, List.setIfInBounds_toArray, List.set_cons_zero, List.set_cons_succ])
    refine Za.nextL 4 (by kernel_rfl) rfl (fun K' hK => ?_)
    go_simp
    refine hK.out _ _ ⟨fun h => absurd (by simp) h, ?_⟩
    clear hK K'
    (try simp only [Act.put, List.setIfInBounds_toArray, List.set_cons_zero, List.set_cons_succ])
    refine Za.Walk.done (by kernel_rfl) ?_
    go_wp2
    refine bodyPost_ret (results_cc rfl _ _ w.heap.size (w.heap.size + 1) 25 #[.int .i64 x.f0, .int .i64 x.f1, .slice A3 x.f2.length c3] #[.int .i64 x.f0, .int .i64 x.f1, .slice A6 x.f2.length c6] (0, 0) (0, 0) _ rfl rfl (HNx.out _ _ _ _ _ _) (set3_blk _ _ _ b1) Try.underlying25 rfl ⟨by kernel_rfl, by kernel_rfl⟩) rfl ?_
    exact HEND.out
  · go_upto_region 5 with fail
    refine Za.regionL (fun w' => w'.cell? ⟨P, 0, none⟩ = some (.int .i64 x.f0) ∧ w'.cell? ⟨P, 1, none⟩ = some (.int .i64 x.f1) ∧ w'.cell? ⟨P, 2, none⟩ = some (.slice A3 x.f2.length c3)) [3, 4] (by kernel_rfl) ?_
    have HS : (fun w' => w'.cell? ⟨P, 0, none⟩ = some (.int .i64 x.f0) ∧ w'.cell? ⟨P, 1, none⟩ = some (.int .i64 x.f1) ∧ w'.cell? ⟨P, 2, none⟩ = some (.slice A3 x.f2.length c3)) w4.drew := HF.out _ (below_drew (Below.refl _ _))
    refine Za.takeL 0 (v := ?vb0) rfl (by kernel_rfl) (by kernel_rfl) (by kernel_rfl) (by kernel_rfl) (fun _ _ _ h => h) (Or.inl ⟨by rfl, ?hyb0⟩) HS ?restb0
    case hyb0 => (intro w hSw; (try dsimp only at hSw); go_simp; try with_reducible rfl)
    (try simp only [Act.put, List.setIfInBounds_toArray, List.set_cons_zero, List.set_cons_succ])
    refine Za.takeL 1 (v := ?vb1) rfl (by kernel_rfl) (by kernel_rfl) (by kernel_rfl) (by kernel_rfl) (fun _ _ _ h => h) (Or.inl ⟨by rfl, ?hyb1⟩) HS ?restb1
    case hyb1 => (intro w hSw; (try dsimp only at hSw); go_simp; try with_reducible rfl)
    (try simp only [Act.put, List.setIfInBounds_toArray, List.set_cons_zero, List.set_cons_succ])
    clear HS
    refine Za.nextL 2 (by kernel_rfl) rfl (fun K' hK => ?_)
    go_simp
    (go_at_call 35; refine (any_any W1 g bs2 (p2 + 1) _ (HR4.out.grown (below_drew (Below.refl _ _))) (by omega)).mono ?_; rintro e w6 ⟨y, v6, rfl, hky, hoy', _, hg6⟩; obtain ⟨A6, c6, rfl⟩ := Kd.R_slice hoy'; have hbw : w4.grownBy w6 (some g) := World.grownBy.trans (grown_of_below (below_drew (Below.refl _ _)) _) hg6; have bP6 := blk_grown bP4 hbw (by simp; omega); have HFk : (fun w' => w'.cell? ⟨P, 0, none⟩ = some (.int .i64 x.f0) ∧ w'.cell? ⟨P, 1, none⟩ = some (.int .i64 x.f1) ∧ w'.cell? ⟨P, 2, none⟩ = some (.slice A3 x.f2.length c3)) w6 := ⟨(blk_cell bP6 0).trans rfl, (blk_cell bP6 1).trans rfl, (blk_cell bP6 2).trans rfl⟩; have bN := blk_grown HBN.out hbw (by simp; omega); have bM6 := blk_grown HBM4.out hbw (by simp; omega); have HB6 := HB4.out.grown hbw (by omega) (fun k hk => by cases hk; omega); have HX6 := own_step HOX4.out hbw hg1; have HKY := hky; have HEND := Aside0.mk (less_end (w := w) (W := w6) (N := w.heap.size) (M := w.heap.size + 1) (Nat.le_refl _) (by omega) hne HB6 bN bM6 HKX.out HKY HX6 hoy' (.int .i64 x.f0) (.int .i64 x.f1) (.slice A3 x.f2.length c3) (.int .i64 y.f0) (.int .i64 y.f1) (.slice A6 y.f2.length c6)); have HNx : Aside0 (∀ u0 u1 u2 v0 v1 v2, (set3 (set3 w6 w.heap.size u0 u1 u2) (w.heap.size + 1) v0 v1 v2).heap[w.heap.size]? = some (.cells #[u0, u1, u2] 25 (0, 0))) := ⟨fun u0 u1 u2 v0 v1 v2 => far3 (set3_blk u0 u1 u2 bN) (by omega) v0 v1 v2⟩; have bM := fun (u0 u1 u2 : Value) => far3 bM6 hne u0 u1 u2; clear hoy' HB6 HX6 HKY hbw hky hg6 bP6)
    go_wp2_with fail
    refine hK.out _ _ ⟨fun _ => HFk, ?_⟩
    clear hK K'
    (try simp only [Act.put, List.setIfInBounds_toArray, List.set_cons_zero, List.set_cons_succ])
    have n0 := (blk_cell bN 0).trans rfl
    have n1 := (blk_cell bN 1).trans rfl
    have n2 := (blk_cell bN 2).trans rfl
    have m0 := blk_frozen bN 0
    have m1 := blk_frozen bN 1
    have m2 := blk_frozen bN 2
    have b1 := bM (.int .i64 x.f0) (.int .i64 x.f1) (.slice A3 x.f2.length c3)
    have q0 := (blk_cell b1 0).trans rfl
    have q1 := (blk_cell b1 1).trans rfl
    have q2 := (blk_cell b1 2).trans rfl
    have r0 := blk_frozen b1 0
    have r1 := blk_frozen b1 1
    have r2 := blk_frozen b1 2
    unfold set3 at q0 q1 q2 r0 r1 r2
    refine Za.nextL 3 (by kernel_rfl) rfl (fun K' hK => ?_)
    go_simp
    refine hK.out _ _ ⟨fun h => absurd (by simp) h, ?_⟩
    clear hK K'
    (try simp only [Act.put, List.setIfInBounds_toArray, List.set_cons_zero, List.set_cons_succ])
    refine Za.nextL 4 (by kernel_rfl) rfl (fun K' hK => ?_)
    go_simp
    refine hK.out _ _ ⟨fun h => absurd (by simp) h, ?_⟩
    clear hK K'
    (try simp only [Act.put, List.setIfInBounds_toArray, List.set_cons_zero, List.set_cons_succ])
    refine Za.Walk.done (by kernel_rfl) ?_
    go_wp2
    refine bodyPost_ret (results_cc rfl _ _ w.heap.size (w.heap.size + 1) 25 #[.int .i64 x.f0, .int .i64 x.f1, .slice A3 x.f2.length c3] #[.int .i64 y.f0, .int .i64 y.f1, .slice A6 y.f2.length c6] (0, 0) (0, 0) _ rfl rfl (HNx.out _ _ _ _ _ _) (set3_blk _ _ _ b1) Try.underlying25 rfl ⟨by kernel_rfl, by kernel_rfl⟩) rfl ?_
    exact HEND.out
end Go.Proofs.Ytjeojdbfpncnkaa.Dc
