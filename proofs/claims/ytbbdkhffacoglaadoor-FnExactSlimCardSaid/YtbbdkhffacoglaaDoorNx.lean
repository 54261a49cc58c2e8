
/- FnExactSlim: the law's walk. -/
import Derived.Test.YtbbdkhffacoglaaDoorNw
import Derived.Test.YtbbdkhffacoglaaDoorJe
import Derived.Test.YtbbdkhffacoglaaDoorJf
set_option linter.unusedVariables false
set_option linter.unusedSimpArgs false
namespace Go.Proofs.YtbbdkhffacoglaaDoor.Nx
open Go.RowKit Go.Proofs.YtbbdkhffacoglaaDoorW.PrintWords Go.Proofs.YtbbdkhffacoglaaDoor.Ja Go.Proofs.YtbbdkhffacoglaaDoor.Jb Go.Proofs.YtbbdkhffacoglaaDoor.Jc Go.Proofs.YtbbdkhffacoglaaDoor.Jd Go.Proofs.YtbbdkhffacoglaaDoor.Je Go.Proofs.YtbbdkhffacoglaaDoor.Jf Go.Proofs.YtbbdkhffacoglaaDoor.Jg Go.Proofs.YtbbdkhffacoglaaDoor.Jh Go.Proofs.YtbbdkhffacoglaaDoor.Ji Go.Proofs.YtbbdkhffacoglaaDoor.Jj Go.Proofs.YtbbdkhffacoglaaDoor.Jk Go.Proofs.YtbbdkhffacoglaaDoor.Na Go.Proofs.YtbbdkhffacoglaaDoor.Nb Go.Proofs.YtbbdkhffacoglaaDoor.Nc Go.Proofs.YtbbdkhffacoglaaDoor.Nf Go.Proofs.YtbbdkhffacoglaaDoor.Nm Go.Proofs.YtbbdkhffacoglaaDoor.Nw

abbrev xc (x : Ex) (A : Option Addr) (c : Nat) : Array Value := #[.int .i64 x.f0, .int .i64 x.f1, .int .i64 x.f2, .slice A x.f3.length c]
/-- what lies in memory behind the first copies: x0 (a row from bx on, below its box N6), what the program gave (from bg on, below its box N8) -/
structure LawMem (w5 W : World) (x y : Ex) (bx N6 bg N8 : Nat) (A6 : Option Addr) (c6 : Nat) (A7 : Option Addr) (c7 : Nat) (lx lg : List Ex) : Prop where
  h5 : Below w5.heap.size w5 W
  x0 : SE W bx (fun k => k < N6) (.slice A6 x.f3.length c6) lx
  b6 : W.heap[N6]? = some (.cells (xc x A6 c6) 29 (0, 0))
  g : SE W bg (fun k => k < N8) (.slice A7 y.f3.length c7) lg
  b8 : W.heap[N8]? = some (.cells (xc y A7 c7) 29 (0, 0))
  i1 : w5.heap.size ≤ bx
  i2 : bx ≤ N6
  i3 : N6 < bg
  i4 : bg ≤ N8
section
variable {w5 W W' : World} {x y : Ex} {bx N6 bg N8 : Nat} {A6 A7 : Option Addr} {c6 c7 : Nat} {lx lg : List Ex}
theorem LawMem.below (h : LawMem w5 W x y bx N6 bg N8 A6 c6 A7 c7 lx lg) (hb : Below W.heap.size W W') : LawMem w5 W' x y bx N6 bg N8 A6 c6 A7 c7 lx lg :=
  ⟨below_then h.h5 h.h5.size hb, Kd.S_below h.x0 hb, blk_below h.b6 hb, Kd.S_below h.g hb, blk_below h.b8 hb, h.i1, h.i2, h.i3, h.i4⟩
theorem LawMem.markX {lx' : List Ex} (h : LawMem w5 W x y bx N6 bg N8 A6 c6 A7 c7 lx lg) (hf : Fr (fun j => j < N6 ∧ bx ≤ j) W W') (hs : SE W' bx (fun k => k < N6) (.slice A6 x.f3.length c6) lx') : LawMem w5 W' x y bx N6 bg N8 A6 c6 A7 c7 lx' lg :=
  ⟨below_trans h.h5 (hf.below h.h5.size (fun k hk => Nat.le_trans h.i1 hk.2)), hs, (hf.block N6 (blk_lt h.b6) (fun hk => absurd hk.1 (Nat.lt_irrefl _))).trans h.b6,
    Kd.S_mono (Kd.S_step (Kd.S_mono (Kd.S_bound h.g) (ok' := fun k => k < N8 ∧ bg ≤ k) (fun k hk => ⟨hk.1, hk.2.1⟩)) (fun k hk hlt => hf.block k hlt (fun hj => by have := hj.1; have := hk.2; have := h.i3; omega))) (fun k hk => hk.1),
    (hf.block N8 (blk_lt h.b8) (fun hk => by have := hk.1; have := h.i3; have := h.i4; omega)).trans h.b8, h.i1, h.i2, h.i3, h.i4⟩
theorem LawMem.markG {lg' : List Ex} (h : LawMem w5 W x y bx N6 bg N8 A6 c6 A7 c7 lx lg) (hf : Fr (fun j => j < N8 ∧ bg ≤ j) W W') (hs : SE W' bg (fun k => k < N8) (.slice A7 y.f3.length c7) lg') : LawMem w5 W' x y bx N6 bg N8 A6 c6 A7 c7 lx lg' :=
  ⟨below_trans h.h5 (hf.below h.h5.size (fun k hk => by have := hk.2; have := h.i1; have := h.i2; have := h.i3; omega)),
    Kd.S_mono (Kd.S_step h.x0 (fun k hk hlt => hf.block k hlt (fun hj => by have := hj.2; have := h.i3; omega))) (fun k hk => hk),
    (hf.block N6 (blk_lt h.b6) (fun hk => by have := hk.2; have := h.i3; omega)).trans h.b6, hs, (hf.block N8 (blk_lt h.b8) (fun hk => absurd hk.1 (Nat.lt_irrefl _))).trans h.b8, h.i1, h.i2, h.i3, h.i4⟩
theorem LawMem.eG (h : LawMem w5 W x y bx N6 bg N8 A6 c6 A7 c7 lx lg) : IsEL 29 W lg A7 c7 := (S_isEL h.g).2
theorem LawMem.eX (h : LawMem w5 W x y bx N6 bg N8 A6 c6 A7 c7 lx lg) : IsEL 29 W lx A6 c6 := (S_isEL h.x0).2
end
set_option maxHeartbeats 8000000 in
set_option maxRecDepth 100000 in
theorem walk (x : Ex) (A : Option Addr) (c : Nat) (w : World) (hWd : Words w) (hL : IsEL 29 w x.f3 A c) :
    Calls Tryd.prog 4 #[X x.f0 x.f1 x.f2 A x.f3.length c] w fun e w' => e = .returned (.bool true) ∧ Below w.heap.size w w' := by
  obtain ⟨W0, hW⟩ : ∃ W, W = w.alloc (.cells (xc x A c) 24) := ⟨_, rfl⟩
  have hb0 : Below w.heap.size w W0 := by rw [hW]; exact below_alloc (Below.refl _ _) _
  have bA : W0.heap[w.heap.size]? = some (.cells (xc x A c) 24 (0, 0)) := by rw [hW]; exact blk_new _ _
  have HW := Aside0.mk hW
  have HB0 := Aside0.mk hb0
  have HL := Aside0.mk (hL.below hb0)
  have HWD := Aside0.mk hWd
  clear hL hW hb0 hWd
  have p0 := (blk_cell bA 0).trans rfl
  have p1 := (blk_cell bA 1).trans rfl
  have p2 := (blk_cell bA 2).trans rfl
  have p3 := (blk_cell bA 3).trans rfl
  by_cases h : (1048576 : Int) - cntL x.f3 < 0
  · have HI := Aside0.mk (show szI 1048576 (cntL x.f3) = -1 from if_pos h)
    clear h
    go_enter Tryd.func4, Tryd.ntmps4
    go_upto_region 1 with fail
    rw [← HW.out]
    go_wp2_with (go_at_call 7; refine (szEx_any x A c 1048576 (by omega) (by omega) _ HL.out).mono ?_; rintro e w2 ⟨rfl, hb2⟩; rw [HI.out]; have HB2 := Aside0.mk (below_then HB0.out HB0.out.size hb2); clear hb2)
    go_ret
    exact ⟨rfl, HB2.out⟩
  obtain ⟨r, hr⟩ : ∃ r : Int, r = 1048576 - cntL x.f3 := ⟨_, rfl⟩
  have HI := Aside0.mk (show szI 1048576 (cntL x.f3) = r from (if_neg h).trans hr.symm)
  have d : decide (r < 0) = false := decide_eq_false (by omega)
  have hcn : cntL x.f3 ≤ 1048576 := by omega
  obtain ⟨y, hy⟩ : ∃ y, y = slO x := ⟨_, rfl⟩
  have hpc := slO_small x
  rw [← hy] at hpc
  have HY : Aside0 (slO x = y) := ⟨hy.symm⟩
  clear h hr hy
  go_enter Tryd.func4, Tryd.ntmps4
  go_upto_region 1 with fail
  rw [← HW.out]
  go_upto_region 5 with (go_at_call 7; refine (szEx_any x A c 1048576 (by omega) (by omega) _ HL.out).mono ?_; rintro e w2 ⟨rfl, hb2⟩; rw [HI.out]; have bA2 := blk_below bA hb2; have HL2 := Aside0.mk (HL.out.below hb2); have HB2 := Aside0.mk (below_then HB0.out HB0.out.size hb2); clear hb2)
  clear p0 p1 p2 p3 bA
  have p0 := (blk_cell bA2 0).trans rfl
  have p1 := (blk_cell bA2 1).trans rfl
  have p2 := (blk_cell bA2 2).trans rfl
  have p3 := (blk_cell bA2 3).trans rfl
  go_upto_region 6 with (first
    | (go_at_call 16; refine (slimS_any x A3 c3 _ hcn HE3.out).mono ?_; rintro e w4 ⟨v4, rfl, hs4, hb4⟩; rw [HY.out] at hs4; rw [HY.out]; obtain ⟨A5, c5, rfl⟩ := Kd.S_slice hs4; have hba := below_alloc (Below.refl w4.heap.size w4) (.cells (xc y A5 c5) 29); have bA4 := blk_below (blk_below bA3 hb4) hba; have b5 := blk_new w4 (.cells (xc y A5 c5) 29); have HL4 := Aside0.mk ((HL3.out.below hb4).below hba); have HB4 := Aside0.mk (below_then (below_then HB3.out HB3.out.size hb4) (Nat.le_trans HB3.out.size hb4.size) hba); have HE5 := Aside0.mk ((S_isEL hs4).2.below hba); clear hs4 hb4 hba)
    | (go_at_call 9; refine (toEx_any x A c _ hcn HL2.out).mono ?_; rintro e w3 ⟨v3, rfl, hs3, hb3⟩; obtain ⟨A3, c3, rfl⟩ := Kd.S_slice hs3; have bA3 := blk_below bA2 hb3; have HL3 := Aside0.mk (HL2.out.below hb3); have HB3 := Aside0.mk (below_then HB2.out HB2.out.size hb3); have HE3 := Aside0.mk (S_isEL hs3).2; clear hs3 hb3))
  clear p0 p1 p2 p3 bA2 bA3
  generalize hN5 : w4.heap.size = N5 at b5 ⊢
  generalize w4.alloc (.cells (xc y A5 c5) 29) = w5 at bA4 b5 HL4 HB4 HE5 ⊢
  clear hN5
  have p0 := (blk_cell bA4 0).trans rfl
  have p1 := (blk_cell bA4 1).trans rfl
  have p2 := (blk_cell bA4 2).trans rfl
  have p3 := (blk_cell bA4 3).trans rfl
  go_upto_region 7 with (go_at_call 9; refine (toEx_any x A c _ hcn HL4.out).mono ?_; rintro e w6 ⟨v6, rfl, hs6, hb6⟩; obtain ⟨A6, c6, rfl⟩ := Kd.S_slice hs6; have hba := below_alloc (Below.refl w6.heap.size w6) (.cells (xc x A6 c6) 29); have b6 := blk_new w6 (.cells (xc x A6 c6) 29); have HX6 := Aside0.mk (Kd.S_below (Kd.S_mono (Kd.S_bound hs6) (ok' := fun k => k < w6.heap.size) (fun k hk => hk.2.2.1)) hba); have HI6 := Aside0.mk hb6.size; have HB6 := Aside0.mk (below_then hb6 hb6.size hba); clear hs6 hb6 hba)
  clear p0 p1 p2 p3
  generalize hN6 : w6.heap.size = N6 at b6 HX6 HI6 ⊢
  generalize w6.alloc (.cells (xc x A6 c6) 29) = W6 at b6 HX6 HB6 ⊢
  clear hN6
  have p0 := (blk_cell b6 0).trans rfl
  have p1 := (blk_cell b6 1).trans rfl
  have p2 := (blk_cell b6 2).trans rfl
  have p3 := (blk_cell b6 3).trans rfl
  go_upto_region 8 with (go_at_call 17; refine (slimI_any x A6 c6 _ hcn (HWD.out.below (below_then HB4.out HB4.out.size HB6.out)) (S_isEL HX6.out).2).mono ?_; rintro e w7 ⟨v7, rfl, hs7, hb7⟩; rw [HY.out] at hs7; rw [HY.out]; obtain ⟨A7, c7, rfl⟩ := Kd.S_slice hs7; have hba := below_alloc (Below.refl w7.heap.size w7) (.cells (xc y A7 c7) 29); have b8 := blk_new w7 (.cells (xc y A7 c7) 29); have HM8 : Aside0 (LawMem w5 (w7.alloc (.cells (xc y A7 c7) 29)) x y w5.heap.size N6 W6.heap.size w7.heap.size A6 c6 A7 c7 x.f3 y.f3) := ⟨⟨below_then (below_then HB6.out HB6.out.size hb7) (Nat.le_trans HB6.out.size hb7.size) hba, Kd.S_below (Kd.S_below HX6.out hb7) hba, blk_below (blk_below b6 hb7) hba, Kd.S_below (Kd.S_mono (Kd.S_bound hs7) (ok' := fun k => k < w7.heap.size) (fun k hk => hk.2.2.1)) hba, b8, Nat.le_refl _, HI6.out, blk_lt b6, hb7.size⟩⟩; clear hs7 hb7 hba b8)
  clear p0 p1 p2 p3 b6
  generalize W6.heap.size = bg at HM8
  generalize hN8 : w7.heap.size = N8 at HM8 ⊢
  generalize w7.alloc (.cells (xc y A7 c7) 29) = W8 at HM8 ⊢
  clear hN8 HX6 HB6 HI6
  have HA5 := Aside0.mk bA4
  have HB5b := Aside0.mk b5
  clear bA4 b5
  obtain ⟨kx, hkx⟩ : ∃ k : Int, k = 1 + 3 * (cntL x.f3 : Int) := ⟨_, rfl⟩
  obtain ⟨mg, hmg⟩ : ∃ k : Int, k = 1 + 3 * (cntL y.f3 : Int) := ⟨_, rfl⟩
  have HKX := Aside0.mk hkx
  have HMG := Aside0.mk hmg
  have dx : decide (kx < 0) = false := decide_eq_false (by omega)
  have dm : decide (mg < 0) = false := decide_eq_false (by omega)
  have xm : (mg != mg) = false := by simp
  have hx62 : 1 + 3 * (cntL x.f3 : Int) ≤ 4611686018427387904 := by omega
  have hy62 : 1 + 3 * (cntL y.f3 : Int) ≤ 4611686018427387904 := by omega
  clear hkx hmg d
  have q80 := (blk_cell HM8.out.b8 0).trans rfl
  have q81 := (blk_cell HM8.out.b8 1).trans rfl
  have q82 := (blk_cell HM8.out.b8 2).trans rfl
  have q83 := (blk_cell HM8.out.b8 3).trans rfl
  have q50 := (blk_cell (blk_below HB5b.out HM8.out.h5) 0).trans rfl
  have q51 := (blk_cell (blk_below HB5b.out HM8.out.h5) 1).trans rfl
  have q52 := (blk_cell (blk_below HB5b.out HM8.out.h5) 2).trans rfl
  have q53 := (blk_cell (blk_below HB5b.out HM8.out.h5) 3).trans rfl
  go_upto_region 10 with (go_at_call 12; refine (eqEx_any y A7 A5 c7 c5 _ HM8.out.eG (HE5.out.below HM8.out.h5)).mono ?_; rintro e w9 ⟨rfl, hb9⟩; have HM9 := Aside0.mk (HM8.out.below hb9); clear hb9)
  clear q80 q81 q82 q83 q50 q51 q52 q53
  clear HM8
  have F : ∀ w', Below w9.heap.size w9 w' → (fun w' => (w'.cell? ⟨N6, 0, none⟩ = some (.int .i64 x.f0) ∧ w'.cell? ⟨N6, 1, none⟩ = some (.int .i64 x.f1) ∧ w'.cell? ⟨N6, 2, none⟩ = some (.int .i64 x.f2) ∧ w'.cell? ⟨N6, 3, none⟩ = some (.slice A6 x.f3.length c6)) ∧ (w'.cell? ⟨w.heap.size, 0, none⟩ = some (.int .i64 x.f0) ∧ w'.cell? ⟨w.heap.size, 1, none⟩ = some (.int .i64 x.f1) ∧ w'.cell? ⟨w.heap.size, 2, none⟩ = some (.int .i64 x.f2) ∧ w'.cell? ⟨w.heap.size, 3, none⟩ = some (.slice A x.f3.length c))) w' := fun w' h =>
    have h6 := blk_below HM9.out.b6 h
    have hA := blk_below (blk_below HA5.out HM9.out.h5) h
    ⟨⟨(blk_cell h6 0).trans rfl, (blk_cell h6 1).trans rfl, (blk_cell h6 2).trans rfl, (blk_cell h6 3).trans rfl⟩, ⟨(blk_cell hA 0).trans rfl, (blk_cell hA 1).trans rfl, (blk_cell hA 2).trans rfl, (blk_cell hA 3).trans rfl⟩⟩
  have HD9 : Below w9.heap.size w9 w9.drew := below_drew (Below.refl _ _)
  refine Za.regionL (fun w' => (w'.cell? ⟨N6, 0, none⟩ = some (.int .i64 x.f0) ∧ w'.cell? ⟨N6, 1, none⟩ = some (.int .i64 x.f1) ∧ w'.cell? ⟨N6, 2, none⟩ = some (.int .i64 x.f2) ∧ w'.cell? ⟨N6, 3, none⟩ = some (.slice A6 x.f3.length c6)) ∧ (w'.cell? ⟨w.heap.size, 0, none⟩ = some (.int .i64 x.f0) ∧ w'.cell? ⟨w.heap.size, 1, none⟩ = some (.int .i64 x.f1) ∧ w'.cell? ⟨w.heap.size, 2, none⟩ = some (.int .i64 x.f2) ∧ w'.cell? ⟨w.heap.size, 3, none⟩ = some (.slice A x.f3.length c))) [] (by kernel_rfl) ?_
  have HS : (fun w' => (w'.cell? ⟨N6, 0, none⟩ = some (.int .i64 x.f0) ∧ w'.cell? ⟨N6, 1, none⟩ = some (.int .i64 x.f1) ∧ w'.cell? ⟨N6, 2, none⟩ = some (.int .i64 x.f2) ∧ w'.cell? ⟨N6, 3, none⟩ = some (.slice A6 x.f3.length c6)) ∧ (w'.cell? ⟨w.heap.size, 0, none⟩ = some (.int .i64 x.f0) ∧ w'.cell? ⟨w.heap.size, 1, none⟩ = some (.int .i64 x.f1) ∧ w'.cell? ⟨w.heap.size, 2, none⟩ = some (.int .i64 x.f2) ∧ w'.cell? ⟨w.heap.size, 3, none⟩ = some (.slice A x.f3.length c))) w9.drew := F _ HD9
  refine Za.takeL 0 (v := ?va0) rfl (by kernel_rfl) (by kernel_rfl) (by kernel_rfl) (by kernel_rfl) (fun _ _ _ h => h) (Or.inl ⟨by rfl, ?hya0⟩) HS ?resta0
  case hya0 => (intro w hSw; (try dsimp only at hSw); go_simp; try with_reducible rfl)
  (try simp only [Act.put, List.setIfInBounds_toArray, List.set_cons_zero, List.set_cons_succ])
  refine Za.takeL 1 (v := ?va1) rfl (by kernel_rfl) (by kernel_rfl) (by kernel_rfl) (by kernel_rfl) (fun _ _ _ h => h) (Or.inl ⟨by rfl, ?hya1⟩) HS ?resta1
  case hya1 => (intro w hSw; (try dsimp only at hSw); go_simp; try with_reducible rfl)
  (try simp only [Act.put, List.setIfInBounds_toArray, List.set_cons_zero, List.set_cons_succ])
  clear HS
  refine Za.nextL 2 (by kernel_rfl) rfl (fun K' hK => ?_)
  go_simp
  go_wp2_with (go_at_call 9; refine (toEx_any x A c _ hcn ((HL4.out.below HM9.out.h5).below HD9)).mono ?_; rintro e w10 ⟨v10, rfl, hs10, hb10⟩; obtain ⟨A10, c10, rfl⟩ := Kd.S_slice hs10; have HB10 : Below w9.heap.size w9 w10 := keepD hb10; have HE10 := Aside0.mk (S_isEL hs10).2; clear hs10 hb10)
  refine hK.out _ _ ⟨fun _ => F _ HB10, ?_⟩
  clear hK K'
  (try simp only [Act.put, List.setIfInBounds_toArray, List.set_cons_zero, List.set_cons_succ])
  refine Za.nextL 3 (by kernel_rfl) rfl (fun K' hK => ?_)
  go_simp
  go_wp2_with (go_at_call 12; refine (eqEx_any x A6 A10 c6 c10 _ (HM9.out.eX.below HB10) HE10.out).mono ?_; rintro e w11 ⟨rfl, hb11⟩; have HB11 : Below w9.heap.size w9 w11 := below_then HB10 HB10.size hb11; clear hb11)
  refine hK.out _ _ ⟨fun _ => F _ HB11, ?_⟩
  clear hK K'
  (try simp only [Act.put, List.setIfInBounds_toArray, List.set_cons_zero, List.set_cons_succ])
  have HS : (fun w' => (w'.cell? ⟨N6, 0, none⟩ = some (.int .i64 x.f0) ∧ w'.cell? ⟨N6, 1, none⟩ = some (.int .i64 x.f1) ∧ w'.cell? ⟨N6, 2, none⟩ = some (.int .i64 x.f2) ∧ w'.cell? ⟨N6, 3, none⟩ = some (.slice A6 x.f3.length c6)) ∧ (w'.cell? ⟨w.heap.size, 0, none⟩ = some (.int .i64 x.f0) ∧ w'.cell? ⟨w.heap.size, 1, none⟩ = some (.int .i64 x.f1) ∧ w'.cell? ⟨w.heap.size, 2, none⟩ = some (.int .i64 x.f2) ∧ w'.cell? ⟨w.heap.size, 3, none⟩ = some (.slice A x.f3.length c))) w11 := F _ HB11
  refine Za.takeL 4 (v := ?va4) rfl (by kernel_rfl) (by kernel_rfl) (by kernel_rfl) (by kernel_rfl) (fun _ _ _ h => h) (Or.inl ⟨by rfl, ?hya4⟩) HS ?resta4
  case hya4 => (intro w hSw; (try dsimp only at hSw); go_simp; try with_reducible rfl)
  (try simp only [Act.put, List.setIfInBounds_toArray, List.set_cons_zero, List.set_cons_succ])
  refine Za.Walk.done (by kernel_rfl) ?_
  clear HS
  have HM11 := Aside0.mk (HM9.out.below HB11)
  clear HM9 HB11 HB10 HD9 F HE10
  have q60 := (blk_cell HM11.out.b6 0).trans rfl
  have q61 := (blk_cell HM11.out.b6 1).trans rfl
  have q62 := (blk_cell HM11.out.b6 2).trans rfl
  have q63 := (blk_cell HM11.out.b6 3).trans rfl
  go_upto_region 14 with (go_at_call 13; refine (markEx_any x.f0 x.f1 x.f2 x.f3 w5.heap.size _ (.slice A6 x.f3.length c6) 1 _ (by omega) hx62 HM11.out.h5.size HM11.out.x0).mono ?_; rintro e w12 ⟨rfl, hs12, hf12⟩; rw [← HKX.out]; have HM12 := Aside0.mk (HM11.out.markX hf12 hs12); clear hs12 hf12)
  clear q60 q61 q62 q63
  clear HM11
  have q80 := (blk_cell HM12.out.b8 0).trans rfl
  have q81 := (blk_cell HM12.out.b8 1).trans rfl
  have q82 := (blk_cell HM12.out.b8 2).trans rfl
  have q83 := (blk_cell HM12.out.b8 3).trans rfl
  have q50 := (blk_cell (blk_below HB5b.out HM12.out.h5) 0).trans rfl
  have q51 := (blk_cell (blk_below HB5b.out HM12.out.h5) 1).trans rfl
  have q52 := (blk_cell (blk_below HB5b.out HM12.out.h5) 2).trans rfl
  have q53 := (blk_cell (blk_below HB5b.out HM12.out.h5) 3).trans rfl
  go_upto_region 16 with (go_at_call 12; refine (eqEx_any y A7 A5 c7 c5 _ HM12.out.eG (HE5.out.below HM12.out.h5)).mono ?_; rintro e w13 ⟨rfl, hb13⟩; have HM13 := Aside0.mk (HM12.out.below hb13); clear hb13)
  clear q80 q81 q82 q83 q50 q51 q52 q53
  clear HM12
  have q80 := (blk_cell HM13.out.b8 0).trans rfl
  have q81 := (blk_cell HM13.out.b8 1).trans rfl
  have q82 := (blk_cell HM13.out.b8 2).trans rfl
  have q83 := (blk_cell HM13.out.b8 3).trans rfl
  go_upto_region 18 with (go_at_call 13; refine (markEx_any y.f0 y.f1 y.f2 y.f3 bg _ (.slice A7 y.f3.length c7) 1 _ (by omega) hy62 (Nat.le_trans HM13.out.i4 (Nat.le_of_lt (blk_lt HM13.out.b8))) HM13.out.g).mono ?_; rintro e w14 ⟨rfl, hs14, hf14⟩; rw [← HMG.out]; have HM14 := Aside0.mk (HM13.out.markG hf14 hs14); clear hs14 hf14)
  clear q80 q81 q82 q83
  clear HM13
  have q80 := (blk_cell HM14.out.b8 0).trans rfl
  have q81 := (blk_cell HM14.out.b8 1).trans rfl
  have q82 := (blk_cell HM14.out.b8 2).trans rfl
  have q83 := (blk_cell HM14.out.b8 3).trans rfl
  go_upto_region 24 with (go_at_call 18; refine (heldEx_any y.f0 y.f1 y.f2 y.f3 A7 c7 1 _ (by omega) hy62 HM14.out.eG).mono ?_; rintro e w15 ⟨rfl, hb15⟩; rw [← HMG.out]; have HM15 := Aside0.mk (HM14.out.below hb15); clear hb15)
  clear q80 q81 q82 q83
  clear HM14
  have qA0 := (blk_cell (blk_below HA5.out HM15.out.h5) 0).trans rfl
  have qA1 := (blk_cell (blk_below HA5.out HM15.out.h5) 1).trans rfl
  have qA2 := (blk_cell (blk_below HA5.out HM15.out.h5) 2).trans rfl
  have qA3 := (blk_cell (blk_below HA5.out HM15.out.h5) 3).trans rfl
  go_upto_region 25 with (first
    | (go_at_call 17; refine (slimI_any x A16 c16 _ hcn (HWD.out.below (below_then HB4.out HB4.out.size HM16.out.h5)) HE16.out).mono ?_; rintro e w17 ⟨v17, rfl, hs17, hb17⟩; rw [HY.out] at hs17; rw [HY.out]; obtain ⟨A17, c17, rfl⟩ := Kd.S_slice hs17; have hba := below_alloc (Below.refl w17.heap.size w17) (.cells (xc y A17 c17) 29); have b17 := blk_new w17 (.cells (xc y A17 c17) 29); have HM17 := Aside0.mk ((HM16.out.below hb17).below hba); have HE17 := Aside0.mk ((S_isEL hs17).2.below hba); clear hs17 hb17 hba)
    | (go_at_call 9; refine (toEx_any x A c _ hcn (HL4.out.below HM15.out.h5)).mono ?_; rintro e w16 ⟨v16, rfl, hs16, hb16⟩; obtain ⟨A16, c16, rfl⟩ := Kd.S_slice hs16; have HM16 := Aside0.mk (HM15.out.below hb16); have HE16 := Aside0.mk (S_isEL hs16).2; clear hs16 hb16))
  clear qA0 qA1 qA2 qA3
  clear HM15 HM16 HE16
  generalize hN17 : w17.heap.size = N17 at b17 ⊢
  generalize w17.alloc (.cells (xc y A17 c17) 29) = W17 at b17 HM17 HE17 ⊢
  clear hN17
  have r0 := (blk_cell b17 0).trans rfl
  have r1 := (blk_cell b17 1).trans rfl
  have r2 := (blk_cell b17 2).trans rfl
  have r3 := (blk_cell b17 3).trans rfl
  have q50 := (blk_cell (blk_below HB5b.out HM17.out.h5) 0).trans rfl
  have q51 := (blk_cell (blk_below HB5b.out HM17.out.h5) 1).trans rfl
  have q52 := (blk_cell (blk_below HB5b.out HM17.out.h5) 2).trans rfl
  have q53 := (blk_cell (blk_below HB5b.out HM17.out.h5) 3).trans rfl
  go_upto_region 27 with (go_at_call 12; refine (eqEx_any y A17 A5 c17 c5 _ HE17.out (HE5.out.below HM17.out.h5)).mono ?_; rintro e w18 ⟨rfl, hb18⟩; have HM18 := Aside0.mk (HM17.out.below hb18); clear hb18)
  clear q50 q51 q52 q53
  clear r0 r1 r2 r3 HM17 b17
  have q80 := (blk_cell HM18.out.b8 0).trans rfl
  have q81 := (blk_cell HM18.out.b8 1).trans rfl
  have q82 := (blk_cell HM18.out.b8 2).trans rfl
  have q83 := (blk_cell HM18.out.b8 3).trans rfl
  go_wp2_with (go_at_call 18; refine (heldEx_any y.f0 y.f1 y.f2 y.f3 A7 c7 1 _ (by omega) hy62 HM18.out.eG).mono ?_; rintro e w19 ⟨rfl, hb19⟩; rw [← HMG.out]; have HM19 := Aside0.mk (HM18.out.below hb19); clear hb19)
  go_ret
  exact ⟨rfl, below_then HB4.out HB4.out.size HM19.out.h5⟩
end Go.Proofs.YtbbdkhffacoglaaDoor.Nx
