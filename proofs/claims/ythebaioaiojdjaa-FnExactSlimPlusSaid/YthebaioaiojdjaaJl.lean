
/- The whole delay and what is delayed: the program's and the reference's. -/
import Derived.Test.YthebaioaiojdjaaJk
import Derived.Test.YthebaioaiojdjaaJj
set_option linter.unusedVariables false
set_option linter.unusedSimpArgs false
namespace Go.Proofs.Ythebaioaiojdjaa.Jl
open Go.RowKit Go.Proofs.YthebaioaiojdjaaW.PrintWords Go.Proofs.Ythebaioaiojdjaa.Ja Go.Proofs.Ythebaioaiojdjaa.Jb Go.Proofs.Ythebaioaiojdjaa.Jc Go.Proofs.Ythebaioaiojdjaa.Jd Go.Proofs.Ythebaioaiojdjaa.Jg Go.Proofs.Ythebaioaiojdjaa.Jh Go.Proofs.Ythebaioaiojdjaa.Ji Go.Proofs.Ythebaioaiojdjaa.Jj Go.Proofs.Ythebaioaiojdjaa.Jk

def plX (x : Ex) : Int × Ex := if h : x.f0 = 7 ∧ 0 < x.f3.length then (x.f2 + (plX (x.f3.getD 0 zE)).1, (plX (x.f3.getD 0 zE)).2) else (0, x)
termination_by cntL x.f3
decreasing_by
  all_goals exact cnt_mem (getE_mem h.2)
theorem plX_step {x : Ex} (h : x.f0 = 7) (h2 : 0 < x.f3.length) : plX x = (x.f2 + (plX (x.f3.getD 0 zE)).1, (plX (x.f3.getD 0 zE)).2) := by rw [plX, dif_pos ⟨h, h2⟩]
theorem plX_stop {x : Ex} (h : ¬ x.f0 = 7) : plX x = (0, x) := by rw [plX, dif_neg (fun g => h g.1)]
theorem plX_cnt (x : Ex) : cntL (plX x).2.f3 ≤ cntL x.f3 := by
  by_cases h : x.f0 = 7 ∧ 0 < x.f3.length
  · have h1 := cnt_mem (getE_mem h.2)
    have h2 := plX_cnt (x.f3.getD 0 zE)
    rw [plX_step h.1 h.2]
    exact Nat.le_trans h2 (Nat.le_of_lt h1)
  · rw [plX, dif_neg h]
    exact Nat.le_refl _
termination_by cntL x.f3
def resX (x : Ex) : Int × Ex := if okE x then plX x else (0, zE)
theorem okE_cnt {x : Ex} (h : okE x = true) : 1 + cntL x.f3 ≤ 12 ∧ formB x = true := by
  unfold okE at h
  rw [Bool.and_eq_true, Bool.and_eq_true] at h
  exact ⟨of_decide_eq_true h.1.1, h.2⟩
theorem resX_cnt (x : Ex) : cntL (resX x).2.f3 ≤ 12 := by
  unfold resX
  by_cases h : okE x = true
  · rw [if_pos h]
    have h1 := (okE_cnt h).1
    have h2 := plX_cnt x
    omega
  · rw [if_neg h]
    show cntL [] ≤ 12
    rw [cntL_nil]; omega
theorem form_head {x : Ex} (h : formB x = true) : HeadOk x.f0 x.f1 x.f2 x.f3.length ∧ ∀ y ∈ x.f3, formB y = true := by
  rw [formB_eq, Bool.and_eq_true, formL_all] at h
  exact ⟨of_decide_eq_true h.1, fun y hy => List.all_eq_true.1 h.2 y hy⟩
theorem set4_far {w : World} {B G : Nat} {t : TypeId} {cs : Array Value} (b : w.heap[B]? = some (.cells cs t (0, 0))) (h : B ≠ G) (u0 u1 u2 u3 : Value) : (set4 w G u0 u1 u2 u3).heap[B]? = some (.cells cs t (0, 0)) :=
  blk_far (blk_far (blk_far (blk_far b (p := ⟨G, 0, none⟩) h u0) (p := ⟨G, 1, none⟩) h u1) (p := ⟨G, 2, none⟩) h u2) (p := ⟨G, 3, none⟩) h u3
structure PlusMem (w wr : World) (x y : Ex) (s : Int) (A : Option Addr) (c : Nat) : Prop where
  blk : wr.heap[w.heap.size]? = some (.cells #[.int .i64 y.f0, .int .i64 y.f1, .int .i64 y.f2, .slice A y.f3.length c] 28 (0, 0))
  res : wr.heap[w.heap.size + 1]? = some (.cells #[.int .i64 0, .int .i64 0, .int .i64 0, .slice none 0 0] 28 (0, 0))
  bel : Below w.heap.size w wr
  kid : IsEL 28 w y.f3 A c
  form : formB y = true
  s0 : 0 ≤ s
  s1 : s + 20 * (1 + (cntL y.f3 : Int)) ≤ 260
  sum : s + (plX y).1 = (plX x).1
  end_ : (plX y).2 = (plX x).2
theorem PlusMem.step {w wr : World} {x y : Ex} {s : Int} {A : Option Addr} {c : Nat} (h : PlusMem w wr x y s A c) (h7 : y.f0 = 7) (hl : 0 < y.f3.length) {A2 : Option Addr} {c2 : Nat} (hk : IsEL 28 w (y.f3.getD 0 zE).f3 A2 c2) (hn : 1 ≤ y.f2 ∧ y.f2 ≤ 20) (o : Ex) (ho : y.f3.getD 0 zE = o) :
    PlusMem w (set4 wr w.heap.size (.int .i64 o.f0) (.int .i64 o.f1) (.int .i64 o.f2) (.slice A2 o.f3.length c2)) x o (s + y.f2) A2 c2 := by
  have hp := plX_step h7 hl
  rw [ho] at hp hk
  have hm : o ∈ y.f3 := ho ▸ getE_mem hl
  have hc := cnt_mem hm
  have h1 := h.s0
  have h2 := h.s1
  have h3 := h.sum
  have h4 := h.end_
  rw [hp] at h3 h4
  exact ⟨set4_blk _ _ _ _ h.blk, set4_far h.res (by omega) _ _ _ _, set4_below h.bel (Nat.le_refl _) _ _ _ _, hk, (form_head h.form).2 o hm, by omega, by omega, by show s + y.f2 + (plX o).1 = _; rw [← h3]; show _ = s + (y.f2 + (plX o).1); omega, h4⟩
theorem PlusMem.start {w W : World} {x : Ex} {A : Option Addr} {c : Nat} (b0 : W.heap[w.heap.size]? = some (.cells #[.int .i64 x.f0, .int .i64 x.f1, .int .i64 x.f2, .slice A x.f3.length c] 28 (0, 0)))
    (b1 : W.heap[w.heap.size + 1]? = some (.cells #[.int .i64 0, .int .i64 0, .int .i64 0, .slice none 0 0] 28 (0, 0))) (hb : Below w.heap.size w W) (hL : IsEL 28 w x.f3 A c) (hf : formB x = true) (hc : 1 + cntL x.f3 ≤ 12) : PlusMem w W x x 0 A c :=
  ⟨b0, b1, hb, hL, hf, Int.le_refl _, by omega, by omega, rfl⟩
theorem keepB {W w3 : World} {B : Nat} (h : Below B W w3) : Below B W w3.drew := ⟨h.os, h.tape, h.output, h.size, h.block⟩
def SlimOut (w w' : World) (p : Int × Ex) (e : Ending) : Prop := ∃ v, e = .returned (.tuple #[.int .i64 p.1, .agg #[.int .i64 p.2.f0, .int .i64 p.2.f1, .int .i64 p.2.f2, v]]) ∧ SE w' w.heap.size (fun _ => True) v p.2.f3 ∧ Below w.heap.size w w'
def PlusOut (w w' : World) (p : Int × Ex) (e : Ending) : Prop := ∃ A c, e = .returned (.tuple #[.int .i64 p.1, X p.2.f0 p.2.f1 p.2.f2 A p.2.f3.length c]) ∧ IsEL 28 w p.2.f3 A c ∧ Below w.heap.size w w'
set_option maxHeartbeats 4000000 in
set_option maxRecDepth 100000 in
theorem slimPlus_any (x : Ex) (A : Option Addr) (c : Nat) (w : World) (hc : cntL x.f3 ≤ 1048576) (hL : IsEL 28 w x.f3 A c) :
    Calls Try.prog 7 #[X x.f0 x.f1 x.f2 A x.f3.length c] w fun e w' => SlimOut w w' (resX x) e := by
  obtain ⟨hb0, b0, b1⟩ := boxes2 w #[.int .i64 x.f0, .int .i64 x.f1, .int .i64 x.f2, .slice A x.f3.length c] #[.int .i64 0, .int .i64 0, .int .i64 0, .slice none 0 0] 28 28
  have HL := Aside0.mk hL
  clear hL
  go_enter Try.func7, Try.ntmps7
  go_upto_region 1 with fail
  generalize (w.alloc (.cells #[.int .i64 x.f0, .int .i64 x.f1, .int .i64 x.f2, .slice A x.f3.length c] 28)).alloc (.cells #[.int .i64 0, .int .i64 0, .int .i64 0, .slice none 0 0] 28) = W at hb0 b0 b1 ⊢
  have p0 := (blk_cell b0 0).trans rfl
  have p1 := (blk_cell b0 1).trans rfl
  have p2 := (blk_cell b0 2).trans rfl
  have p3 := (blk_cell b0 3).trans rfl
  have HB0 := Aside0.mk hb0
  cases hk : okE x with
  | false =>
    have HK : Aside0 (resX x = (0, zE)) := ⟨by unfold resX; rw [hk]; rfl⟩
    have HKK := Aside0.mk hk
    clear hk
    go_upto_region 2 with (go_at_call 16; refine (exOk_any x A c _ hc (HL.out.below HB0.out)).mono ?_; rintro e w2 ⟨rfl, hb2⟩; rw [HKK.out]; have bR := blk_below b1 hb2; have HB2 := Aside0.mk (below_then HB0.out HB0.out.size hb2); clear hb2)
    clear p0 p1 p2 p3 b0 b1 hb0
    have t0 := blk_frozen bR 0
    have t1 := blk_frozen bR 1
    have t2 := blk_frozen bR 2
    have t3 := blk_frozen bR 3
    have s0 := (blk_cell bR 0).trans rfl
    have s1 := (blk_cell bR 1).trans rfl
    have s2 := (blk_cell bR 2).trans rfl
    have s3 := (blk_cell bR 3).trans rfl
    go_wp2
    refine bodyPost_ret (results_tc rfl _ _ (w.heap.size + 1) 28 #[.int .i64 0, .int .i64 0, .int .i64 0, .slice none 0 0] (0, 0) _ rfl (set4_blk _ _ _ _ bR) Try.underlying28 rfl (by kernel_rfl)) rfl ?_
    rw [HK.out]
    exact ⟨_, rfl, Kd.S_nil _ _ _ _ _, set4_below HB2.out (by omega) _ _ _ _⟩
  | true =>
  have hok := okE_cnt hk
  have HK : Aside0 (resX x = plX x) := ⟨by unfold resX; rw [hk]; rfl⟩
  have HKK := Aside0.mk hk
  clear hk
  go_upto_region 3 with (go_at_call 16; refine (exOk_any x A c _ hc (HL.out.below HB0.out)).mono ?_; rintro e w2 ⟨rfl, hb2⟩; rw [HKK.out]; have HM0 := Aside0.mk (PlusMem.start (blk_below b0 hb2) (blk_below b1 hb2) (below_then HB0.out HB0.out.size hb2) HL.out hok.2 hok.1); clear hb2)
  clear p0 p1 p2 p3 b0 b1 hb0 HKK
  go_wp2
  go_loopw [4] (fun vs wr => ∃ (y : Ex) (s : Int) (A' : Option Addr) (c' : Nat), vs = .int .i64 s ∧ Aside0 (PlusMem w wr x y s A' c')) (fun vs _ => 300 - (intOf vs).toNat)
  case atStart => exact ⟨x, 0, A, c, rfl, HM0⟩
  case round =>
    clear HM0
    obtain ⟨y, s, A', c', rfl, HM⟩ := hrel
    have b0 := HM.out.blk
    have p0 := (blk_cell b0 0).trans rfl
    have p1 := (blk_cell b0 1).trans rfl
    have p2 := (blk_cell b0 2).trans rfl
    have p3 := (blk_cell b0 3).trans rfl
    have s0 := HM.out.s0
    have s1 := HM.out.s1
    have hcy : (0 : Int) ≤ cntL y.f3 := by omega
    by_cases h7 : y.f0 = 7
    · have k7 : (y.f0 == 7) = true := eq_t h7
      have hh := (form_head HM.out.form).1
      have hl : 0 < y.f3.length := by
        have := hh.kids
        rw [h7] at this
        have h8 : kidsN 7 = 1 := rfl
        omega
      have hl' : (0 : Int) < y.f3.length := by omega
      have hn := hh.plus h7
      obtain ⟨ad, A2, c2, rfl, q0, q1, q2, q3, pL⟩ := atE (HM.out.kid.below HM.out.bel) 0 hl
      obtain ⟨_, A22, c22, e22, _, _, _, q33, pL2⟩ := atE HM.out.kid 0 hl
      have e23 := (pw_cell_below HM.out.bel q33)
      injection e22 with e22
      subst e22
      rw [q3] at e23
      injection e23 with e23
      injection e23 with e24 _ e25
      subst e24
      subst e25
      generalize hO : y.f3.getD 0 zE = o at q0 q1 q2 q3
      have HN := Aside0.mk (PlusMem.step HM.out h7 hl pL2 hn o hO)
      have had : ad.add (0 * 4) = ad := by unfold Addr.add; rfl
      rw [had] at q0 q1 q2 q3
      clear had
      have z0 := blk_frozen b0 0
      have z1 := blk_frozen b0 1
      have z2 := blk_frozen b0 2
      have z3 := blk_frozen b0 3
      have hn1 := hn.1
      have hn2 := hn.2
      clear q33 pL2 pL HM b0 hh hn hO h7
      go_wp2
      go_roundw
      case rel => exact ⟨o, s + y.f2, A2, c2, by go_num, HN⟩
      case measure => simp [intOf]; omega
    · have k7 : (y.f0 == 7) = false := eq_f h7
      have hps := plX_stop h7
      have hsum := HM.out.sum
      have hend := HM.out.end_
      rw [hps] at hsum hend
      have HR : Aside0 (resX x = (s, y)) := ⟨by rw [HK.out]; exact Prod.ext (by show _ = s; rw [← hsum]; show s + 0 = s; omega) hend.symm⟩
      have hcn : cntL y.f3 ≤ 1048576 := by omega
      have HKD := Aside0.mk (HM.out.kid.below HM.out.bel)
      have bR := HM.out.res
      have HB := Aside0.mk HM.out.bel
      have hlt := blk_lt bR
      clear hps hsum hend h7 HM b0
      go_upto_region 7 with fail
      go_wp2_with (go_at_call 17; refine (clone_any y hcn A' c' _ HKD.out).mono ?_; rintro e w3 ⟨v3, rfl, hs3, hb3⟩; obtain ⟨A3, c3, rfl⟩ := Kd.S_slice hs3; have b3 := blk_below bR hb3; have HS3 := Aside0.mk (S_behind (base := w.heap.size) hs3 hlt HB.out.size); have HB3 := Aside0.mk (below_then HB.out HB.out.size hb3); have t0 := blk_frozen b3 0; have t1 := blk_frozen b3 1; have t2 := blk_frozen b3 2; have t3 := blk_frozen b3 3; have r0 := (blk_cell b3 0).trans rfl; have r1 := (blk_cell b3 1).trans rfl; have r2 := (blk_cell b3 2).trans rfl; have r3 := (blk_cell b3 3).trans rfl; clear hs3 hb3)
      refine bodyPost_ret (results_tc rfl _ _ (w.heap.size + 1) 28 #[.int .i64 y.f0, .int .i64 y.f1, .int .i64 y.f2, .slice A3 y.f3.length c3] (0, 0) _ rfl (set4_blk _ _ _ _ b3) Try.underlying28 rfl (by kernel_rfl)) rfl ?_
      rw [HR.out]
      exact ⟨_, rfl, Kd.S_mono (set4_S (G := w.heap.size + 1) HS3.out (fun k hk => Nat.ne_of_gt hk) _ _ _ _) (fun _ _ => trivial), set4_below HB3.out (by omega) _ _ _ _⟩
set_option maxHeartbeats 4000000 in
set_option maxRecDepth 100000 in
theorem l11Plus_any (x : Ex) (A : Option Addr) (c : Nat) (w : World) (hk : okE x = true) (hL : IsEL 28 w x.f3 A c) :
    Calls Try.prog 13 #[X x.f0 x.f1 x.f2 A x.f3.length c] w fun e w' => PlusOut w w' (plX x) e := by
  obtain ⟨hb0, b0, b1⟩ := boxes2 w #[.int .i64 x.f0, .int .i64 x.f1, .int .i64 x.f2, .slice A x.f3.length c] #[.int .i64 0, .int .i64 0, .int .i64 0, .slice none 0 0] 28 28
  have hok := okE_cnt hk
  go_enter Try.func13, Try.ntmps13
  go_upto_region 1 with fail
  generalize (w.alloc (.cells #[.int .i64 x.f0, .int .i64 x.f1, .int .i64 x.f2, .slice A x.f3.length c] 28)).alloc (.cells #[.int .i64 0, .int .i64 0, .int .i64 0, .slice none 0 0] 28) = W at hb0 b0 b1 ⊢
  have HM0 := Aside0.mk (PlusMem.start b0 b1 hb0 hL hok.2 hok.1)
  clear b0 b1 hb0 hL hok hk
  go_wp2
  go_loopw [4] (fun vs wr => ∃ (y : Ex) (s : Int) (A' : Option Addr) (c' : Nat), vs = .int .i64 s ∧ Aside0 (PlusMem w wr x y s A' c')) (fun vs _ => 300 - (intOf vs).toNat)
  case atStart => exact ⟨x, 0, A, c, rfl, HM0⟩
  case round =>
    clear HM0
    obtain ⟨y, s, A', c', rfl, HM⟩ := hrel
    have b0 := HM.out.blk
    have p0 := (blk_cell b0 0).trans rfl
    have p1 := (blk_cell b0 1).trans rfl
    have p2 := (blk_cell b0 2).trans rfl
    have p3 := (blk_cell b0 3).trans rfl
    have s0 := HM.out.s0
    have s1 := HM.out.s1
    have hcy : (0 : Int) ≤ cntL y.f3 := by omega
    by_cases h7 : y.f0 = 7
    · have k7 : (y.f0 == 7) = true := eq_t h7
      have hh := (form_head HM.out.form).1
      have hl : 0 < y.f3.length := by
        have := hh.kids
        rw [h7] at this
        have h8 : kidsN 7 = 1 := rfl
        omega
      have hl' : (0 : Int) < y.f3.length := by omega
      have hn := hh.plus h7
      obtain ⟨ad, A2, c2, rfl, q0, q1, q2, q3, pL⟩ := atE (HM.out.kid.below HM.out.bel) 0 hl
      obtain ⟨_, A22, c22, e22, _, _, _, q33, pL2⟩ := atE HM.out.kid 0 hl
      have e23 := (pw_cell_below HM.out.bel q33)
      injection e22 with e22
      subst e22
      rw [q3] at e23
      injection e23 with e23
      injection e23 with e24 _ e25
      subst e24
      subst e25
      generalize hO : y.f3.getD 0 zE = o at q0 q1 q2 q3
      have HN := Aside0.mk (PlusMem.step HM.out h7 hl pL2 hn o hO)
      have had : ad.add (0 * 4) = ad := by unfold Addr.add; rfl
      rw [had] at q0 q1 q2 q3
      clear had
      have z0 := blk_frozen b0 0
      have z1 := blk_frozen b0 1
      have z2 := blk_frozen b0 2
      have z3 := blk_frozen b0 3
      have hn1 := hn.1
      have hn2 := hn.2
      clear q33 pL2 pL HM b0 hh hn hO h7
      go_wp2
      go_roundw
      case rel => exact ⟨o, s + y.f2, A2, c2, by go_num, HN⟩
      case measure => simp [intOf]; omega
    · have k7 : (y.f0 == 7) = false := eq_f h7
      have hps := plX_stop h7
      have hsum := HM.out.sum
      have hend := HM.out.end_
      rw [hps] at hsum hend
      have HR : Aside0 (plX x = (s, y)) := ⟨Prod.ext (by show _ = s; rw [← hsum]; show s + 0 = s; omega) hend.symm⟩
      have HKD := Aside0.mk HM.out.kid
      have b1 := HM.out.res
      have HB := Aside0.mk HM.out.bel
      clear hps hsum hend h7 HM
      go_upto_region 5 with fail
      refine Za.regionL (fun w' => w'.cell? ⟨w.heap.size, 0, none⟩ = some (.int .i64 y.f0) ∧ w'.cell? ⟨w.heap.size, 1, none⟩ = some (.int .i64 y.f1) ∧ w'.cell? ⟨w.heap.size, 2, none⟩ = some (.int .i64 y.f2) ∧ w'.cell? ⟨w.heap.size, 3, none⟩ = some (.slice A' y.f3.length c')) [3] (by kernel_rfl) ?_
      have HS : (fun w' => w'.cell? ⟨w.heap.size, 0, none⟩ = some (.int .i64 y.f0) ∧ w'.cell? ⟨w.heap.size, 1, none⟩ = some (.int .i64 y.f1) ∧ w'.cell? ⟨w.heap.size, 2, none⟩ = some (.int .i64 y.f2) ∧ w'.cell? ⟨w.heap.size, 3, none⟩ = some (.slice A' y.f3.length c')) wr.drew := ⟨p0, p1, p2, p3⟩
      refine Za.takeL 0 (v := ?va0) rfl (by kernel_rfl) (by kernel_rfl) (by kernel_rfl) (by kernel_rfl) (fun _ _ _ h => h) (Or.inl ⟨by rfl, ?hya0⟩) HS ?resta0
      case hya0 => (intro w hSw; (try dsimp only at hSw); go_simp; try with_reducible rfl)
      (try simp only [Act.put, List.setIfInBounds_toArray, List.set_cons_zero, List.set_cons_succ])
      refine Za.takeL 1 (v := ?va1) rfl (by kernel_rfl) (by kernel_rfl) (by kernel_rfl) (by kernel_rfl) (fun _ _ _ h => h) (Or.inl ⟨by rfl, ?hya1⟩) HS ?resta1
      case hya1 => (intro w hSw; (try dsimp only at hSw); go_simp; try with_reducible rfl)
      (try simp only [Act.put, List.setIfInBounds_toArray, List.set_cons_zero, List.set_cons_succ])
      refine Za.takeL 2 (v := ?va2) rfl (by kernel_rfl) (by kernel_rfl) (by kernel_rfl) (by kernel_rfl) (fun _ _ _ h => h) (Or.inl ⟨by rfl, ?hya2⟩) HS ?resta2
      case hya2 => (intro w hSw; (try dsimp only at hSw); go_simp; try with_reducible rfl)
      (try simp only [Act.put, List.setIfInBounds_toArray, List.set_cons_zero, List.set_cons_succ])
      clear HS
      have t0 := blk_frozen b1 0
      have t1 := blk_frozen b1 1
      have t2 := blk_frozen b1 2
      have t3 := blk_frozen b1 3
      have r0 := (blk_cell b1 0).trans rfl
      have r1 := (blk_cell b1 1).trans rfl
      have r2 := (blk_cell b1 2).trans rfl
      have r3 := (blk_cell b1 3).trans rfl
      refine Za.nextL 3 (by kernel_rfl) rfl (fun K' hK => ?_)
      go_simp
      refine hK.out _ _ ⟨fun h => absurd (by simp) h, ?_⟩
      clear hK K'
      (try simp only [Act.put, List.setIfInBounds_toArray, List.set_cons_zero, List.set_cons_succ])
      refine Za.Walk.done (by kernel_rfl) ?_
      go_wp2
      refine bodyPost_ret (results_tc rfl _ _ (w.heap.size + 1) 28 #[.int .i64 y.f0, .int .i64 y.f1, .int .i64 y.f2, .slice A' y.f3.length c'] (0, 0) _ rfl (blk_drew (set4_blk _ _ _ _ b1)) Try.underlying28 rfl (by kernel_rfl)) rfl ?_
      rw [HR.out]
      exact ⟨A', c', rfl, HKD.out, keepB (set4_below HB.out (by omega) _ _ _ _)⟩
set_option maxHeartbeats 4000000 in
set_option maxRecDepth 100000 in
theorem sSlimPlus_any (x : Ex) (A : Option Addr) (c : Nat) (w : World) (hc : cntL x.f3 ≤ 1048576) (hL : IsEL 28 w x.f3 A c) :
    Calls Try.prog 5 #[X x.f0 x.f1 x.f2 A x.f3.length c] w fun e w' => SlimOut w w' (resX x) e := by
  obtain ⟨hb0, b0, b1⟩ := boxes2 w #[.int .i64 x.f0, .int .i64 x.f1, .int .i64 x.f2, .slice A x.f3.length c] #[.int .i64 0, .int .i64 0, .int .i64 0, .slice none 0 0] 28 28
  have HL := Aside0.mk hL
  clear hL
  go_enter Try.func5, Try.ntmps5
  go_upto_region 1 with fail
  generalize (w.alloc (.cells #[.int .i64 x.f0, .int .i64 x.f1, .int .i64 x.f2, .slice A x.f3.length c] 28)).alloc (.cells #[.int .i64 0, .int .i64 0, .int .i64 0, .slice none 0 0] 28) = W at hb0 b0 b1 ⊢
  have p0 := (blk_cell b0 0).trans rfl
  have p1 := (blk_cell b0 1).trans rfl
  have p2 := (blk_cell b0 2).trans rfl
  have p3 := (blk_cell b0 3).trans rfl
  have HB0 := Aside0.mk hb0
  cases hk : okE x with
  | false =>
    have HK : Aside0 (resX x = (0, zE)) := ⟨by unfold resX; rw [hk]; rfl⟩
    have HKK := Aside0.mk hk
    clear hk
    go_upto_region 2 with (go_at_call 12; refine (sExOk_any x A c _ hc (HL.out.below HB0.out)).mono ?_; rintro e w2 ⟨rfl, hb2⟩; rw [HKK.out]; have bR := blk_below b1 hb2; have HB2 := Aside0.mk (below_then HB0.out HB0.out.size hb2); clear hb2)
    clear p0 p1 p2 p3 b0 b1 hb0
    have t0 := blk_frozen bR 0
    have t1 := blk_frozen bR 1
    have t2 := blk_frozen bR 2
    have t3 := blk_frozen bR 3
    have s0 := (blk_cell bR 0).trans rfl
    have s1 := (blk_cell bR 1).trans rfl
    have s2 := (blk_cell bR 2).trans rfl
    have s3 := (blk_cell bR 3).trans rfl
    go_wp2
    refine bodyPost_ret (results_tc rfl _ _ (w.heap.size + 1) 28 #[.int .i64 0, .int .i64 0, .int .i64 0, .slice none 0 0] (0, 0) _ rfl (set4_blk _ _ _ _ bR) Try.underlying28 rfl (by kernel_rfl)) rfl ?_
    rw [HK.out]
    exact ⟨_, rfl, Kd.S_nil _ _ _ _ _, set4_below HB2.out (by omega) _ _ _ _⟩
  | true =>
  have HK : Aside0 (resX x = plX x) := ⟨by unfold resX; rw [hk]; rfl⟩
  have hcn : cntL (plX x).2.f3 ≤ 1048576 := Nat.le_trans (plX_cnt x) hc
  have HKK := Aside0.mk hk
  clear hk
  go_upto_region 3 with (go_at_call 12; refine (sExOk_any x A c _ hc (HL.out.below HB0.out)).mono ?_; rintro e w2 ⟨rfl, hb2⟩; rw [HKK.out]; have q0 := pw_cell_below hb2 p0; have q1 := pw_cell_below hb2 p1; have q2 := pw_cell_below hb2 p2; have q3 := pw_cell_below hb2 p3; have bR := blk_below b1 hb2; have HB2 := Aside0.mk (below_then HB0.out HB0.out.size hb2); clear hb2)
  clear p0 p1 p2 p3 b0 b1 hb0
  have HPL : Aside0 (∃ p, plX x = p) := ⟨⟨_, rfl⟩⟩
  obtain ⟨p, hp⟩ := HPL.out
  rw [hp] at hcn
  have HPP := Aside0.mk hp
  have hltR := blk_lt bR
  clear hp HPL
  go_wp2_with (first
    | (go_at_call 14; refine (l2Copy_any p.2 hcn A5 c5 _ HK5.out).mono ?_; rintro e w6 ⟨v6, rfl, hs6, hb6⟩; obtain ⟨A6, c6, rfl⟩ := Kd.S_slice hs6; have b6 := blk_below bR5 hb6; have HS6 := Aside0.mk (S_behind (base := w.heap.size) hs6 (blk_lt bR5) HB5.out.size); have HB6 := Aside0.mk (below_then HB5.out HB5.out.size hb6); have t0 := blk_frozen b6 0; have t1 := blk_frozen b6 1; have t2 := blk_frozen b6 2; have t3 := blk_frozen b6 3; have r0 := (blk_cell b6 0).trans rfl; have r1 := (blk_cell b6 1).trans rfl; have r2 := (blk_cell b6 2).trans rfl; have r3 := (blk_cell b6 3).trans rfl; clear hs6 hb6)
    | (go_at_call 13; refine (l11Plus_any x A c _ HKK.out (HL.out.below HB2.out)).mono ?_; rintro e w4 ⟨A5, c5, rfl, hk4, hb4⟩; rw [HPP.out] at hk4 ⊢; have hba := below_alloc hb4 (.cells #[.int .i64 p.2.f0, .int .i64 p.2.f1, .int .i64 p.2.f2, .slice A5 p.2.f3.length c5] 28); have HK5 := Aside0.mk (hk4.below hba); have bR5 := blk_below bR hba; have HB5 := Aside0.mk (below_then HB2.out HB2.out.size hba); clear hk4 hb4 hba))
  refine bodyPost_ret (results_tc rfl _ _ (w.heap.size + 1) 28 #[.int .i64 p.2.f0, .int .i64 p.2.f1, .int .i64 p.2.f2, .slice A6 p.2.f3.length c6] (0, 0) _ rfl (set4_blk _ _ _ _ b6) Try.underlying28 rfl (by kernel_rfl)) rfl ?_
  rw [HK.out, HPP.out]
  exact ⟨_, rfl, Kd.S_mono (set4_S (G := w.heap.size + 1) HS6.out (fun k hk => Nat.ne_of_gt hk) _ _ _ _) (fun _ _ => trivial), set4_below HB6.out (by omega) _ _ _ _⟩
end Go.Proofs.Ythebaioaiojdjaa.Jl
