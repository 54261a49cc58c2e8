
/- Is an expression valid; a copy of it: the program's. -/
import Derived.Test.YtckblabkapeigaaJh
set_option linter.unusedVariables false
set_option linter.unusedSimpArgs false
namespace Go.Proofs.Ytckblabkapeigaa.Ji
open Go.RowKit Go.Proofs.YtckblabkapeigaaW.PrintWords Go.Proofs.Ytckblabkapeigaa.Ja Go.Proofs.Ytckblabkapeigaa.Jb Go.Proofs.Ytckblabkapeigaa.Jc Go.Proofs.Ytckblabkapeigaa.Jd Go.Proofs.Ytckblabkapeigaa.Jg Go.Proofs.Ytckblabkapeigaa.Jh

set_option maxHeartbeats 2000000 in
set_option maxRecDepth 100000 in
theorem exOk_any (x : Ex) (A : Option Addr) (c : Nat) (w : World) (hc : cntL x.f3 ≤ 1048576) (hL : IsEL 52 w x.f3 A c) :
    Calls Try.prog 48 #[X x.f0 x.f1 x.f2 A x.f3.length c] w fun e w' => e = .returned (.bool (okE x)) ∧ Below w.heap.size w w' := by
  have hbx := box4 w (.int .i64 x.f0) (.int .i64 x.f1) (.int .i64 x.f2) (.slice A x.f3.length c) 52
  have HX := Aside0.mk hbx.1
  have HL := Aside0.mk (hL.below hbx.1)
  obtain ⟨W, hW⟩ : ∃ W, W = w.alloc (.cells #[.int .i64 x.f0, .int .i64 x.f1, .int .i64 x.f2, .slice A x.f3.length c] 52) := ⟨_, rfl⟩
  rw [← hW] at HX HL hbx
  have HW := Aside0.mk hW
  obtain ⟨_, p0, p1, p2, p3⟩ := hbx
  clear hL hW
  obtain ⟨m, hm⟩ : ∃ m : Int, m = 1 + (cntL x.f3 : Int) := ⟨_, rfl⟩
  obtain ⟨d, hd⟩ : ∃ d : Int, d = 1 + (deepL x.f3 : Int) := ⟨_, rfl⟩
  obtain ⟨b, hb⟩ : ∃ b, b = formB x := ⟨_, rfl⟩
  have HM := Aside0.mk hm
  have HD := Aside0.mk hd
  have HBB := Aside0.mk hb
  obtain ⟨k, hk⟩ : ∃ k, k = okE x := ⟨_, rfl⟩
  have hk2 : k = (decide (m ≤ 12) && decide (d ≤ 5) && b) := by
    rw [hk, hb]
    unfold okE
    congr 2
    · exact decide_eq_decide.2 (by omega)
    · exact decide_eq_decide.2 (by omega)
  have HK := Aside0.mk hk
  clear hm hd hb hk
  by_cases h1 : m ≤ 12
  · have q1 : decide (m ≤ 12) = true := decide_eq_true h1
    by_cases h2 : d ≤ 5
    · have q2 : decide (d ≤ 5) = true := decide_eq_true h2
      rw [q1, q2] at hk2
      have HK2 : Aside0 (b = k) := ⟨by rw [hk2]; simp⟩
      clear hk2 h1 h2
      go_enter Try.func48, Try.ntmps48
      go_upto_region 1 with fail
      rw [← HW.out]
      go_wp2_with (first | (go_at_call 69; refine (size_any x.f0 x.f1 x.f2 x.f3 A c _ hc HL.out).mono ?_; rintro e w2 ⟨rfl, hb2⟩; rw [← HM.out, ← HD.out]; have p0' := pw_cell_below hb2 p0; have p1' := pw_cell_below hb2 p1; have p2' := pw_cell_below hb2 p2; have p3' := pw_cell_below hb2 p3; have HB2 := Aside0.mk (below_then HX.out HX.out.size hb2); have HL2 := Aside0.mk (HL.out.below hb2); clear hb2) | (go_at_call 70; refine (formed_any x A c _ HL2.out).mono ?_; rintro e w3 ⟨rfl, hb3⟩; rw [← HBB.out]; have HB3 := Aside0.mk (below_then HB2.out HB2.out.size hb3); clear hb3))
      go_ret
      exact ⟨ret_bool (HK2.out.trans HK.out), HB3.out⟩
    · have q2 : decide (d ≤ 5) = false := decide_eq_false h2
      rw [q1, q2] at hk2
      have HK2 : Aside0 (false = k) := ⟨by rw [hk2]; simp⟩
      clear hk2 h1 h2
      go_enter Try.func48, Try.ntmps48
      go_upto_region 1 with fail
      rw [← HW.out]
      go_wp2_with (first | (go_at_call 69; refine (size_any x.f0 x.f1 x.f2 x.f3 A c _ hc HL.out).mono ?_; rintro e w2 ⟨rfl, hb2⟩; rw [← HM.out, ← HD.out]; have p0' := pw_cell_below hb2 p0; have p1' := pw_cell_below hb2 p1; have p2' := pw_cell_below hb2 p2; have p3' := pw_cell_below hb2 p3; have HB2 := Aside0.mk (below_then HX.out HX.out.size hb2); have HL2 := Aside0.mk (HL.out.below hb2); clear hb2) | (go_at_call 70; refine (formed_any x A c _ HL2.out).mono ?_; rintro e w3 ⟨rfl, hb3⟩; rw [← HBB.out]; have HB3 := Aside0.mk (below_then HB2.out HB2.out.size hb3); clear hb3))
      go_ret
      exact ⟨ret_bool (HK2.out.trans HK.out), HB2.out⟩
  · have q1 : decide (m ≤ 12) = false := decide_eq_false h1
    rw [q1] at hk2
    have HK2 : Aside0 (false = k) := ⟨by rw [hk2]; simp⟩
    clear hk2 h1
    go_enter Try.func48, Try.ntmps48
    go_upto_region 1 with fail
    rw [← HW.out]
    go_wp2_with (first | (go_at_call 69; refine (size_any x.f0 x.f1 x.f2 x.f3 A c _ hc HL.out).mono ?_; rintro e w2 ⟨rfl, hb2⟩; rw [← HM.out, ← HD.out]; have p0' := pw_cell_below hb2 p0; have p1' := pw_cell_below hb2 p1; have p2' := pw_cell_below hb2 p2; have p3' := pw_cell_below hb2 p3; have HB2 := Aside0.mk (below_then HX.out HX.out.size hb2); have HL2 := Aside0.mk (HL.out.below hb2); clear hb2) | (go_at_call 70; refine (formed_any x A c _ HL2.out).mono ?_; rintro e w3 ⟨rfl, hb3⟩; rw [← HBB.out]; have HB3 := Aside0.mk (below_then HB2.out HB2.out.size hb3); clear hb3))
    go_ret
    exact ⟨ret_bool (HK2.out.trans HK.out), HB2.out⟩

/-! copies -/
abbrev CloneCall (x : Ex) : Prop := ∀ A c w, IsEL 52 w x.f3 A c → Calls Try.prog 68 #[X x.f0 x.f1 x.f2 A x.f3.length c] w fun e w' => ToOutE w w' x.f0 x.f1 x.f2 x.f3 e
set_option maxHeartbeats 2000000 in
set_option maxRecDepth 100000 in
theorem clone_of (f0 f1 f2 : Int) (A : Option Addr) (c : Nat) (l : List Ex) (w : World) (hl : l.length ≤ 1048576) (hL : IsEL 52 w l A c) (hE : ∀ x, x ∈ l → CloneCall x) :
    Calls Try.prog 68 #[X f0 f1 f2 A l.length c] w fun e w' => ToOutE w w' f0 f1 f2 l e := by
  obtain ⟨hb0, b0, b1⟩ := boxes2 w #[.int .i64 f0, .int .i64 f1, .int .i64 f2, .slice A l.length c] #[.int .i64 0, .int .i64 0, .int .i64 0, .slice none 0 0] 52 52
  have HL := Aside0.mk (hL.below hb0)
  have HE := Aside0.mk hE
  clear hL hE
  go_enter Try.func68, Try.ntmps68
  go_upto_region 1 with fail
  generalize (w.alloc (.cells #[.int .i64 f0, .int .i64 f1, .int .i64 f2, .slice A l.length c] 52)).alloc (.cells #[.int .i64 0, .int .i64 0, .int .i64 0, .slice none 0 0] 52) = W at hb0 b0 b1 HL ⊢
  have p3 := (blk_cell b0 3).trans rfl
  have HB0 := Aside0.mk hb0
  have BB0 := Aside0.mk b0
  have BB1 := Aside0.mk b1
  clear hb0 b0 b1
  go_wp2
  go_loopw [3, 9] (fun vl' vi wr => ∃ (k : Nat) (vl : Value), k ≤ l.length ∧ vi = .int .i64 k ∧ vl = vl' ∧ Aside0 (SE wr W.heap.size (fun _ => True) vl (l.take k)) ∧ Aside0 (Below W.heap.size W wr)) (fun _ vi _ => l.length - (intOf vi).toNat)
  case atStart => exact ⟨0, _, by omega, rfl, rfl, ⟨by simpa using Kd.S_nil (kE 52) 52 W W.heap.size (fun _ => True)⟩, ⟨Below.refl _ _⟩⟩
  case round =>
    clear p3
    obtain ⟨k, vl, hk, rfl, rfl, HS, HB⟩ := hrel
    by_cases hlt : k < l.length
    · obtain ⟨ad, A2, c3, rfl, ha, hb, hc, hd, hIs⟩ := atE (HL.out.below HB.out) k hlt
      have hT := take_succ_getD l k zE hlt
      have HQ := Aside0.mk (HE.out _ (getE_mem hlt))
      have htl : (l.take k).length = k := by rw [List.length_take]; omega
      generalize l.getD k zE = o at ha hb hc hd hIs hT HQ
      have HIS := Aside0.mk hIs
      have HT := Aside0.mk hT
      have i1 : (k : Int) < l.length := by omega
      have g1 : decide (k < l.length) = true := decide_eq_true hlt
      clear hT hIs
      have hown : ∀ j, vl.ownBlock = some j → j < wr.heap.size := Kd.S_lt HS.out
      go_wp2_with (first
        | (go_at_call 68; refine (HQ.out A2 c3 _ (HIS.out.below (box4 _ _ _ _ _ _).1)).mono ?_; rintro e w2 ⟨v2, rfl, hr2, hb2⟩; have HR2 := Aside0.mk hr2; have HB2 := Aside0.mk (below_then (box4 _ _ _ _ _ _).1 (box4 _ _ _ _ _ _).1.size hb2); clear hr2 hb2)
        | ((with_reducible refine gate_dst (N := 17) rfl ?_); refine Kd.S_append (kE 52) (w0 := W) W.heap.size rfl _ _ 50 52 (.agg #[.int .i64 0, .int .i64 0, .int .i64 0, .slice none 0 0]) 48 rfl Try.underlying50 infoE rfl (by decide) (by decide) vl (l.take k) o [.int .i64 o.f0, .int .i64 o.f1, .int .i64 o.f2, v2] (fun _ => True) (fun j => wr.heap.size ≤ j) rfl rfl (kE_mkM o (Kd.S_lower (Kd.S_mono (Kd.S_bound HR2.out) (fun j hj => by have h1 := hj.2.1; simp at h1; omega)) (Nat.le_trans HB.out.size (box4 _ _ _ _ _ _).1.size))) (fun j hj => ⟨trivial, fun h => by have := hown j h.symm; omega⟩) (fun _ _ => trivial) (Kd.S_below (Kd.S_mono (Kd.S_bound HS.out) (fun j hj => ⟨trivial, by have := hj.2.2.1; omega⟩)) HB2.out) (below_then HB.out HB.out.size HB2.out) (Nat.le_trans HB.out.size HB2.out.size) (by rw [htl]; omega) ?_; intro v3 w3 hs3 hb3 _ _; have HS3 := Aside0.mk hs3; have HB3 := Aside0.mk hb3; clear hs3 hb3))
      go_roundw
      case rel => exact ⟨k + 1, _, by omega, by go_num, rfl, ⟨by rw [HT.out]; exact HS3.out⟩, HB3⟩
      case measure => simp [intOf]; omega
    · have hke : k = l.length := by omega
      subst hke
      have g1 : decide (l.length < l.length) = false := decide_eq_false (by omega)
      have hS := HS.out
      rw [List.take_length] at hS
      obtain ⟨A3, c3, rfl⟩ := Kd.S_slice hS
      have HLT := Aside0.mk (blk_lt BB1.out)
      have HR3 := Aside0.mk (S_behind hS HLT.out HB0.out.size)
      have y1 := blk_below BB0.out HB.out
      have y2 := blk_below BB1.out HB.out
      have HB3 := Aside0.mk (below_then HB0.out HB0.out.size HB.out)
      have z2 := blk_frozen y1 3
      have q2 := (blk_cell y1 3).trans rfl
      clear hS HS HB
      go_upto_region 8 with fail
      have g1' : (wr.setCell ⟨w.heap.size, 3, none⟩ (.slice A3 l.length c3)).heap[w.heap.size]? = some (.cells #[.int .i64 f0, .int .i64 f1, .int .i64 f2, .slice A3 l.length c3] 52 (0, 0)) := blk_put y1 3 _ rfl
      have g2' := blk_far y2 (p := ⟨w.heap.size, 3, none⟩) (by simp) (.slice A3 l.length c3)
      have HB4 := Aside0.mk (HB3.out.setCell (p := ⟨w.heap.size, 3, none⟩) (by simp) (.slice A3 l.length c3))
      have HR4 := Aside0.mk (Kd.S_far (p := ⟨w.heap.size, 3, none⟩) HR3.out (fun k hk => Nat.ne_of_gt (Nat.lt_trans (Nat.lt_succ_self _) hk)) (.slice A3 l.length c3))
      clear y1 y2 z2 q2
      generalize wr.setCell ⟨w.heap.size, 3, none⟩ (.slice A3 l.length c3) = W4 at g1' g2' HB4 HR4 ⊢
      have r0 := (blk_cell g1' 0).trans rfl
      have r1 := (blk_cell g1' 1).trans rfl
      have r2 := (blk_cell g1' 2).trans rfl
      have r3 := (blk_cell g1' 3).trans rfl
      have s0 := (blk_cell g2' 0).trans rfl
      have s1 := (blk_cell g2' 1).trans rfl
      have s2 := (blk_cell g2' 2).trans rfl
      have s3 := (blk_cell g2' 3).trans rfl
      have t0 := blk_frozen g2' 0
      have t1 := blk_frozen g2' 1
      have t2 := blk_frozen g2' 2
      have t3 := blk_frozen g2' 3
      go_wp2
      refine bodyPost_ret (results_cell_row rfl _ _ (w.heap.size + 1) 52 #[.int .i64 f0, .int .i64 f1, .int .i64 f2, .slice A3 l.length c3] (0, 0) _ rfl (set4_blk _ _ _ _ g2') Try.underlying52 rfl (by kernel_rfl)) rfl ?_
      exact ⟨_, rfl, Kd.S_mono (set4_S (G := w.heap.size + 1) HR4.out (fun k hk => Nat.ne_of_gt hk) _ _ _ _) (fun _ _ => trivial), set4_below HB4.out (by omega) _ _ _ _⟩
theorem clone_any (x : Ex) (hx : cntL x.f3 ≤ 1048576) : CloneCall x := fun A c w hL => clone_of x.f0 x.f1 x.f2 A c x.f3 w (by have := len_le_cnt x.f3; omega) hL (fun y hy =>
  have := cnt_mem hy
  clone_any y (by omega))
termination_by cntL x.f3
end Go.Proofs.Ytckblabkapeigaa.Ji
