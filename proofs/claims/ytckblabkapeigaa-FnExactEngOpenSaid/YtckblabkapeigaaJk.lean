
/- A copy of an expression, the reference's. -/
import Derived.Test.YtckblabkapeigaaJi
set_option linter.unusedVariables false
set_option linter.unusedSimpArgs false
namespace Go.Proofs.Ytckblabkapeigaa.Jk
open Go.RowKit Go.Proofs.YtckblabkapeigaaW.PrintWords Go.Proofs.Ytckblabkapeigaa.Ja Go.Proofs.Ytckblabkapeigaa.Jb Go.Proofs.Ytckblabkapeigaa.Jc Go.Proofs.Ytckblabkapeigaa.Jd Go.Proofs.Ytckblabkapeigaa.Jg Go.Proofs.Ytckblabkapeigaa.Jh Go.Proofs.Ytckblabkapeigaa.Ji

theorem below_le {w w' : World} {a b : Nat} (h : Below a w w') (hb : b ≤ a) : Below b w w' := ⟨h.os, h.tape, h.output, h.size, fun k hk => h.block k (by omega)⟩
theorem below_trans {a b c : World} {B : Nat} (h : Below B a b) (g : Below B b c) : Below B a c := ⟨g.os.trans h.os, g.tape.trans h.tape, g.output.trans h.output, Nat.le_trans h.size g.size, fun k hk => (g.block k hk).trans (h.block k hk)⟩
abbrev CopyCall (x : Ex) : Prop := ∀ A c w, IsEL 52 w x.f3 A c → Calls Try.prog 39 #[X x.f0 x.f1 x.f2 A x.f3.length c] w fun e w' => ToOutE w w' x.f0 x.f1 x.f2 x.f3 e
structure CopyMem (w W wr : World) (f0 f1 f2 : Int) (vl : Value) (l : List Ex) : Prop where
  out : wr.heap[w.heap.size + 1 + 1]? = some (.cells #[.int .i64 f0, .int .i64 f1, .int .i64 f2, vl] 52 (0, 0))
  row : SE wr (w.heap.size + 1 + 1 + 1) (fun _ => True) vl l
  bel : Below W.heap.size W wr
  size : w.heap.size + 1 + 1 + 1 ≤ wr.heap.size
set_option maxHeartbeats 4000000 in
set_option maxRecDepth 100000 in
theorem l2Copy_of (f0 f1 f2 : Int) (A : Option Addr) (c : Nat) (l : List Ex) (w : World) (hl : l.length ≤ 1048576) (hL : IsEL 52 w l A c) (hE : ∀ x, x ∈ l → CopyCall x) :
    Calls Try.prog 39 #[X f0 f1 f2 A l.length c] w fun e w' => ToOutE w w' f0 f1 f2 l e := by
  obtain ⟨hb0, b0, b1⟩ := boxes2 w #[.int .i64 f0, .int .i64 f1, .int .i64 f2, .slice A l.length c] #[.int .i64 0, .int .i64 0, .int .i64 0, .slice none 0 0] 52 52
  have hsz : ((w.alloc (.cells #[.int .i64 f0, .int .i64 f1, .int .i64 f2, .slice A l.length c] 52)).alloc (.cells #[.int .i64 0, .int .i64 0, .int .i64 0, .slice none 0 0] 52)).heap.size = w.heap.size + 1 + 1 := by simp
  have HL := Aside0.mk (hL.below hb0)
  have HE := Aside0.mk hE
  clear hL hE
  go_enter Try.func39, Try.ntmps39
  go_upto_region 1 with fail
  generalize (w.alloc (.cells #[.int .i64 f0, .int .i64 f1, .int .i64 f2, .slice A l.length c] 52)).alloc (.cells #[.int .i64 0, .int .i64 0, .int .i64 0, .slice none 0 0] 52) = W at hb0 b0 b1 HL hsz ⊢
  have p0 := (blk_cell b0 0).trans rfl
  have p1 := (blk_cell b0 1).trans rfl
  have p2 := (blk_cell b0 2).trans rfl
  have p3 := (blk_cell b0 3).trans rfl
  have HB0 := Aside0.mk hb0
  have BB0 := Aside0.mk b0
  have BB1 := Aside0.mk b1
  have HSZ := Aside0.mk hsz
  have HM0 : Aside0 (CopyMem w W (W.alloc (.cells #[.int .i64 f0, .int .i64 f1, .int .i64 f2, .slice none 0 0] 52)) f0 f1 f2 (.slice none 0 0) (l.take 0)) :=
    ⟨⟨by rw [← hsz]; exact blk_new _ _, by simpa using Kd.S_nil (kE 52) 52 _ _ (fun _ => True), below_alloc (Below.refl _ _) _, by simp; omega⟩⟩
  clear hb0 b0 b1
  go_upto_region 2 with fail
  try rw [hsz]
  clear p0 p1 p2 hsz
  go_wp2
  go_loopw [4] (fun vi wr => ∃ (k : Nat) (vl : Value), k ≤ l.length ∧ vi = .int .i64 k ∧ Aside0 (CopyMem w W wr f0 f1 f2 vl (l.take k))) (fun vi _ => l.length - (intOf vi).toNat)
  case atStart => exact ⟨0, _, by omega, rfl, HM0⟩
  case round =>
    clear p3 HM0
    obtain ⟨k, vl, hk, rfl, HM⟩ := hrel
    have p3 := (blk_cell (blk_below BB0.out HM.out.bel) 3).trans rfl
    by_cases hlt : k < l.length
    · have i1 : (k : Int) < l.length := by omega
      have g1 : decide (k < l.length) = true := decide_eq_true hlt
      obtain ⟨ad, A2, c2, rfl, ha, hb, hc, hd, hIs⟩ := atE HL.out k hlt
      have hT := take_succ_getD l k zE hlt
      have HQ := Aside0.mk (HE.out _ (getE_mem hlt))
      have htl : (l.take k).length = k := by rw [List.length_take]; omega
      generalize l.getD k zE = o at ha hb hc hd hIs hT HQ
      have HIS := Aside0.mk (hIs.below HM.out.bel)
      have HT := Aside0.mk hT
      have HTL := Aside0.mk htl
      have HF : Aside0 (∀ w', Below W.heap.size W w' → w'.cell? ⟨w.heap.size, 3, none⟩ = some (.slice (some ad) l.length c) ∧ w'.cell? (ad.add (k * 4)) = some (.int .i64 o.f0) ∧ w'.cell? ⟨(ad.add (k * 4)).block, (ad.add (k * 4)).off + 1, none⟩ = some (.int .i64 o.f1) ∧ w'.cell? ⟨(ad.add (k * 4)).block, (ad.add (k * 4)).off + 2, none⟩ = some (.int .i64 o.f2) ∧ w'.cell? ⟨(ad.add (k * 4)).block, (ad.add (k * 4)).off + 3, none⟩ = some (.slice A2 o.f3.length c2)) :=
        ⟨fun w' h => ⟨(blk_cell (blk_below BB0.out h) 3).trans rfl, pw_cell_below h ha, pw_cell_below h hb, pw_cell_below h hc, pw_cell_below h hd⟩⟩
      have F : ∀ w', Below wr.heap.size wr w' → (fun w' => w'.cell? ⟨w.heap.size + 1 + 1, 3, none⟩ = some vl ∧ w'.cell? ⟨w.heap.size, 3, none⟩ = some (.slice (some ad) l.length c) ∧ w'.cell? (ad.add (k * 4)) = some (.int .i64 o.f0) ∧ w'.cell? ⟨(ad.add (k * 4)).block, (ad.add (k * 4)).off + 1, none⟩ = some (.int .i64 o.f1) ∧ w'.cell? ⟨(ad.add (k * 4)).block, (ad.add (k * 4)).off + 2, none⟩ = some (.int .i64 o.f2) ∧ w'.cell? ⟨(ad.add (k * 4)).block, (ad.add (k * 4)).off + 3, none⟩ = some (.slice A2 o.f3.length c2)) w' := fun w' h => ⟨(blk_cell (blk_below HM.out.out h) 3).trans rfl, HF.out w' (below_then HM.out.bel HM.out.bel.size h)⟩
      have HB0' : Below wr.heap.size wr wr.drew := below_drew (Below.refl _ _)
      have hown : ∀ j, vl.ownBlock = some j → j < wr.heap.size := Kd.S_lt HM.out.row
      clear hT hIs ha hb hc hd htl
      go_upto_region 5 with fail
      refine Za.regionL (fun w' => w'.cell? ⟨w.heap.size + 1 + 1, 3, none⟩ = some vl ∧ w'.cell? ⟨w.heap.size, 3, none⟩ = some (.slice (some ad) l.length c) ∧ w'.cell? (ad.add (k * 4)) = some (.int .i64 o.f0) ∧ w'.cell? ⟨(ad.add (k * 4)).block, (ad.add (k * 4)).off + 1, none⟩ = some (.int .i64 o.f1) ∧ w'.cell? ⟨(ad.add (k * 4)).block, (ad.add (k * 4)).off + 2, none⟩ = some (.int .i64 o.f2) ∧ w'.cell? ⟨(ad.add (k * 4)).block, (ad.add (k * 4)).off + 3, none⟩ = some (.slice A2 o.f3.length c2)) [11] (by kernel_rfl) ?_
      have HS : (fun w' => w'.cell? ⟨w.heap.size + 1 + 1, 3, none⟩ = some vl ∧ w'.cell? ⟨w.heap.size, 3, none⟩ = some (.slice (some ad) l.length c) ∧ w'.cell? (ad.add (k * 4)) = some (.int .i64 o.f0) ∧ w'.cell? ⟨(ad.add (k * 4)).block, (ad.add (k * 4)).off + 1, none⟩ = some (.int .i64 o.f1) ∧ w'.cell? ⟨(ad.add (k * 4)).block, (ad.add (k * 4)).off + 2, none⟩ = some (.int .i64 o.f2) ∧ w'.cell? ⟨(ad.add (k * 4)).block, (ad.add (k * 4)).off + 3, none⟩ = some (.slice A2 o.f3.length c2)) wr.drew := F _ HB0'
      refine Za.takeL 0 (v := ?va0) rfl (by kernel_rfl) (by kernel_rfl) (by kernel_rfl) (by kernel_rfl) (fun _ _ _ h => h) (Or.inl ⟨by rfl, ?hya0⟩) HS ?resta0
      case hya0 => (intro w hSw; (try dsimp only at hSw); go_simp; try with_reducible rfl)
      (try simp only [Act.put, List.setIfInBounds_toArray, List.set_cons_zero, List.set_cons_succ])
      refine Za.takeL 1 (v := ?va1) rfl (by kernel_rfl) (by kernel_rfl) (by kernel_rfl) (by kernel_rfl) (fun _ _ _ h => h) (Or.inl ⟨by rfl, ?hya1⟩) HS ?resta1
      case hya1 => (intro w hSw; (try dsimp only at hSw); go_simp; try with_reducible rfl)
      (try simp only [Act.put, List.setIfInBounds_toArray, List.set_cons_zero, List.set_cons_succ])
      refine Za.takeL 2 (v := ?va2) rfl (by kernel_rfl) (by kernel_rfl) (by kernel_rfl) (by kernel_rfl) (fun _ _ _ h => h) (Or.inl ⟨by rfl, ?hya2⟩) HS ?resta2
      case hya2 => (intro w hSw; (try dsimp only at hSw); go_simp; try with_reducible rfl)
      (try simp only [Act.put, List.setIfInBounds_toArray, List.set_cons_zero, List.set_cons_succ])
      refine Za.takeL 3 (v := ?va3) rfl (by kernel_rfl) (by kernel_rfl) (by kernel_rfl) (by kernel_rfl) (fun _ _ _ h => h) (Or.inl ⟨by rfl, ?hya3⟩) HS ?resta3
      case hya3 => (intro w hSw; (try dsimp only at hSw); go_simp; try with_reducible rfl)
      (try simp only [Act.put, List.setIfInBounds_toArray, List.set_cons_zero, List.set_cons_succ])
      refine Za.takeL 4 (v := ?va4) rfl (by kernel_rfl) (by kernel_rfl) (by kernel_rfl) (by kernel_rfl) (fun _ _ _ h => h) (Or.inl ⟨by rfl, ?hya4⟩) HS ?resta4
      case hya4 => (intro w hSw; (try dsimp only at hSw); go_simp; try with_reducible rfl)
      (try simp only [Act.put, List.setIfInBounds_toArray, List.set_cons_zero, List.set_cons_succ])
      refine Za.takeL 5 (v := ?va5) rfl (by kernel_rfl) (by kernel_rfl) (by kernel_rfl) (by kernel_rfl) (fun _ _ _ h => h) (Or.inl ⟨by rfl, ?hya5⟩) HS ?resta5
      case hya5 => (intro w hSw; (try dsimp only at hSw); go_simp; try with_reducible rfl)
      (try simp only [Act.put, List.setIfInBounds_toArray, List.set_cons_zero, List.set_cons_succ])
      refine Za.takeL 6 (v := ?va6) rfl (by kernel_rfl) (by kernel_rfl) (by kernel_rfl) (by kernel_rfl) (fun _ _ _ h => h) (Or.inl ⟨by rfl, ?hya6⟩) HS ?resta6
      case hya6 => (intro w hSw; (try dsimp only at hSw); go_simp; try with_reducible rfl)
      (try simp only [Act.put, List.setIfInBounds_toArray, List.set_cons_zero, List.set_cons_succ])
      clear HS
      refine Za.nextL 7 (by kernel_rfl) rfl (fun K' hK => ?_)
      go_simp
      go_wp2_with (go_at_call 39; refine (HQ.out A2 c2 _ (HIS.out.below HB0')).mono ?_; rintro e w4 ⟨v2, rfl, hr2, hb4⟩; have HB4 : Below wr.heap.size wr w4 := keepD hb4; have HR2 := Aside0.mk hr2; clear hr2 hb4)
      refine hK.out _ _ ⟨fun _ => F _ HB4, ?_⟩
      clear hK K'
      (try simp only [Act.put, List.setIfInBounds_toArray, List.set_cons_zero, List.set_cons_succ])
      refine Za.nextL 8 (by kernel_rfl) rfl (fun K' hK => ?_)
      go_simp
      refine hK.out _ _ ⟨fun _ => F _ (below_alloc HB4 _), ?_⟩
      clear hK K'
      (try simp only [Act.put, List.setIfInBounds_toArray, List.set_cons_zero, List.set_cons_succ])
      refine Za.nextL 9 (by kernel_rfl) rfl (fun K' hK => ?_)
      refine Kd.S_append_step (kE 52) (w0 := wr) (w.heap.size + 1 + 1 + 1) (by rfl) _ _ 50 52 (.agg #[.int .i64 0, .int .i64 0, .int .i64 0, .slice none 0 0]) 48 rfl Try.underlying50 infoE rfl (by decide) (by decide) vl (l.take k) o [.int .i64 o.f0, .int .i64 o.f1, .int .i64 o.f2, v2] (fun _ => True) (fun j => wr.heap.size ≤ j) rfl rfl (kE_mkM o (Kd.S_lower (Kd.S_mono (Kd.S_bound HR2.out) (fun j hj => by have h1 := hj.2.1; simp at h1; omega)) (Nat.le_trans HM.out.size HB0'.size))) (fun j hj => ⟨trivial, fun h => by have := hown j h.symm; omega⟩) (fun _ _ => trivial) (Kd.S_below (Kd.S_mono (Kd.S_bound HM.out.row) (fun j hj => ⟨trivial, by have := hj.2.2.1; omega⟩)) HB4) (below_le HB4 HM.out.size) (Nat.le_trans HM.out.size HB4.size) (by rw [HTL.out]; omega) ?_
      intro v3 w5 hs5 hb5 _ _
      obtain ⟨A3, c3, rfl⟩ := Kd.S_slice hs5
      have hk1 : (l.take k ++ [o]).length = k + 1 := by rw [List.length_append, HTL.out]; rfl
      rw [hk1] at hs5 ⊢
      clear hk1
      have ho5 := (hb5.block (w.heap.size + 1 + 1) (Nat.lt_succ_self _)).trans HM.out.out
      have hbW : Below W.heap.size W w5 := below_trans HM.out.bel (below_le hb5 (by rw [HSZ.out]; omega))
      have q3 := (blk_cell ho5 3).trans rfl
      have z3 := blk_frozen ho5 3
      have HS5 : Aside0 (CopyMem w W (w5.setCell ⟨w.heap.size + 1 + 1, 3, none⟩ (.slice A3 (k + 1) c3)) f0 f1 f2 (.slice A3 (k + 1) c3) (l.take k ++ [o])) := ⟨⟨blk_put ho5 3 _ rfl, Kd.S_mono (Kd.S_far (p := ⟨w.heap.size + 1 + 1, 3, none⟩) (Kd.S_mono (Kd.S_bound hs5) (ok' := fun j => w.heap.size + 1 + 1 < j) (fun j hj => hj.2.1)) (fun j hj => Nat.ne_of_gt hj) _) (fun _ _ => trivial), hbW.setCell (p := ⟨w.heap.size + 1 + 1, 3, none⟩) (by rw [HSZ.out]; exact Nat.le_refl _) _, by have := hb5.size; have := HM.out.size; simp [World.setCell]; omega⟩⟩
      refine hK.out _ _ ⟨fun _ => ⟨q3, HF.out _ hbW⟩, ?_⟩
      clear hK K'
      (try simp only [Act.put, List.setIfInBounds_toArray, List.set_cons_zero, List.set_cons_succ])
      have HS : (fun w' => w'.cell? ⟨w.heap.size + 1 + 1, 3, none⟩ = some vl ∧ w'.cell? ⟨w.heap.size, 3, none⟩ = some (.slice (some ad) l.length c) ∧ w'.cell? (ad.add (k * 4)) = some (.int .i64 o.f0) ∧ w'.cell? ⟨(ad.add (k * 4)).block, (ad.add (k * 4)).off + 1, none⟩ = some (.int .i64 o.f1) ∧ w'.cell? ⟨(ad.add (k * 4)).block, (ad.add (k * 4)).off + 2, none⟩ = some (.int .i64 o.f2) ∧ w'.cell? ⟨(ad.add (k * 4)).block, (ad.add (k * 4)).off + 3, none⟩ = some (.slice A2 o.f3.length c2)) w5 := ⟨q3, HF.out _ hbW⟩
      refine Za.takeL 10 (v := ?va10) rfl (by kernel_rfl) (by kernel_rfl) (by kernel_rfl) (by kernel_rfl) (fun _ _ _ h => h) (Or.inl ⟨by rfl, ?hya10⟩) HS ?resta10
      case hya10 => (intro w hSw; (try dsimp only at hSw); go_simp; try with_reducible rfl)
      (try simp only [Act.put, List.setIfInBounds_toArray, List.set_cons_zero, List.set_cons_succ])
      clear HS
      refine Za.nextL 11 (by kernel_rfl) rfl (fun K' hK => ?_)
      go_simp
      refine hK.out _ _ ⟨fun h => absurd (by simp) h, ?_⟩
      clear hK K'
      (try simp only [Act.put, List.setIfInBounds_toArray, List.set_cons_zero, List.set_cons_succ])
      refine Za.Walk.done (by kernel_rfl) ?_
      clear q3 z3 ho5 hbW hs5 hb5 hown F HB4 p3
      have HM5 := HS5
      clear HS5
      generalize w5.setCell ⟨w.heap.size + 1 + 1, 3, none⟩ (.slice A3 (k + 1) c3) = W6 at HM5 ⊢
      go_wp2
      go_roundw
      case rel => exact ⟨k + 1, _, by omega, by go_num, ⟨by rw [HT.out]; exact HM5.out⟩⟩
      case measure => simp [intOf]; omega
    · have hke : k = l.length := by omega
      subst hke
      have g1 : decide (l.length < l.length) = false := decide_eq_false (by omega)
      have hm := HM.out
      rw [List.take_length] at hm
      obtain ⟨A3, c3, rfl⟩ := Kd.S_slice hm.row
      have HR4 := Aside0.mk (Kd.S_lower (Kd.S_mono (Kd.S_bound hm.row) (ok' := fun j => w.heap.size + 1 < j) (fun j hj => by have := hj.2.1; omega)) (show w.heap.size ≤ w.heap.size + 1 + 1 + 1 by omega))
      have g1' := blk_below BB1.out hm.bel
      have g2' := hm.out
      have HB4 := Aside0.mk (below_then HB0.out HB0.out.size hm.bel)
      have r0 := (blk_cell g2' 0).trans rfl
      have r1 := (blk_cell g2' 1).trans rfl
      have r2 := (blk_cell g2' 2).trans rfl
      have r3 := (blk_cell g2' 3).trans rfl
      have s0 := (blk_cell g1' 0).trans rfl
      have s1 := (blk_cell g1' 1).trans rfl
      have s2 := (blk_cell g1' 2).trans rfl
      have s3 := (blk_cell g1' 3).trans rfl
      have t0 := blk_frozen g1' 0
      have t1 := blk_frozen g1' 1
      have t2 := blk_frozen g1' 2
      have t3 := blk_frozen g1' 3
      clear hm HM
      go_wp2
      refine bodyPost_ret (results_cell_row rfl _ _ (w.heap.size + 1) 52 #[.int .i64 f0, .int .i64 f1, .int .i64 f2, .slice A3 l.length c3] (0, 0) _ rfl (set4_blk _ _ _ _ g1') Try.underlying52 rfl (by kernel_rfl)) rfl ?_
      exact ⟨_, rfl, Kd.S_mono (set4_S (G := w.heap.size + 1) HR4.out (fun k hk => Nat.ne_of_gt hk) _ _ _ _) (fun _ _ => trivial), set4_below HB4.out (by omega) _ _ _ _⟩
theorem l2Copy_any (x : Ex) (hx : cntL x.f3 ≤ 1048576) : CopyCall x := fun A c w hL => l2Copy_of x.f0 x.f1 x.f2 A c x.f3 w (by have := len_le_cnt x.f3; omega) hL (fun y hy =>
  have := cnt_mem hy
  l2Copy_any y (by omega))
termination_by cntL x.f3
end Go.Proofs.Ytckblabkapeigaa.Jk
