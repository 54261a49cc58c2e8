
/- An expression made shorter: the reference's. -/
import Derived.Test.YtbbdkhffacoglaaDoorNt
import Derived.Test.YtbbdkhffacoglaaDoorNo
import Derived.Test.YtbbdkhffacoglaaDoorJj
set_option linter.unusedVariables false
set_option linter.unusedSimpArgs false
namespace Go.Proofs.YtbbdkhffacoglaaDoor.Nu
open Go.RowKit Go.Proofs.YtbbdkhffacoglaaDoorW.PrintWords Go.Proofs.YtbbdkhffacoglaaDoor.Ja Go.Proofs.YtbbdkhffacoglaaDoor.Jb Go.Proofs.YtbbdkhffacoglaaDoor.Jc Go.Proofs.YtbbdkhffacoglaaDoor.Jd Go.Proofs.YtbbdkhffacoglaaDoor.Jg Go.Proofs.YtbbdkhffacoglaaDoor.Jh Go.Proofs.YtbbdkhffacoglaaDoor.Ji Go.Proofs.YtbbdkhffacoglaaDoor.Jk Go.Proofs.YtbbdkhffacoglaaDoor.Ka Go.Proofs.YtbbdkhffacoglaaDoor.Kf Go.Proofs.YtbbdkhffacoglaaDoor.Na Go.Proofs.YtbbdkhffacoglaaDoor.Nb Go.Proofs.YtbbdkhffacoglaaDoor.Nc Go.Proofs.YtbbdkhffacoglaaDoor.Nd Go.Proofs.YtbbdkhffacoglaaDoor.Nf Go.Proofs.YtbbdkhffacoglaaDoor.Nh Go.Proofs.YtbbdkhffacoglaaDoor.Ni Go.Proofs.YtbbdkhffacoglaaDoor.Nj Go.Proofs.YtbbdkhffacoglaaDoor.Nn Go.Proofs.YtbbdkhffacoglaaDoor.No Go.Proofs.YtbbdkhffacoglaaDoor.Ns Go.Proofs.YtbbdkhffacoglaaDoor.Nt

theorem infoR : (Tryd.prog.info? 29).map (fun i => (i.zero, i.size, i.bytes)) = some (some (.agg #[.int .i64 0, .int .i64 0, .int .i64 0, .slice none 0 0]), (kR 29).sz, 48) := by kernel_rfl
abbrev SlimCall (x : Ex) : Prop := ∀ A c w, IsEL 29 w x.f3 A c → Calls Tryd.prog 38 #[X x.f0 x.f1 x.f2 A x.f3.length c] w fun e w' => ToOutR w' w.heap.size (slR x) e ∧ Below w.heap.size w w'
structure SlimMem (w W wr : World) (f0 f1 f2 : Int) (vl : Value) (l : List Ex) : Prop where
  out : wr.heap[w.heap.size + 1 + 1]? = some (.cells #[.int .i64 f0, .int .i64 f1, .int .i64 f2, vl] 29 (0, 0))
  row : RE wr (w.heap.size + 1 + 1 + 1) (fun _ => True) vl l
  bel : Below W.heap.size W wr
  size : w.heap.size + 1 + 1 + 1 ≤ wr.heap.size
/-- what a result box takes -/
theorem fin_out {w wr : World} {B : Nat} {x : Ex} {v : Value} (hb : Below w.heap.size w wr) (hr : RE wr B (fun _ => True) v x.f3) (hB : w.heap.size + 1 < B) :
    ToOutR (set4 wr (w.heap.size + 1) (.int .i64 x.f0) (.int .i64 x.f1) (.int .i64 x.f2) v) w.heap.size x (.returned (.agg #[.int .i64 x.f0, .int .i64 x.f1, .int .i64 x.f2, v])) ∧ Below w.heap.size w (set4 wr (w.heap.size + 1) (.int .i64 x.f0) (.int .i64 x.f1) (.int .i64 x.f2) v) :=
  ⟨⟨_, rfl, Kd.R_mono (Kd.R_lower (set4_R (G := w.heap.size + 1) (Kd.R_mono (Kd.R_bound hr) (ok' := fun j => B ≤ j) (fun j hj => hj.2.1)) (fun j hj => by omega) _ _ _ _) (by omega)) (fun _ _ => trivial)⟩, set4_below hb (by omega) _ _ _ _⟩
set_option maxHeartbeats 8000000 in
set_option maxRecDepth 100000 in
theorem l11Slim_of (f0 f1 f2 : Int) (A : Option Addr) (c : Nat) (l : List Ex) (w : World) (hf : formB (.mk f0 f1 f2 (slRL l)) = true) (hcn : cntL (slRL l) ≤ 1000) (hl : l.length ≤ 1048576) (hL : IsEL 29 w l A c) (hE : ∀ x, x ∈ l → SlimCall x) :
    Calls Tryd.prog 38 #[X f0 f1 f2 A l.length c] w fun e w' => ToOutR w' w.heap.size (top (fun x => orX x []) (.mk f0 f1 f2 (slRL l))) e ∧ Below w.heap.size w w' := by
  obtain ⟨hb0, b0, b1⟩ := boxes2 w #[.int .i64 f0, .int .i64 f1, .int .i64 f2, .slice A l.length c] #[.int .i64 0, .int .i64 0, .int .i64 0, .slice none 0 0] 29 29
  have hsz : ((w.alloc (.cells #[.int .i64 f0, .int .i64 f1, .int .i64 f2, .slice A l.length c] 29)).alloc (.cells #[.int .i64 0, .int .i64 0, .int .i64 0, .slice none 0 0] 29)).heap.size = w.heap.size + 1 + 1 := by simp
  have HL := Aside0.mk (hL.below hb0)
  have HE := Aside0.mk hE
  have HF0 := Aside0.mk hf
  have HCN := Aside0.mk hcn
  clear hL hE hf hcn
  go_enter Tryd.func38, Tryd.ntmps38
  go_upto_region 1 with fail
  generalize (w.alloc (.cells #[.int .i64 f0, .int .i64 f1, .int .i64 f2, .slice A l.length c] 29)).alloc (.cells #[.int .i64 0, .int .i64 0, .int .i64 0, .slice none 0 0] 29) = W at hb0 b0 b1 HL hsz ⊢
  have p0 := (blk_cell b0 0).trans rfl
  have p1 := (blk_cell b0 1).trans rfl
  have p2 := (blk_cell b0 2).trans rfl
  have p3 := (blk_cell b0 3).trans rfl
  have HB0 := Aside0.mk hb0
  have BB0 := Aside0.mk b0
  have BB1 := Aside0.mk b1
  have HSZ := Aside0.mk hsz
  have HM0 : Aside0 (SlimMem w W (W.alloc (.cells #[.int .i64 f0, .int .i64 f1, .int .i64 f2, .slice none 0 0] 29)) f0 f1 f2 (.slice none 0 0) (slRL (l.take 0))) :=
    ⟨⟨by rw [← hsz]; exact blk_new _ _, by simpa [slRL] using Kd.R_nil (kR 29) 29 _ _ (fun _ => True), below_alloc (Below.refl _ _) _, by simp; omega⟩⟩
  clear hb0 b0 b1
  go_upto_region 2 with fail
  try rw [hsz]
  clear p0 p1 p2 hsz
  go_wp2
  go_loopw [4] (fun vi wr => ∃ (k : Nat) (vl : Value), k ≤ l.length ∧ vi = .int .i64 k ∧ Aside0 (SlimMem w W wr f0 f1 f2 vl (slRL (l.take k)))) (fun vi _ => l.length - (intOf vi).toNat)
  case atStart => exact ⟨0, _, by omega, rfl, HM0⟩
  case round =>
    clear p3 HM0
    obtain ⟨k, vl, hk, rfl, HM⟩ := hrel
    have p3 := (blk_cell (blk_below BB0.out HM.out.bel) 3).trans rfl
    by_cases hlt : k < l.length
    · have i1 : (k : Int) < l.length := by omega
      have g1 : decide (k < l.length) = true := decide_eq_true hlt
      obtain ⟨ad, A2, c2, rfl, ha, hb, hc, hd, hIs⟩ := atE HL.out k hlt
      have hT := slRL_snoc l k hlt
      have HQ := Aside0.mk (HE.out _ (getE_mem hlt))
      have htl : (slRL (l.take k)).length = k := by rw [slRL_length, List.length_take]; omega
      generalize l.getD k zE = o at ha hb hc hd hIs hT HQ
      have HIS := Aside0.mk (hIs.below HM.out.bel)
      have HT := Aside0.mk hT
      have HTL := Aside0.mk htl
      have HF : Aside0 (∀ w', Below W.heap.size W w' → w'.cell? ⟨w.heap.size, 3, none⟩ = some (.slice (some ad) l.length c) ∧ w'.cell? (ad.add (k * 4)) = some (.int .i64 o.f0) ∧ w'.cell? ⟨(ad.add (k * 4)).block, (ad.add (k * 4)).off + 1, none⟩ = some (.int .i64 o.f1) ∧ w'.cell? ⟨(ad.add (k * 4)).block, (ad.add (k * 4)).off + 2, none⟩ = some (.int .i64 o.f2) ∧ w'.cell? ⟨(ad.add (k * 4)).block, (ad.add (k * 4)).off + 3, none⟩ = some (.slice A2 o.f3.length c2)) :=
        ⟨fun w' h => ⟨(blk_cell (blk_below BB0.out h) 3).trans rfl, pw_cell_below h ha, pw_cell_below h hb, pw_cell_below h hc, pw_cell_below h hd⟩⟩
      have F : ∀ w', Below wr.heap.size wr w' → (fun w' => w'.cell? ⟨w.heap.size + 1 + 1, 3, none⟩ = some vl ∧ w'.cell? ⟨w.heap.size, 3, none⟩ = some (.slice (some ad) l.length c) ∧ w'.cell? (ad.add (k * 4)) = some (.int .i64 o.f0) ∧ w'.cell? ⟨(ad.add (k * 4)).block, (ad.add (k * 4)).off + 1, none⟩ = some (.int .i64 o.f1) ∧ w'.cell? ⟨(ad.add (k * 4)).block, (ad.add (k * 4)).off + 2, none⟩ = some (.int .i64 o.f2) ∧ w'.cell? ⟨(ad.add (k * 4)).block, (ad.add (k * 4)).off + 3, none⟩ = some (.slice A2 o.f3.length c2)) w' := fun w' h => ⟨(blk_cell (blk_below HM.out.out h) 3).trans rfl, HF.out w' (below_then HM.out.bel HM.out.bel.size h)⟩
      have HB0' : Below wr.heap.size wr wr.drew := below_drew (Below.refl _ _)
      have hown : ∀ j, vl.ownBlock = some j → j < wr.heap.size := Kd.R_lt HM.out.row
      clear hT hIs ha hb hc hd htl
      go_upto_region 5 with fail
      refine Za.regionL (fun w' => w'.cell? ⟨w.heap.size + 1 + 1, 3, none⟩ = some vl ∧ w'.cell? ⟨w.heap.size, 3, none⟩ = some (.slice (some ad) l.length c) ∧ w'.cell? (ad.add (k * 4)) = some (.int .i64 o.f0) ∧ w'.cell? ⟨(ad.add (k * 4)).block, (ad.add (k * 4)).off + 1, none⟩ = some (.int .i64 o.f1) ∧ w'.cell? ⟨(ad.add (k * 4)).block, (ad.add (k * 4)).off + 2, none⟩ = some (.int .i64 o.f2) ∧ w'.cell? ⟨(ad.add (k * 4)).block, (ad.add (k * 4)).off + 3, none⟩ = some (.slice A2 o.f3.length c2)) [11] (by kernel_rfl) ?_
      have HS : (fun w' => w'.cell? ⟨w.heap.size + 1 + 1, 3, none⟩ = some vl ∧ w'.cell? ⟨w.heap.size, 3, none⟩ = some (.slice (some ad) l.length c) ∧ w'.cell? (ad.add (k * 4)) = some (.int .i64 o.f0) ∧ w'.cell? ⟨(ad.add (k * 4)).block, (ad.add (k * 4)).off + 1, none⟩ = some (.int .i64 o.f1) ∧ w'.cell? ⟨(ad.add (k * 4)).block, (ad.add (k * 4)).off + 2, none⟩ = some (.int .i64 o.f2) ∧ w'.cell? ⟨(ad.add (k * 4)).block, (ad.add (k * 4)).off + 3, none⟩ = some (.slice A2 o.f3.length c2)) wr.drew := F _ HB0'
      refine Za.takeL 0 (v := ?va0) rfl (by kernel_rfl) (by kernel_rfl) (by kernel_rfl) (by kernel_rfl) (fun _ _ _ h => h) (Or.inl ⟨by rfl, ?hya0⟩) HS ?resta0
      case hya0 => (intro w hSw; (try dsimp only at hSw); go_simp; try with_reducible rfl)
      (try simp only [Act.put, List.setIfInBounds_toArray, List.set_cons_zero, List.set_cons_succ])
      refine Za.takeL 1 (v := ?va1) rfl (by kernel_rfl) (by kernel_rfl) (by kernel_rfl) (by kernel_rfl) (fun _ _ _ h => h) (Or.inl ⟨by rfl, ?hya1⟩) HS ?resta1
      case hya1 => (intro w hSw; (try dsimp only at hSw); go_simp; try with_reducible rfl)
      (try simp only [Act.put, List.setIfInBounds_toArray, List.set_cons_zero, List.set_cons_succ])
      refine Za.takeL 2 (v := ?va2) rfl (by kernel_rfl) (by kernel_rfl) (by kernel_rfl) (by kernel_rfl) (fun _ _ _ h => h) (Or.inl ⟨by rfl, ?hya2⟩) HS ?resta2
      case hya2 => (intro w hSw; (try dsimp only at hSw); go_simp; try with_reducible rfl)
      (try simp only [Act.put, List.setIfInBounds_toArray, List.set_cons_zero, List.set_cons_succ])
      refine Za.takeL 3 (v := ?va3) rfl (by kernel_rfl) (by kernel_rfl) (by kernel_rfl) (by kernel_rfl) (fun _ _ _ h => h) (Or.inl ⟨by rfl, ?hya3⟩) HS ?resta3
      case hya3 => (intro w hSw; (try dsimp only at hSw); go_simp; try with_reducible rfl)
      (try simp only [Act.put, List.setIfInBounds_toArray, List.set_cons_zero, List.set_cons_succ])
      refine Za.takeL 4 (v := ?va4) rfl (by kernel_rfl) (by kernel_rfl) (by kernel_rfl) (by kernel_rfl) (fun _ _ _ h => h) (Or.inl ⟨by rfl, ?hya4⟩) HS ?resta4
      case hya4 => (intro w hSw; (try dsimp only at hSw); go_simp; try with_reducible rfl)
      (try simp only [Act.put, List.setIfInBounds_toArray, List.set_cons_zero, List.set_cons_succ])
      refine Za.takeL 5 (v := ?va5) rfl (by kernel_rfl) (by kernel_rfl) (by kernel_rfl) (by kernel_rfl) (fun _ _ _ h => h) (Or.inl ⟨by rfl, ?hya5⟩) HS ?resta5
      case hya5 => (intro w hSw; (try dsimp only at hSw); go_simp; try with_reducible rfl)
      (try simp only [Act.put, List.setIfInBounds_toArray, List.set_cons_zero, List.set_cons_succ])
      refine Za.takeL 6 (v := ?va6) rfl (by kernel_rfl) (by kernel_rfl) (by kernel_rfl) (by kernel_rfl) (fun _ _ _ h => h) (Or.inl ⟨by rfl, ?hya6⟩) HS ?resta6
      case hya6 => (intro w hSw; (try dsimp only at hSw); go_simp; try with_reducible rfl)
      (try simp only [Act.put, List.setIfInBounds_toArray, List.set_cons_zero, List.set_cons_succ])
      clear HS
      refine Za.nextL 7 (by kernel_rfl) rfl (fun K' hK => ?_)
      go_simp
      go_wp2_with (go_at_call 38; refine (HQ.out A2 c2 _ (HIS.out.below HB0')).mono ?_; rintro e w4 ⟨⟨v2, rfl, hr2⟩, hb4⟩; have HB4 : Below wr.heap.size wr w4 := keepD hb4; have HR2 := Aside0.mk hr2; clear hr2 hb4)
      refine hK.out _ _ ⟨fun _ => F _ HB4, ?_⟩
      clear hK K'
      (try simp only [Act.put, List.setIfInBounds_toArray, List.set_cons_zero, List.set_cons_succ])
      refine Za.nextL 8 (by kernel_rfl) rfl (fun K' hK => ?_)
      go_simp
      refine hK.out _ _ ⟨fun _ => F _ (below_alloc HB4 _), ?_⟩
      clear hK K'
      (try simp only [Act.put, List.setIfInBounds_toArray, List.set_cons_zero, List.set_cons_succ])
      refine Za.nextL 9 (by kernel_rfl) rfl (fun K' hK => ?_)
      refine Kd.R_append_step (kR 29) (w0 := wr) (w.heap.size + 1 + 1 + 1) (by rfl) _ _ 26 29 (.agg #[.int .i64 0, .int .i64 0, .int .i64 0, .slice none 0 0]) 48 rfl Tryd.underlying26 infoR rfl (by decide) (by decide) vl (slRL (l.take k)) (slR o) [.int .i64 (slR o).f0, .int .i64 (slR o).f1, .int .i64 (slR o).f2, v2] (fun _ => True) (fun j => wr.heap.size ≤ j) rfl rfl (kR_mkM (slR o) (Kd.R_lower (Kd.R_mono (Kd.R_bound HR2.out) (fun j hj => by have h1 := hj.2.1; simp at h1; omega)) (Nat.le_trans HM.out.size HB0'.size))) (fun j hj => ⟨trivial, fun h => by have := hown j h.symm; omega⟩) (fun _ _ => trivial) (Kd.R_below HM.out.row HB4) (below_le HB4 HM.out.size) (Nat.le_trans HM.out.size HB4.size) (by rw [HTL.out]; omega) ?_
      intro v3 w5 hs5 hb5 _ _
      obtain ⟨A3, c3, rfl⟩ := Kd.R_slice hs5
      have hk1 : (slRL (l.take k) ++ [slR o]).length = k + 1 := by rw [List.length_append, HTL.out]; rfl
      rw [hk1] at hs5 ⊢
      clear hk1
      have ho5 := (hb5.block (w.heap.size + 1 + 1) (Nat.lt_succ_self _)).trans HM.out.out
      have hbW : Below W.heap.size W w5 := below_trans HM.out.bel (below_le hb5 (by rw [HSZ.out]; omega))
      have q3 := (blk_cell ho5 3).trans rfl
      have z3 := blk_frozen ho5 3
      have HS5 : Aside0 (SlimMem w W (w5.setCell ⟨w.heap.size + 1 + 1, 3, none⟩ (.slice A3 (k + 1) c3)) f0 f1 f2 (.slice A3 (k + 1) c3) (slRL (l.take k) ++ [slR o])) := ⟨⟨blk_put ho5 3 _ rfl, Kd.R_mono (Kd.R_far (p := ⟨w.heap.size + 1 + 1, 3, none⟩) (Kd.R_mono (Kd.R_bound hs5) (ok' := fun j => w.heap.size + 1 + 1 < j) (fun j hj => hj.2.1)) (fun j hj => Nat.ne_of_gt hj) _) (fun _ _ => trivial), hbW.setCell (p := ⟨w.heap.size + 1 + 1, 3, none⟩) (by rw [HSZ.out]; exact Nat.le_refl _) _, by have := hb5.size; have := HM.out.size; simp [World.setCell]; omega⟩⟩
      refine hK.out _ _ ⟨fun _ => ⟨q3, HF.out _ hbW⟩, ?_⟩
      clear hK K'
      (try simp only [Act.put, List.setIfInBounds_toArray, List.set_cons_zero, List.set_cons_succ])
      have HS : (fun w' => w'.cell? ⟨w.heap.size + 1 + 1, 3, none⟩ = some vl ∧ w'.cell? ⟨w.heap.size, 3, none⟩ = some (.slice (some ad) l.length c) ∧ w'.cell? (ad.add (k * 4)) = some (.int .i64 o.f0) ∧ w'.cell? ⟨(ad.add (k * 4)).block, (ad.add (k * 4)).off + 1, none⟩ = some (.int .i64 o.f1) ∧ w'.cell? ⟨(ad.add (k * 4)).block, (ad.add (k * 4)).off + 2, none⟩ = some (.int .i64 o.f2) ∧ w'.cell? ⟨(ad.add (k * 4)).block, (ad.add (k * 4)).off + 3, none⟩ = some (.slice A2 o.f3.length c2)) w5 := ⟨q3, HF.out _ hbW⟩
      refine Za.takeL 10 (v := ?va10) rfl (by kernel_rfl) (by kernel_rfl) (by kernel_rfl) (by kernel_rfl) (fun _ _ _ h => h) (Or.inl ⟨by rfl, ?hya10⟩) HS ?resta10
      case hya10 => (intro w hSw; (try dsimp only at hSw); go_simp; try with_reducible rfl)
      (try simp only [Act.put, List.setIfInBounds_toArray, List.set_cons_zero, List.set_cons_succ])
      clear HS
      refine Za.nextL 11 (by kernel_rfl) rfl (fun K' hK => ?_)
      go_simp
      refine hK.out _ _ ⟨fun h => absurd (by simp) h, ?_⟩
      clear hK K'
      (try simp only [Act.put, List.setIfInBounds_toArray, List.set_cons_zero, List.set_cons_succ])
      refine Za.Walk.done (by kernel_rfl) ?_
      clear q3 z3 ho5 hbW hs5 hb5 hown F HB4 p3
      have HM5 := HS5
      clear HS5
      generalize w5.setCell ⟨w.heap.size + 1 + 1, 3, none⟩ (.slice A3 (k + 1) c3) = W6 at HM5 ⊢
      go_wp2
      go_roundw
      case rel => exact ⟨k + 1, _, by omega, by go_num, ⟨by rw [HT.out]; exact HM5.out⟩⟩
      case measure => simp [intOf]; omega
    · have hke : k = l.length := by omega
      subst hke
      have g1 : decide (l.length < l.length) = false := decide_eq_false (by omega)
      have hm := HM.out
      rw [List.take_length] at hm
      have hll := slRL_length l
      obtain ⟨LL, hLL⟩ : ∃ LL, LL = slRL l := ⟨_, rfl⟩
      rw [← hLL] at hm HF0 HCN hll
      have HLE := Aside0.mk hLL
      clear hLL
      have HLL := Aside0.mk hll
      clear hll
      obtain ⟨A3, c3, rfl⟩ := Kd.R_slice hm.row
      have HR4 := Aside0.mk hm.row
      have g1' := blk_below BB1.out hm.bel
      have g2' := hm.out
      have HB4 := Aside0.mk (below_then HB0.out HB0.out.size hm.bel)
      have HS4 := Aside0.mk hm.size
      have BG1 := Aside0.mk g1'
      have BG2 := Aside0.mk g2'
      have r0 := (blk_cell g2' 0).trans rfl
      have r1 := (blk_cell g2' 1).trans rfl
      have r2 := (blk_cell g2' 2).trans rfl
      have r3 := (blk_cell g2' 3).trans rfl
      clear hm HM g2'
      have HTOP2 : Aside0 (f0 = 2 → top (fun x => orX x []) (.mk f0 f1 f2 LL) = chain (orX (.mk f0 f1 f2 LL) [])) := ⟨fun h => by unfold top; rw [if_pos (show (Ex.mk f0 f1 f2 LL).f0 = 2 from h)]⟩
      have HTOP7 : Aside0 (¬ f0 = 2 → (f0 = 7 ∧ (LL.getD 0 zE).f0 = 7 ∧ f2 + (LL.getD 0 zE).f2 ≤ 20) → top (fun x => orX x []) (.mk f0 f1 f2 LL) = .mk 7 0 (f2 + (LL.getD 0 zE).f2) (LL.getD 0 zE).f3) := ⟨fun h h7 => by unfold top; rw [if_neg (show ¬ (Ex.mk f0 f1 f2 LL).f0 = 2 from h), if_pos (show (Ex.mk f0 f1 f2 LL).f0 = 7 ∧ ((Ex.mk f0 f1 f2 LL).f3.getD 0 zE).f0 = 7 ∧ (Ex.mk f0 f1 f2 LL).f2 + ((Ex.mk f0 f1 f2 LL).f3.getD 0 zE).f2 ≤ 20 from h7)]; rfl⟩
      have HTOPN : Aside0 (¬ f0 = 2 → ¬ (f0 = 7 ∧ (LL.getD 0 zE).f0 = 7 ∧ f2 + (LL.getD 0 zE).f2 ≤ 20) → top (fun x => orX x []) (.mk f0 f1 f2 LL) = .mk f0 f1 f2 LL) := ⟨fun h h7 => by unfold top; rw [if_neg (show ¬ (Ex.mk f0 f1 f2 LL).f0 = 2 from h), if_neg (show ¬ ((Ex.mk f0 f1 f2 LL).f0 = 7 ∧ ((Ex.mk f0 f1 f2 LL).f3.getD 0 zE).f0 = 7 ∧ (Ex.mk f0 f1 f2 LL).f2 + ((Ex.mk f0 f1 f2 LL).f3.getD 0 zE).f2 ≤ 20) from h7)]⟩
      by_cases h2 : f0 = 2
      · have e2 : (f0 == 2) = true := by simp [h2]
        have HT := Aside0.mk (HTOP2.out h2)
        have HOR : Aside0 (Calls Tryd.prog 32 #[.slice none 0 0, X f0 f1 f2 A3 LL.length c3] wr fun e w' => PutOut (wqO wr (w.heap.size + 1 + 1 + 1)) wr w' wr.heap.size (.slice none 0 0) (orX (.mk f0 f1 f2 LL) []) e) :=
          ⟨or_any (.mk f0 f1 f2 LL) HF0.out (show cntL LL ≤ 1048576 by have := HCN.out; omega) (wqO wr (w.heap.size + 1 + 1 + 1)) wr.heap.size (.slice none 0 0) [] A3 c3 wr (Below.refl _ _) (Nat.le_refl _) (Nat.le_refl _) (by simp [AllF]) List.Pairwise.nil (by simp)
            (by have h1 := lv_len (.mk f0 f1 f2 LL); have h3 := HCN.out; have h4 : (Ex.mk f0 f1 f2 LL).f3 = LL := rfl; rw [h4] at h1; simp; omega) (Kd.R_nil _ _ _ _ _) (R_isEL HR4.out).2 (kR_mkM (.mk f0 f1 f2 LL) HR4.out)⟩
        have HPOS : Aside0 (1 ≤ (orX (.mk f0 f1 f2 LL) []).length ∧ (orX (.mk f0 f1 f2 LL) []).length ≤ 1048576) := ⟨by
          rw [← ch_or HF0.out]
          have h1 := ch_pos _ HF0.out
          have h3 := ch_le _ HF0.out
          have h4 : tot (.mk f0 f1 f2 LL) = 1 + cntL LL := rfl
          have h5 := HCN.out
          omega⟩
        clear h2 HTOP2 HTOP7 HTOPN
        go_upto_region 8 with fail
        clear r0 r1 r2 r3 e2 g1
        have r0 := (blk_cell BG2.out 0).trans rfl
        have r1 := (blk_cell BG2.out 1).trans rfl
        have r2 := (blk_cell BG2.out 2).trans rfl
        have r3 := (blk_cell BG2.out 3).trans rfl
        clear g1'
        go_wp2_with (first
          | (go_at_call 69; refine (l11Chain_any wr (w.heap.size + 1 + 1 + 1) wr.heap.size (orX (.mk f0 f1 f2 LL) []) v5 w5 HS4.out HB5.out (Nat.le_refl _) HPOS.out.1 HPOS.out.2 HR5.out).mono ?_; rintro e w6 ⟨⟨v6, rfl, hr6⟩, hb6⟩; obtain ⟨A6, c6, rfl⟩ := Kd.R_slice hr6; have HR6 := Aside0.mk hr6; have HB6 := Aside0.mk (below_then HB5.out HB5.out.size hb6); have g1' := blk_below BG1.out (below_then HB5.out HB5.out.size hb6); have s0 := (blk_cell g1' 0).trans rfl; have s1 := (blk_cell g1' 1).trans rfl; have s2 := (blk_cell g1' 2).trans rfl; have s3 := (blk_cell g1' 3).trans rfl; have t0 := blk_frozen g1' 0; have t1 := blk_frozen g1' 1; have t2 := blk_frozen g1' 2; have t3 := blk_frozen g1' 3; clear hr6 hb6)
          | (go_at_call 32; refine HOR.out.mono ?_; rintro e w5 ⟨v5, rfl, hr5, hg5, -⟩; have HR5 := Aside0.mk hr5; have HB5 : Aside0 (Below wr.heap.size wr w5) := ⟨pw_below_grown (Below.refl _ _) _ (Nat.le_refl _) hg5 (fun j hj => by simp [Value.ownBlock] at hj)⟩; clear hr5 hg5))
        refine bodyPost_ret (results_cell_row rfl _ _ (w.heap.size + 1) 29 #[.int .i64 (chain (orX (.mk f0 f1 f2 LL) [])).f0, .int .i64 (chain (orX (.mk f0 f1 f2 LL) [])).f1, .int .i64 (chain (orX (.mk f0 f1 f2 LL) [])).f2, .slice A6 (chain (orX (.mk f0 f1 f2 LL) [])).f3.length c6] (0, 0) _ rfl (set4_blk _ _ _ _ g1') Tryd.underlying29 rfl (by kernel_rfl)) rfl ?_
        rw [← HLE.out, HT.out]
        exact fin_out (below_then HB4.out HB4.out.size HB6.out) HR6.out (by omega)
      have e2 : (f0 == 2) = false := by simp [h2]
      by_cases h7 : f0 = 7
      · have e7 : (f0 == 7) = true := by simp [h7]
        have hll1 : LL.length = 1 := by
          have h := (form_head HF0.out).1.kids
          have h3 : kidsN 7 = 1 := by decide
          have h4 : ((LL.length : Nat) : Int) = kidsN f0 := h
          rw [h7, h3] at h4; omega
        obtain ⟨g, cap, eA, hgb, hgl, -⟩ := Kd.R_form HR4.out (by omega)
        cases eA
        have HL1 := Aside0.mk hll1
        obtain ⟨cs, hcl, hM, hcc, -⟩ := Kd.R_elem HR4.out zE (0 : Int) (by omega) (by omega)
        have hM' : (kR 29).M wr (w.heap.size + 1 + 1 + 1) _ (LL.getD 0 zE) cs := hM
        obtain ⟨vy, rfl, gy⟩ := kR_openM hM'
        obtain ⟨Ay, cy, rfl⟩ := Kd.R_slice gy
        have ha : wr.cell? ⟨g, 0, none⟩ = some (.int .i64 (LL.getD 0 zE).f0) := hcc 0 _ rfl
        have hb : wr.cell? ⟨g, 1, none⟩ = some (.int .i64 (LL.getD 0 zE).f1) := hcc 1 _ rfl
        have hc : wr.cell? ⟨g, 2, none⟩ = some (.int .i64 (LL.getD 0 zE).f2) := hcc 2 _ rfl
        have hd : wr.cell? ⟨g, 3, none⟩ = some (.slice Ay (LL.getD 0 zE).f3.length cy) := hcc 3 _ rfl
        have HGY := Aside0.mk gy
        have HFY : Aside0 (formB (LL.getD 0 zE) = true) := ⟨by
          have h := (form_head HF0.out).2
          rw [formL_all, List.all_eq_true] at h
          exact h _ (show LL.getD 0 zE ∈ LL from getE_mem (by omega))⟩
        have hpl := (form_head HF0.out).1.plus h7
        have hn1 : 1 ≤ f2 := hpl.1
        have hn2 : f2 ≤ 20 := hpl.2
        generalize LL.getD 0 zE = y at ha hb hc hd HGY HFY HTOP7 HTOPN
        have H7 := Aside0.mk h7
        have H2 := Aside0.mk h2
        clear hM hM' gy hcc hpl hcl r0 r1 r2 r3 g1' h7 h2
        have BG3 : Aside0 (wr.heap[w.heap.size + 1 + 1]? = some (.cells #[.int .i64 f0, .int .i64 f1, .int .i64 f2, .slice (some ⟨g, 0, none⟩) 1 c3] 29 (0, 0))) := ⟨by rw [BG2.out, HL1.out]⟩
        clear BG2 hll1
        have BG2 := BG3
        clear BG3
        have F : Aside0 (∀ w', Below wr.heap.size wr w' → (fun w' => (w'.cell? ⟨w.heap.size + 1 + 1, 0, none⟩ = some (.int .i64 f0) ∧ w'.cell? ⟨w.heap.size + 1 + 1, 1, none⟩ = some (.int .i64 f1) ∧ w'.cell? ⟨w.heap.size + 1 + 1, 2, none⟩ = some (.int .i64 f2) ∧ w'.cell? ⟨w.heap.size + 1 + 1, 3, none⟩ = some (.slice (some ⟨g, 0, none⟩) 1 c3)) ∧ (w'.cell? ⟨g, 0, none⟩ = some (.int .i64 y.f0) ∧ w'.cell? ⟨g, 1, none⟩ = some (.int .i64 y.f1) ∧ w'.cell? ⟨g, 2, none⟩ = some (.int .i64 y.f2) ∧ w'.cell? ⟨g, 3, none⟩ = some (.slice Ay y.f3.length cy))) w') := ⟨fun w' h => ⟨⟨(blk_cell (blk_below BG2.out h) 0).trans rfl, (blk_cell (blk_below BG2.out h) 1).trans rfl, (blk_cell (blk_below BG2.out h) 2).trans rfl, (blk_cell (blk_below BG2.out h) 3).trans rfl⟩, ⟨pw_cell_below h ha, pw_cell_below h hb, pw_cell_below h hc, pw_cell_below h hd⟩⟩⟩
        clear ha hb hc hd
        have r0 := (blk_cell BG2.out 0).trans rfl
        go_upto_region 10 with fail
        clear r0 g1 p3 e2 e7
        have HD : Aside0 (Below wr.heap.size wr wr.drew) := ⟨below_drew (Below.refl _ _)⟩
        by_cases hy : y.f0 = 7
        · have d7 : (y.f0 == 7) = true := by simp [hy]
          have hpy := (form_head HFY.out).1.plus hy
          have hy1 : 1 ≤ y.f2 := hpy.1
          have hy2 : y.f2 ≤ 20 := hpy.2
          have hwr : IntKind.i64.wrap (f2 + y.f2) = f2 + y.f2 := by rw [IntKind.wrap_i64]; omega
          clear hpy
          by_cases hs : f2 + y.f2 ≤ 20
          · have ds : decide (f2 + y.f2 ≤ 20) = true := decide_eq_true hs
            have HT := Aside0.mk (HTOP7.out H2.out ⟨H7.out, hy, hs⟩)
            clear hy hs
            refine Za.regionL (fun w' => (w'.cell? ⟨w.heap.size + 1 + 1, 0, none⟩ = some (.int .i64 f0) ∧ w'.cell? ⟨w.heap.size + 1 + 1, 1, none⟩ = some (.int .i64 f1) ∧ w'.cell? ⟨w.heap.size + 1 + 1, 2, none⟩ = some (.int .i64 f2) ∧ w'.cell? ⟨w.heap.size + 1 + 1, 3, none⟩ = some (.slice (some ⟨g, 0, none⟩) 1 c3)) ∧ (w'.cell? ⟨g, 0, none⟩ = some (.int .i64 y.f0) ∧ w'.cell? ⟨g, 1, none⟩ = some (.int .i64 y.f1) ∧ w'.cell? ⟨g, 2, none⟩ = some (.int .i64 y.f2) ∧ w'.cell? ⟨g, 3, none⟩ = some (.slice Ay y.f3.length cy))) [] (by kernel_rfl) ?_
            generalize wr.drew = wd at HD ⊢
            have HS : (fun w' => (w'.cell? ⟨w.heap.size + 1 + 1, 0, none⟩ = some (.int .i64 f0) ∧ w'.cell? ⟨w.heap.size + 1 + 1, 1, none⟩ = some (.int .i64 f1) ∧ w'.cell? ⟨w.heap.size + 1 + 1, 2, none⟩ = some (.int .i64 f2) ∧ w'.cell? ⟨w.heap.size + 1 + 1, 3, none⟩ = some (.slice (some ⟨g, 0, none⟩) 1 c3)) ∧ (w'.cell? ⟨g, 0, none⟩ = some (.int .i64 y.f0) ∧ w'.cell? ⟨g, 1, none⟩ = some (.int .i64 y.f1) ∧ w'.cell? ⟨g, 2, none⟩ = some (.int .i64 y.f2) ∧ w'.cell? ⟨g, 3, none⟩ = some (.slice Ay y.f3.length cy))) wd := F.out _ HD.out
            refine Za.takeL 0 (v := ?vp0) rfl (by kernel_rfl) (by kernel_rfl) (by kernel_rfl) (by kernel_rfl) (fun _ _ _ h => h) (Or.inl ⟨by rfl, ?hyp0⟩) HS ?restp0
            case hyp0 => (intro w hSw; (try dsimp only at hSw); go_simp; try with_reducible rfl)
            (try simp only [Act.put, List.setIfInBounds_toArray, List.set_cons_zero, List.set_cons_succ])
            refine Za.takeL 1 (v := ?vp1) rfl (by kernel_rfl) (by kernel_rfl) (by kernel_rfl) (by kernel_rfl) (fun _ _ _ h => h) (Or.inl ⟨by rfl, ?hyp1⟩) HS ?restp1
            case hyp1 => (intro w hSw; (try dsimp only at hSw); go_simp; try with_reducible rfl)
            (try simp only [Act.put, List.setIfInBounds_toArray, List.set_cons_zero, List.set_cons_succ])
            refine Za.takeL 2 (v := ?vp2) rfl (by kernel_rfl) (by kernel_rfl) (by kernel_rfl) (by kernel_rfl) (fun _ _ _ h => h) (Or.inl ⟨by rfl, ?hyp2⟩) HS ?restp2
            case hyp2 => (intro w hSw; (try dsimp only at hSw); go_simp; try with_reducible rfl)
            (try simp only [Act.put, List.setIfInBounds_toArray, List.set_cons_zero, List.set_cons_succ])
            refine Za.takeL 3 (v := ?vp3) rfl (by kernel_rfl) (by kernel_rfl) (by kernel_rfl) (by kernel_rfl) (fun _ _ _ h => h) (Or.inl ⟨by rfl, ?hyp3⟩) HS ?restp3
            case hyp3 => (intro w hSw; (try dsimp only at hSw); go_simp; try with_reducible rfl)
            (try simp only [Act.put, List.setIfInBounds_toArray, List.set_cons_zero, List.set_cons_succ])
            refine Za.takeL 4 (v := ?vp4) rfl (by kernel_rfl) (by kernel_rfl) (by kernel_rfl) (by kernel_rfl) (fun _ _ _ h => h) (Or.inl ⟨by rfl, ?hyp4⟩) HS ?restp4
            case hyp4 => (intro w hSw; (try dsimp only at hSw); go_simp; try with_reducible rfl)
            (try simp only [Act.put, List.setIfInBounds_toArray, List.set_cons_zero, List.set_cons_succ])
            refine Za.takeL 5 (v := ?vp5) rfl (by kernel_rfl) (by kernel_rfl) (by kernel_rfl) (by kernel_rfl) (fun _ _ _ h => h) (Or.inl ⟨by rfl, ?hyp5⟩) HS ?restp5
            case hyp5 => (intro w hSw; (try dsimp only at hSw); go_simp; try with_reducible rfl)
            (try simp only [Act.put, List.setIfInBounds_toArray, List.set_cons_zero, List.set_cons_succ])
            refine Za.takeL 6 (v := ?vp6) rfl (by kernel_rfl) (by kernel_rfl) (by kernel_rfl) (by kernel_rfl) (fun _ _ _ h => h) (Or.inl ⟨by rfl, ?hyp6⟩) HS ?restp6
            case hyp6 => (intro w hSw; (try dsimp only at hSw); go_simp; try with_reducible rfl)
            (try simp only [Act.put, List.setIfInBounds_toArray, List.set_cons_zero, List.set_cons_succ])
            refine Za.takeL 7 (v := ?vp7) rfl (by kernel_rfl) (by kernel_rfl) (by kernel_rfl) (by kernel_rfl) (fun _ _ _ h => h) (Or.inl ⟨by rfl, ?hyp7⟩) HS ?restp7
            case hyp7 => (intro w hSw; (try dsimp only at hSw); go_simp; try with_reducible rfl)
            (try simp only [Act.put, List.setIfInBounds_toArray, List.set_cons_zero, List.set_cons_succ])
            refine Za.takeL 8 (v := ?vp8) rfl (by kernel_rfl) (by kernel_rfl) (by kernel_rfl) (by kernel_rfl) (fun _ _ _ h => h) (Or.inl ⟨by rfl, ?hyp8⟩) HS ?restp8
            case hyp8 => (intro w hSw; (try dsimp only at hSw); go_simp; try with_reducible rfl)
            (try simp only [Act.put, List.setIfInBounds_toArray, List.set_cons_zero, List.set_cons_succ])
            refine Za.takeL 9 (v := ?vp9) rfl (by kernel_rfl) (by kernel_rfl) (by kernel_rfl) (by kernel_rfl) (fun _ _ _ h => h) (Or.inl ⟨by rfl, ?hyp9⟩) HS ?restp9
            case hyp9 => (intro w hSw; (try dsimp only at hSw); go_simp; try with_reducible rfl)
            (try simp only [Act.put, List.setIfInBounds_toArray, List.set_cons_zero, List.set_cons_succ])
            refine Za.takeL 10 (v := ?vp10) rfl (by kernel_rfl) (by kernel_rfl) (by kernel_rfl) (by kernel_rfl) (fun _ _ _ h => h) (Or.inl ⟨by rfl, ?hyp10⟩) HS ?restp10
            case hyp10 => (intro w hSw; (try dsimp only at hSw); go_simp; try with_reducible rfl)
            (try simp only [Act.put, List.setIfInBounds_toArray, List.set_cons_zero, List.set_cons_succ])
            refine Za.takeL 11 (v := ?vp11) rfl (by kernel_rfl) (by kernel_rfl) (by kernel_rfl) (by kernel_rfl) (fun _ _ _ h => h) (Or.inl ⟨by rfl, ?hyp11⟩) HS ?restp11
            case hyp11 => (intro w hSw; (try dsimp only at hSw); go_simp; try with_reducible rfl)
            (try simp only [Act.put, List.setIfInBounds_toArray, List.set_cons_zero, List.set_cons_succ])
            refine Za.takeL 12 (v := ?vp12) rfl (by kernel_rfl) (by kernel_rfl) (by kernel_rfl) (by kernel_rfl) (fun _ _ _ h => h) (Or.inl ⟨by rfl, ?hyp12⟩) HS ?restp12
            case hyp12 => (intro w hSw; (try dsimp only at hSw); go_simp; try with_reducible rfl)
            (try simp only [Act.put, List.setIfInBounds_toArray, List.set_cons_zero, List.set_cons_succ])
            refine Za.takeL 13 (v := ?vp13) rfl (by kernel_rfl) (by kernel_rfl) (by kernel_rfl) (by kernel_rfl) (fun _ _ _ h => h) (Or.inl ⟨by rfl, ?hyp13⟩) HS ?restp13
            case hyp13 => (intro w hSw; (try dsimp only at hSw); go_simp; try with_reducible rfl)
            (try simp only [Act.put, List.setIfInBounds_toArray, List.set_cons_zero, List.set_cons_succ])
            refine Za.takeL 14 (v := ?vp14) rfl (by kernel_rfl) (by kernel_rfl) (by kernel_rfl) (by kernel_rfl) (fun _ _ _ h => h) (Or.inl ⟨by rfl, ?hyp14⟩) HS ?restp14
            case hyp14 => (intro w hSw; (try dsimp only at hSw); go_simp; try with_reducible rfl)
            (try simp only [Act.put, List.setIfInBounds_toArray, List.set_cons_zero, List.set_cons_succ])
            refine Za.takeL 15 (v := ?vp15) rfl (by kernel_rfl) (by kernel_rfl) (by kernel_rfl) (by kernel_rfl) (fun _ _ _ h => h) (Or.inl ⟨by rfl, ?hyp15⟩) HS ?restp15
            case hyp15 => (intro w hSw; (try dsimp only at hSw); go_simp; try with_reducible rfl)
            (try simp only [Act.put, List.setIfInBounds_toArray, List.set_cons_zero, List.set_cons_succ])
            refine Za.takeL 16 (v := ?vp16) rfl (by kernel_rfl) (by kernel_rfl) (by kernel_rfl) (by kernel_rfl) (fun _ _ _ h => h) (Or.inl ⟨by rfl, ?hyp16⟩) HS ?restp16
            case hyp16 => (intro w hSw; (try dsimp only at hSw); go_simp; try with_reducible rfl)
            (try simp only [Act.put, List.setIfInBounds_toArray, List.set_cons_zero, List.set_cons_succ])
            clear HS
            refine Za.Walk.done (by kernel_rfl) ?_
            go_upto_region 11 with fail
            refine Za.regionL (fun w' => (w'.cell? ⟨w.heap.size + 1 + 1, 0, none⟩ = some (.int .i64 f0) ∧ w'.cell? ⟨w.heap.size + 1 + 1, 1, none⟩ = some (.int .i64 f1) ∧ w'.cell? ⟨w.heap.size + 1 + 1, 2, none⟩ = some (.int .i64 f2) ∧ w'.cell? ⟨w.heap.size + 1 + 1, 3, none⟩ = some (.slice (some ⟨g, 0, none⟩) 1 c3)) ∧ (w'.cell? ⟨g, 0, none⟩ = some (.int .i64 y.f0) ∧ w'.cell? ⟨g, 1, none⟩ = some (.int .i64 y.f1) ∧ w'.cell? ⟨g, 2, none⟩ = some (.int .i64 y.f2) ∧ w'.cell? ⟨g, 3, none⟩ = some (.slice Ay y.f3.length cy))) [14] (by kernel_rfl) ?_
            have HD2 : Aside0 (Below wr.heap.size wr wd.drew) := ⟨below_then HD.out HD.out.size (below_drew (Below.refl _ _))⟩
            generalize wd.drew = we at HD2 ⊢
            have HS : (fun w' => (w'.cell? ⟨w.heap.size + 1 + 1, 0, none⟩ = some (.int .i64 f0) ∧ w'.cell? ⟨w.heap.size + 1 + 1, 1, none⟩ = some (.int .i64 f1) ∧ w'.cell? ⟨w.heap.size + 1 + 1, 2, none⟩ = some (.int .i64 f2) ∧ w'.cell? ⟨w.heap.size + 1 + 1, 3, none⟩ = some (.slice (some ⟨g, 0, none⟩) 1 c3)) ∧ (w'.cell? ⟨g, 0, none⟩ = some (.int .i64 y.f0) ∧ w'.cell? ⟨g, 1, none⟩ = some (.int .i64 y.f1) ∧ w'.cell? ⟨g, 2, none⟩ = some (.int .i64 y.f2) ∧ w'.cell? ⟨g, 3, none⟩ = some (.slice Ay y.f3.length cy))) we := F.out _ HD2.out
            refine Za.takeL 0 (v := ?vq0) rfl (by kernel_rfl) (by kernel_rfl) (by kernel_rfl) (by kernel_rfl) (fun _ _ _ h => h) (Or.inl ⟨by rfl, ?hyq0⟩) HS ?restq0
            case hyq0 => (intro w hSw; (try dsimp only at hSw); go_simp; try with_reducible rfl)
            (try simp only [Act.put, List.setIfInBounds_toArray, List.set_cons_zero, List.set_cons_succ])
            refine Za.takeL 1 (v := ?vq1) rfl (by kernel_rfl) (by kernel_rfl) (by kernel_rfl) (by kernel_rfl) (fun _ _ _ h => h) (Or.inl ⟨by rfl, ?hyq1⟩) HS ?restq1
            case hyq1 => (intro w hSw; (try dsimp only at hSw); go_simp; try with_reducible rfl)
            (try simp only [Act.put, List.setIfInBounds_toArray, List.set_cons_zero, List.set_cons_succ])
            refine Za.takeL 2 (v := ?vq2) rfl (by kernel_rfl) (by kernel_rfl) (by kernel_rfl) (by kernel_rfl) (fun _ _ _ h => h) (Or.inl ⟨by rfl, ?hyq2⟩) HS ?restq2
            case hyq2 => (intro w hSw; (try dsimp only at hSw); go_simp; try with_reducible rfl)
            (try simp only [Act.put, List.setIfInBounds_toArray, List.set_cons_zero, List.set_cons_succ])
            refine Za.takeL 3 (v := ?vq3) rfl (by kernel_rfl) (by kernel_rfl) (by kernel_rfl) (by kernel_rfl) (fun _ _ _ h => h) (Or.inl ⟨by rfl, ?hyq3⟩) HS ?restq3
            case hyq3 => (intro w hSw; (try dsimp only at hSw); go_simp; try with_reducible rfl)
            (try simp only [Act.put, List.setIfInBounds_toArray, List.set_cons_zero, List.set_cons_succ])
            refine Za.takeL 4 (v := ?vq4) rfl (by kernel_rfl) (by kernel_rfl) (by kernel_rfl) (by kernel_rfl) (fun _ _ _ h => h) (Or.inl ⟨by rfl, ?hyq4⟩) HS ?restq4
            case hyq4 => (intro w hSw; (try dsimp only at hSw); go_simp; try with_reducible rfl)
            (try simp only [Act.put, List.setIfInBounds_toArray, List.set_cons_zero, List.set_cons_succ])
            refine Za.takeL 5 (v := ?vq5) rfl (by kernel_rfl) (by kernel_rfl) (by kernel_rfl) (by kernel_rfl) (fun _ _ _ h => h) (Or.inl ⟨by rfl, ?hyq5⟩) HS ?restq5
            case hyq5 => (intro w hSw; (try dsimp only at hSw); go_simp; try with_reducible rfl)
            (try simp only [Act.put, List.setIfInBounds_toArray, List.set_cons_zero, List.set_cons_succ])
            refine Za.takeL 6 (v := ?vq6) rfl (by kernel_rfl) (by kernel_rfl) (by kernel_rfl) (by kernel_rfl) (fun _ _ _ h => h) (Or.inl ⟨by rfl, ?hyq6⟩) HS ?restq6
            case hyq6 => (intro w hSw; (try dsimp only at hSw); go_simp; try with_reducible rfl)
            (try simp only [Act.put, List.setIfInBounds_toArray, List.set_cons_zero, List.set_cons_succ])
            refine Za.takeL 7 (v := ?vq7) rfl (by kernel_rfl) (by kernel_rfl) (by kernel_rfl) (by kernel_rfl) (fun _ _ _ h => h) (Or.inl ⟨by rfl, ?hyq7⟩) HS ?restq7
            case hyq7 => (intro w hSw; (try dsimp only at hSw); go_simp; try with_reducible rfl)
            (try simp only [Act.put, List.setIfInBounds_toArray, List.set_cons_zero, List.set_cons_succ])
            refine Za.takeL 8 (v := ?vq8) rfl (by kernel_rfl) (by kernel_rfl) (by kernel_rfl) (by kernel_rfl) (fun _ _ _ h => h) (Or.inl ⟨by rfl, ?hyq8⟩) HS ?restq8
            case hyq8 => (intro w hSw; (try dsimp only at hSw); go_simp; try with_reducible rfl)
            (try simp only [Act.put, List.setIfInBounds_toArray, List.set_cons_zero, List.set_cons_succ])
            refine Za.takeL 9 (v := ?vq9) rfl (by kernel_rfl) (by kernel_rfl) (by kernel_rfl) (by kernel_rfl) (fun _ _ _ h => h) (Or.inl ⟨by rfl, ?hyq9⟩) HS ?restq9
            case hyq9 => (intro w hSw; (try dsimp only at hSw); go_simp; try with_reducible rfl)
            (try simp only [Act.put, List.setIfInBounds_toArray, List.set_cons_zero, List.set_cons_succ])
            refine Za.takeL 10 (v := ?vq10) rfl (by kernel_rfl) (by kernel_rfl) (by kernel_rfl) (by kernel_rfl) (fun _ _ _ h => h) (Or.inl ⟨by rfl, ?hyq10⟩) HS ?restq10
            case hyq10 => (intro w hSw; (try dsimp only at hSw); go_simp; try with_reducible rfl)
            (try simp only [Act.put, List.setIfInBounds_toArray, List.set_cons_zero, List.set_cons_succ])
            refine Za.takeL 11 (v := ?vq11) rfl (by kernel_rfl) (by kernel_rfl) (by kernel_rfl) (by kernel_rfl) (fun _ _ _ h => h) (Or.inl ⟨by rfl, ?hyq11⟩) HS ?restq11
            case hyq11 => (intro w hSw; (try dsimp only at hSw); go_simp; try with_reducible rfl)
            (try simp only [Act.put, List.setIfInBounds_toArray, List.set_cons_zero, List.set_cons_succ])
            refine Za.takeL 12 (v := ?vq12) rfl (by kernel_rfl) (by kernel_rfl) (by kernel_rfl) (by kernel_rfl) (fun _ _ _ h => h) (Or.inl ⟨by rfl, ?hyq12⟩) HS ?restq12
            case hyq12 => (intro w hSw; (try dsimp only at hSw); go_simp; try with_reducible rfl)
            (try simp only [Act.put, List.setIfInBounds_toArray, List.set_cons_zero, List.set_cons_succ])
            clear HS
            refine Za.nextL 13 (by kernel_rfl) rfl (fun K' hK => ?_)
            go_simp
            refine hK.out _ _ ⟨fun _ => F.out _ HD2.out, ?_⟩
            clear hK K'
            (try simp only [Act.put, List.setIfInBounds_toArray, List.set_cons_zero, List.set_cons_succ])
            have g1' := blk_below BG1.out HD2.out
            have s0 := (blk_cell g1' 0).trans rfl
            have s1 := (blk_cell g1' 1).trans rfl
            have s2 := (blk_cell g1' 2).trans rfl
            have s3 := (blk_cell g1' 3).trans rfl
            have t0 := blk_frozen g1' 0
            have t1 := blk_frozen g1' 1
            have t2 := blk_frozen g1' 2
            have t3 := blk_frozen g1' 3
            refine Za.nextL 14 (by kernel_rfl) rfl (fun K' hK => ?_)
            go_simp
            refine hK.out _ _ ⟨fun h => absurd (by simp) h, ?_⟩
            clear hK K'
            (try simp only [Act.put, List.setIfInBounds_toArray, List.set_cons_zero, List.set_cons_succ])
            refine Za.Walk.done (by kernel_rfl) ?_
            go_wp2
            refine bodyPost_ret (results_cell_row rfl _ _ (w.heap.size + 1) 29 #[.int .i64 7, .int .i64 0, .int .i64 (f2 + y.f2), .slice Ay y.f3.length cy] (0, 0) _ rfl (set4_blk _ _ _ _ g1') Tryd.underlying29 rfl (by kernel_rfl)) rfl ?_
            rw [← HLE.out, HT.out]
            exact fin_out (x := .mk 7 0 (f2 + y.f2) y.f3) (below_then HB4.out HB4.out.size HD2.out) (Kd.R_mono (Kd.R_below HGY.out HD2.out) (fun _ _ => trivial)) (by omega)
          · have ds : decide (f2 + y.f2 ≤ 20) = false := decide_eq_false hs
            have HT := Aside0.mk (HTOPN.out H2.out (fun h => hs h.2.2))
            clear hy hs
            refine Za.regionL (fun w' => (w'.cell? ⟨w.heap.size + 1 + 1, 0, none⟩ = some (.int .i64 f0) ∧ w'.cell? ⟨w.heap.size + 1 + 1, 1, none⟩ = some (.int .i64 f1) ∧ w'.cell? ⟨w.heap.size + 1 + 1, 2, none⟩ = some (.int .i64 f2) ∧ w'.cell? ⟨w.heap.size + 1 + 1, 3, none⟩ = some (.slice (some ⟨g, 0, none⟩) 1 c3)) ∧ (w'.cell? ⟨g, 0, none⟩ = some (.int .i64 y.f0) ∧ w'.cell? ⟨g, 1, none⟩ = some (.int .i64 y.f1) ∧ w'.cell? ⟨g, 2, none⟩ = some (.int .i64 y.f2) ∧ w'.cell? ⟨g, 3, none⟩ = some (.slice Ay y.f3.length cy))) [] (by kernel_rfl) ?_
            generalize wr.drew = wd at HD ⊢
            have HS : (fun w' => (w'.cell? ⟨w.heap.size + 1 + 1, 0, none⟩ = some (.int .i64 f0) ∧ w'.cell? ⟨w.heap.size + 1 + 1, 1, none⟩ = some (.int .i64 f1) ∧ w'.cell? ⟨w.heap.size + 1 + 1, 2, none⟩ = some (.int .i64 f2) ∧ w'.cell? ⟨w.heap.size + 1 + 1, 3, none⟩ = some (.slice (some ⟨g, 0, none⟩) 1 c3)) ∧ (w'.cell? ⟨g, 0, none⟩ = some (.int .i64 y.f0) ∧ w'.cell? ⟨g, 1, none⟩ = some (.int .i64 y.f1) ∧ w'.cell? ⟨g, 2, none⟩ = some (.int .i64 y.f2) ∧ w'.cell? ⟨g, 3, none⟩ = some (.slice Ay y.f3.length cy))) wd := F.out _ HD.out
            refine Za.takeL 0 (v := ?vc0) rfl (by kernel_rfl) (by kernel_rfl) (by kernel_rfl) (by kernel_rfl) (fun _ _ _ h => h) (Or.inl ⟨by rfl, ?hyc0⟩) HS ?restc0
            case hyc0 => (intro w hSw; (try dsimp only at hSw); go_simp; try with_reducible rfl)
            (try simp only [Act.put, List.setIfInBounds_toArray, List.set_cons_zero, List.set_cons_succ])
            refine Za.takeL 1 (v := ?vc1) rfl (by kernel_rfl) (by kernel_rfl) (by kernel_rfl) (by kernel_rfl) (fun _ _ _ h => h) (Or.inl ⟨by rfl, ?hyc1⟩) HS ?restc1
            case hyc1 => (intro w hSw; (try dsimp only at hSw); go_simp; try with_reducible rfl)
            (try simp only [Act.put, List.setIfInBounds_toArray, List.set_cons_zero, List.set_cons_succ])
            refine Za.takeL 2 (v := ?vc2) rfl (by kernel_rfl) (by kernel_rfl) (by kernel_rfl) (by kernel_rfl) (fun _ _ _ h => h) (Or.inl ⟨by rfl, ?hyc2⟩) HS ?restc2
            case hyc2 => (intro w hSw; (try dsimp only at hSw); go_simp; try with_reducible rfl)
            (try simp only [Act.put, List.setIfInBounds_toArray, List.set_cons_zero, List.set_cons_succ])
            refine Za.takeL 3 (v := ?vc3) rfl (by kernel_rfl) (by kernel_rfl) (by kernel_rfl) (by kernel_rfl) (fun _ _ _ h => h) (Or.inl ⟨by rfl, ?hyc3⟩) HS ?restc3
            case hyc3 => (intro w hSw; (try dsimp only at hSw); go_simp; try with_reducible rfl)
            (try simp only [Act.put, List.setIfInBounds_toArray, List.set_cons_zero, List.set_cons_succ])
            refine Za.takeL 4 (v := ?vc4) rfl (by kernel_rfl) (by kernel_rfl) (by kernel_rfl) (by kernel_rfl) (fun _ _ _ h => h) (Or.inl ⟨by rfl, ?hyc4⟩) HS ?restc4
            case hyc4 => (intro w hSw; (try dsimp only at hSw); go_simp; try with_reducible rfl)
            (try simp only [Act.put, List.setIfInBounds_toArray, List.set_cons_zero, List.set_cons_succ])
            refine Za.takeL 5 (v := ?vc5) rfl (by kernel_rfl) (by kernel_rfl) (by kernel_rfl) (by kernel_rfl) (fun _ _ _ h => h) (Or.inl ⟨by rfl, ?hyc5⟩) HS ?restc5
            case hyc5 => (intro w hSw; (try dsimp only at hSw); go_simp; try with_reducible rfl)
            (try simp only [Act.put, List.setIfInBounds_toArray, List.set_cons_zero, List.set_cons_succ])
            refine Za.takeL 6 (v := ?vc6) rfl (by kernel_rfl) (by kernel_rfl) (by kernel_rfl) (by kernel_rfl) (fun _ _ _ h => h) (Or.inl ⟨by rfl, ?hyc6⟩) HS ?restc6
            case hyc6 => (intro w hSw; (try dsimp only at hSw); go_simp; try with_reducible rfl)
            (try simp only [Act.put, List.setIfInBounds_toArray, List.set_cons_zero, List.set_cons_succ])
            refine Za.takeL 7 (v := ?vc7) rfl (by kernel_rfl) (by kernel_rfl) (by kernel_rfl) (by kernel_rfl) (fun _ _ _ h => h) (Or.inl ⟨by rfl, ?hyc7⟩) HS ?restc7
            case hyc7 => (intro w hSw; (try dsimp only at hSw); go_simp; try with_reducible rfl)
            (try simp only [Act.put, List.setIfInBounds_toArray, List.set_cons_zero, List.set_cons_succ])
            refine Za.takeL 8 (v := ?vc8) rfl (by kernel_rfl) (by kernel_rfl) (by kernel_rfl) (by kernel_rfl) (fun _ _ _ h => h) (Or.inl ⟨by rfl, ?hyc8⟩) HS ?restc8
            case hyc8 => (intro w hSw; (try dsimp only at hSw); go_simp; try with_reducible rfl)
            (try simp only [Act.put, List.setIfInBounds_toArray, List.set_cons_zero, List.set_cons_succ])
            refine Za.takeL 9 (v := ?vc9) rfl (by kernel_rfl) (by kernel_rfl) (by kernel_rfl) (by kernel_rfl) (fun _ _ _ h => h) (Or.inl ⟨by rfl, ?hyc9⟩) HS ?restc9
            case hyc9 => (intro w hSw; (try dsimp only at hSw); go_simp; try with_reducible rfl)
            (try simp only [Act.put, List.setIfInBounds_toArray, List.set_cons_zero, List.set_cons_succ])
            refine Za.takeL 10 (v := ?vc10) rfl (by kernel_rfl) (by kernel_rfl) (by kernel_rfl) (by kernel_rfl) (fun _ _ _ h => h) (Or.inl ⟨by rfl, ?hyc10⟩) HS ?restc10
            case hyc10 => (intro w hSw; (try dsimp only at hSw); go_simp; try with_reducible rfl)
            (try simp only [Act.put, List.setIfInBounds_toArray, List.set_cons_zero, List.set_cons_succ])
            refine Za.takeL 11 (v := ?vc11) rfl (by kernel_rfl) (by kernel_rfl) (by kernel_rfl) (by kernel_rfl) (fun _ _ _ h => h) (Or.inl ⟨by rfl, ?hyc11⟩) HS ?restc11
            case hyc11 => (intro w hSw; (try dsimp only at hSw); go_simp; try with_reducible rfl)
            (try simp only [Act.put, List.setIfInBounds_toArray, List.set_cons_zero, List.set_cons_succ])
            refine Za.takeL 12 (v := ?vc12) rfl (by kernel_rfl) (by kernel_rfl) (by kernel_rfl) (by kernel_rfl) (fun _ _ _ h => h) (Or.inl ⟨by rfl, ?hyc12⟩) HS ?restc12
            case hyc12 => (intro w hSw; (try dsimp only at hSw); go_simp; try with_reducible rfl)
            (try simp only [Act.put, List.setIfInBounds_toArray, List.set_cons_zero, List.set_cons_succ])
            refine Za.takeL 13 (v := ?vc13) rfl (by kernel_rfl) (by kernel_rfl) (by kernel_rfl) (by kernel_rfl) (fun _ _ _ h => h) (Or.inl ⟨by rfl, ?hyc13⟩) HS ?restc13
            case hyc13 => (intro w hSw; (try dsimp only at hSw); go_simp; try with_reducible rfl)
            (try simp only [Act.put, List.setIfInBounds_toArray, List.set_cons_zero, List.set_cons_succ])
            refine Za.takeL 14 (v := ?vc14) rfl (by kernel_rfl) (by kernel_rfl) (by kernel_rfl) (by kernel_rfl) (fun _ _ _ h => h) (Or.inl ⟨by rfl, ?hyc14⟩) HS ?restc14
            case hyc14 => (intro w hSw; (try dsimp only at hSw); go_simp; try with_reducible rfl)
            (try simp only [Act.put, List.setIfInBounds_toArray, List.set_cons_zero, List.set_cons_succ])
            refine Za.takeL 15 (v := ?vc15) rfl (by kernel_rfl) (by kernel_rfl) (by kernel_rfl) (by kernel_rfl) (fun _ _ _ h => h) (Or.inl ⟨by rfl, ?hyc15⟩) HS ?restc15
            case hyc15 => (intro w hSw; (try dsimp only at hSw); go_simp; try with_reducible rfl)
            (try simp only [Act.put, List.setIfInBounds_toArray, List.set_cons_zero, List.set_cons_succ])
            refine Za.takeL 16 (v := ?vc16) rfl (by kernel_rfl) (by kernel_rfl) (by kernel_rfl) (by kernel_rfl) (fun _ _ _ h => h) (Or.inl ⟨by rfl, ?hyc16⟩) HS ?restc16
            case hyc16 => (intro w hSw; (try dsimp only at hSw); go_simp; try with_reducible rfl)
            (try simp only [Act.put, List.setIfInBounds_toArray, List.set_cons_zero, List.set_cons_succ])
            clear HS
            refine Za.Walk.done (by kernel_rfl) ?_
            have g1' := blk_below BG1.out HD.out
            have g2' := blk_below BG2.out HD.out
            have r0 := (blk_cell g2' 0).trans rfl
            have r1 := (blk_cell g2' 1).trans rfl
            have r2 := (blk_cell g2' 2).trans rfl
            have r3 := (blk_cell g2' 3).trans rfl
            have s0 := (blk_cell g1' 0).trans rfl
            have s1 := (blk_cell g1' 1).trans rfl
            have s2 := (blk_cell g1' 2).trans rfl
            have s3 := (blk_cell g1' 3).trans rfl
            have t0 := blk_frozen g1' 0
            have t1 := blk_frozen g1' 1
            have t2 := blk_frozen g1' 2
            have t3 := blk_frozen g1' 3
            go_wp2
            refine bodyPost_ret (results_cell_row rfl _ _ (w.heap.size + 1) 29 #[.int .i64 f0, .int .i64 f1, .int .i64 f2, .slice (some ⟨g, 0, none⟩) 1 c3] (0, 0) _ rfl (set4_blk _ _ _ _ g1') Tryd.underlying29 rfl (by kernel_rfl)) rfl ?_
            rw [← HLE.out, HT.out]
            have hfin := fin_out (x := .mk f0 f1 f2 LL) (below_then HB4.out HB4.out.size HD.out) (Kd.R_below HR4.out HD.out) (by omega)
            rw [HL1.out] at hfin
            exact hfin
        · have d7 : (y.f0 == 7) = false := by simp [hy]
          have HT := Aside0.mk (HTOPN.out H2.out (fun h => hy h.2.1))
          clear hy
          refine Za.regionL (fun w' => (w'.cell? ⟨w.heap.size + 1 + 1, 0, none⟩ = some (.int .i64 f0) ∧ w'.cell? ⟨w.heap.size + 1 + 1, 1, none⟩ = some (.int .i64 f1) ∧ w'.cell? ⟨w.heap.size + 1 + 1, 2, none⟩ = some (.int .i64 f2) ∧ w'.cell? ⟨w.heap.size + 1 + 1, 3, none⟩ = some (.slice (some ⟨g, 0, none⟩) 1 c3)) ∧ (w'.cell? ⟨g, 0, none⟩ = some (.int .i64 y.f0) ∧ w'.cell? ⟨g, 1, none⟩ = some (.int .i64 y.f1) ∧ w'.cell? ⟨g, 2, none⟩ = some (.int .i64 y.f2) ∧ w'.cell? ⟨g, 3, none⟩ = some (.slice Ay y.f3.length cy))) [] (by kernel_rfl) ?_
          generalize wr.drew = wd at HD ⊢
          have HS : (fun w' => (w'.cell? ⟨w.heap.size + 1 + 1, 0, none⟩ = some (.int .i64 f0) ∧ w'.cell? ⟨w.heap.size + 1 + 1, 1, none⟩ = some (.int .i64 f1) ∧ w'.cell? ⟨w.heap.size + 1 + 1, 2, none⟩ = some (.int .i64 f2) ∧ w'.cell? ⟨w.heap.size + 1 + 1, 3, none⟩ = some (.slice (some ⟨g, 0, none⟩) 1 c3)) ∧ (w'.cell? ⟨g, 0, none⟩ = some (.int .i64 y.f0) ∧ w'.cell? ⟨g, 1, none⟩ = some (.int .i64 y.f1) ∧ w'.cell? ⟨g, 2, none⟩ = some (.int .i64 y.f2) ∧ w'.cell? ⟨g, 3, none⟩ = some (.slice Ay y.f3.length cy))) wd := F.out _ HD.out
          refine Za.takeL 0 (v := ?vd0) rfl (by kernel_rfl) (by kernel_rfl) (by kernel_rfl) (by kernel_rfl) (fun _ _ _ h => h) (Or.inl ⟨by rfl, ?hyd0⟩) HS ?restd0
          case hyd0 => (intro w hSw; (try dsimp only at hSw); go_simp; try with_reducible rfl)
          (try simp only [Act.put, List.setIfInBounds_toArray, List.set_cons_zero, List.set_cons_succ])
          refine Za.takeL 1 (v := ?vd1) rfl (by kernel_rfl) (by kernel_rfl) (by kernel_rfl) (by kernel_rfl) (fun _ _ _ h => h) (Or.inl ⟨by rfl, ?hyd1⟩) HS ?restd1
          case hyd1 => (intro w hSw; (try dsimp only at hSw); go_simp; try with_reducible rfl)
          (try simp only [Act.put, List.setIfInBounds_toArray, List.set_cons_zero, List.set_cons_succ])
          refine Za.takeL 2 (v := ?vd2) rfl (by kernel_rfl) (by kernel_rfl) (by kernel_rfl) (by kernel_rfl) (fun _ _ _ h => h) (Or.inl ⟨by rfl, ?hyd2⟩) HS ?restd2
          case hyd2 => (intro w hSw; (try dsimp only at hSw); go_simp; try with_reducible rfl)
          (try simp only [Act.put, List.setIfInBounds_toArray, List.set_cons_zero, List.set_cons_succ])
          refine Za.takeL 3 (v := ?vd3) rfl (by kernel_rfl) (by kernel_rfl) (by kernel_rfl) (by kernel_rfl) (fun _ _ _ h => h) (Or.inl ⟨by rfl, ?hyd3⟩) HS ?restd3
          case hyd3 => (intro w hSw; (try dsimp only at hSw); go_simp; try with_reducible rfl)
          (try simp only [Act.put, List.setIfInBounds_toArray, List.set_cons_zero, List.set_cons_succ])
          refine Za.takeL 4 (v := ?vd4) rfl (by kernel_rfl) (by kernel_rfl) (by kernel_rfl) (by kernel_rfl) (fun _ _ _ h => h) (Or.inl ⟨by rfl, ?hyd4⟩) HS ?restd4
          case hyd4 => (intro w hSw; (try dsimp only at hSw); go_simp; try with_reducible rfl)
          (try simp only [Act.put, List.setIfInBounds_toArray, List.set_cons_zero, List.set_cons_succ])
          refine Za.takeL 5 (v := ?vd5) rfl (by kernel_rfl) (by kernel_rfl) (by kernel_rfl) (by kernel_rfl) (fun _ _ _ h => h) (Or.inl ⟨by rfl, ?hyd5⟩) HS ?restd5
          case hyd5 => (intro w hSw; (try dsimp only at hSw); go_simp; try with_reducible rfl)
          (try simp only [Act.put, List.setIfInBounds_toArray, List.set_cons_zero, List.set_cons_succ])
          refine Za.takeL 6 (v := ?vd6) rfl (by kernel_rfl) (by kernel_rfl) (by kernel_rfl) (by kernel_rfl) (fun _ _ _ h => h) (Or.inl ⟨by rfl, ?hyd6⟩) HS ?restd6
          case hyd6 => (intro w hSw; (try dsimp only at hSw); go_simp; try with_reducible rfl)
          (try simp only [Act.put, List.setIfInBounds_toArray, List.set_cons_zero, List.set_cons_succ])
          refine Za.takeL 7 (v := undef) rfl (by kernel_rfl) (by kernel_rfl) (by kernel_rfl) (by kernel_rfl) (fun _ _ _ h => h) (Or.inr ⟨by rfl, rfl⟩) HS ?restd7
          (try simp only [Act.put, List.setIfInBounds_toArray, List.set_cons_zero, List.set_cons_succ])
          refine Za.takeL 8 (v := undef) rfl (by kernel_rfl) (by kernel_rfl) (by kernel_rfl) (by kernel_rfl) (fun _ _ _ h => h) (Or.inr ⟨by rfl, rfl⟩) HS ?restd8
          (try simp only [Act.put, List.setIfInBounds_toArray, List.set_cons_zero, List.set_cons_succ])
          refine Za.takeL 9 (v := undef) rfl (by kernel_rfl) (by kernel_rfl) (by kernel_rfl) (by kernel_rfl) (fun _ _ _ h => h) (Or.inr ⟨by rfl, rfl⟩) HS ?restd9
          (try simp only [Act.put, List.setIfInBounds_toArray, List.set_cons_zero, List.set_cons_succ])
          refine Za.takeL 10 (v := undef) rfl (by kernel_rfl) (by kernel_rfl) (by kernel_rfl) (by kernel_rfl) (fun _ _ _ h => h) (Or.inr ⟨by rfl, rfl⟩) HS ?restd10
          (try simp only [Act.put, List.setIfInBounds_toArray, List.set_cons_zero, List.set_cons_succ])
          refine Za.takeL 11 (v := undef) rfl (by kernel_rfl) (by kernel_rfl) (by kernel_rfl) (by kernel_rfl) (fun _ _ _ h => h) (Or.inr ⟨by rfl, rfl⟩) HS ?restd11
          (try simp only [Act.put, List.setIfInBounds_toArray, List.set_cons_zero, List.set_cons_succ])
          refine Za.takeL 12 (v := undef) rfl (by kernel_rfl) (by kernel_rfl) (by kernel_rfl) (by kernel_rfl) (fun _ _ _ h => h) (Or.inr ⟨by rfl, rfl⟩) HS ?restd12
          (try simp only [Act.put, List.setIfInBounds_toArray, List.set_cons_zero, List.set_cons_succ])
          refine Za.takeL 13 (v := undef) rfl (by kernel_rfl) (by kernel_rfl) (by kernel_rfl) (by kernel_rfl) (fun _ _ _ h => h) (Or.inr ⟨by rfl, rfl⟩) HS ?restd13
          (try simp only [Act.put, List.setIfInBounds_toArray, List.set_cons_zero, List.set_cons_succ])
          refine Za.takeL 14 (v := undef) rfl (by kernel_rfl) (by kernel_rfl) (by kernel_rfl) (by kernel_rfl) (fun _ _ _ h => h) (Or.inr ⟨by rfl, rfl⟩) HS ?restd14
          (try simp only [Act.put, List.setIfInBounds_toArray, List.set_cons_zero, List.set_cons_succ])
          refine Za.takeL 15 (v := undef) rfl (by kernel_rfl) (by kernel_rfl) (by kernel_rfl) (by kernel_rfl) (fun _ _ _ h => h) (Or.inr ⟨by rfl, rfl⟩) HS ?restd15
          (try simp only [Act.put, List.setIfInBounds_toArray, List.set_cons_zero, List.set_cons_succ])
          refine Za.takeL 16 (v := ?vd16) rfl (by kernel_rfl) (by kernel_rfl) (by kernel_rfl) (by kernel_rfl) (fun _ _ _ h => h) (Or.inl ⟨by rfl, ?hyd16⟩) HS ?restd16
          case hyd16 => (intro w hSw; (try dsimp only at hSw); go_simp; try with_reducible rfl)
          (try simp only [Act.put, List.setIfInBounds_toArray, List.set_cons_zero, List.set_cons_succ])
          clear HS
          refine Za.Walk.done (by kernel_rfl) ?_
          have g1' := blk_below BG1.out HD.out
          have g2' := blk_below BG2.out HD.out
          have r0 := (blk_cell g2' 0).trans rfl
          have r1 := (blk_cell g2' 1).trans rfl
          have r2 := (blk_cell g2' 2).trans rfl
          have r3 := (blk_cell g2' 3).trans rfl
          have s0 := (blk_cell g1' 0).trans rfl
          have s1 := (blk_cell g1' 1).trans rfl
          have s2 := (blk_cell g1' 2).trans rfl
          have s3 := (blk_cell g1' 3).trans rfl
          have t0 := blk_frozen g1' 0
          have t1 := blk_frozen g1' 1
          have t2 := blk_frozen g1' 2
          have t3 := blk_frozen g1' 3
          go_wp2
          refine bodyPost_ret (results_cell_row rfl _ _ (w.heap.size + 1) 29 #[.int .i64 f0, .int .i64 f1, .int .i64 f2, .slice (some ⟨g, 0, none⟩) 1 c3] (0, 0) _ rfl (set4_blk _ _ _ _ g1') Tryd.underlying29 rfl (by kernel_rfl)) rfl ?_
          rw [← HLE.out, HT.out]
          have hfin := fin_out (x := .mk f0 f1 f2 LL) (below_then HB4.out HB4.out.size HD.out) (Kd.R_below HR4.out HD.out) (by omega)
          rw [HL1.out] at hfin
          exact hfin
      · have e7 : (f0 == 7) = false := by simp [h7]
        have HT := Aside0.mk (HTOPN.out h2 (fun h => h7 h.1))
        clear h2 h7 HTOP2 HTOP7 HTOPN
        have s0 := (blk_cell g1' 0).trans rfl
        have s1 := (blk_cell g1' 1).trans rfl
        have s2 := (blk_cell g1' 2).trans rfl
        have s3 := (blk_cell g1' 3).trans rfl
        have t0 := blk_frozen g1' 0
        have t1 := blk_frozen g1' 1
        have t2 := blk_frozen g1' 2
        have t3 := blk_frozen g1' 3
        go_wp2
        refine bodyPost_ret (results_cell_row rfl _ _ (w.heap.size + 1) 29 #[.int .i64 f0, .int .i64 f1, .int .i64 f2, .slice A3 LL.length c3] (0, 0) _ rfl (set4_blk _ _ _ _ g1') Tryd.underlying29 rfl (by kernel_rfl)) rfl ?_
        rw [← HLE.out, HT.out]
        exact fin_out (x := .mk f0 f1 f2 LL) HB4.out HR4.out (by omega)
end Go.Proofs.YtbbdkhffacoglaaDoor.Nu
