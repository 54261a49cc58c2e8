
/- An expression made shorter: the program's. -/
import Derived.Test.YtbbdkhffacoglaaDoorNu
import Derived.Test.YtbbdkhffacoglaaDoorNl
set_option linter.unusedVariables false
set_option linter.unusedSimpArgs false
namespace Go.Proofs.YtbbdkhffacoglaaDoor.Nv
open Go.RowKit Go.Proofs.YtbbdkhffacoglaaDoorW.PrintWords Go.Proofs.YtbbdkhffacoglaaDoor.Ja Go.Proofs.YtbbdkhffacoglaaDoor.Jb Go.Proofs.YtbbdkhffacoglaaDoor.Jc Go.Proofs.YtbbdkhffacoglaaDoor.Jd Go.Proofs.YtbbdkhffacoglaaDoor.Jg Go.Proofs.YtbbdkhffacoglaaDoor.Jh Go.Proofs.YtbbdkhffacoglaaDoor.Ji Go.Proofs.YtbbdkhffacoglaaDoor.Jk Go.Proofs.YtbbdkhffacoglaaDoor.Ka Go.Proofs.YtbbdkhffacoglaaDoor.Kf Go.Proofs.YtbbdkhffacoglaaDoor.Na Go.Proofs.YtbbdkhffacoglaaDoor.Nb Go.Proofs.YtbbdkhffacoglaaDoor.Nc Go.Proofs.YtbbdkhffacoglaaDoor.Nd Go.Proofs.YtbbdkhffacoglaaDoor.Nf Go.Proofs.YtbbdkhffacoglaaDoor.Nh Go.Proofs.YtbbdkhffacoglaaDoor.Ni Go.Proofs.YtbbdkhffacoglaaDoor.Nj Go.Proofs.YtbbdkhffacoglaaDoor.Nl Go.Proofs.YtbbdkhffacoglaaDoor.Nn Go.Proofs.YtbbdkhffacoglaaDoor.Ns Go.Proofs.YtbbdkhffacoglaaDoor.Nt Go.Proofs.YtbbdkhffacoglaaDoor.Nu

theorem l11Slim_any (x : Ex) (hf : formB x = true) (hc : cntL x.f3 ≤ 1000) : SlimCall x := fun A c w hL => by
  obtain ⟨p, pl⟩ := form_head hf
  rw [slR_eq]
  exact l11Slim_of x.f0 x.f1 x.f2 A c x.f3 w (form_mk (by rw [slRL_length]; exact p) (by rw [← slL_same _ pl]; exact slL_form _ pl)) (by rw [← slL_same _ pl]; exact Nat.le_trans (slL_tot _ pl) hc) (by have := len_le_cnt x.f3; omega) hL (fun y hy =>
    have := cnt_mem hy
    l11Slim_any y (by rw [formL_all, List.all_eq_true] at pl; exact pl y hy) (by omega))
termination_by cntL x.f3
abbrev SlimCallI (x : Ex) : Prop := ∀ A c w, Words w → IsEL 29 w x.f3 A c → Calls Tryd.prog 39 #[X x.f0 x.f1 x.f2 A x.f3.length c] w fun e w' => ToOutR w' w.heap.size (slX x) e ∧ Below w.heap.size w w'
set_option maxHeartbeats 8000000 in
set_option maxRecDepth 100000 in
theorem slim_of (f0 f1 f2 : Int) (A : Option Addr) (c : Nat) (l : List Ex) (w : World) (hf : formB (.mk f0 f1 f2 (slL l)) = true) (hcn : cntL (slL l) ≤ 1000) (hl : l.length ≤ 1048576) (hWd : Words w) (hL : IsEL 29 w l A c) (hE : ∀ x, x ∈ l → SlimCallI x) :
    Calls Tryd.prog 39 #[X f0 f1 f2 A l.length c] w fun e w' => ToOutR w' w.heap.size (top chX (.mk f0 f1 f2 (slL l))) e ∧ Below w.heap.size w w' := by
  obtain ⟨hb0, b0, b1⟩ := boxes2 w #[.int .i64 f0, .int .i64 f1, .int .i64 f2, .slice A l.length c] #[.int .i64 0, .int .i64 0, .int .i64 0, .slice none 0 0] 29 29
  have HL := Aside0.mk (hL.below hb0)
  have HWD := Aside0.mk hWd
  have HF0 := Aside0.mk hf
  have HCN := Aside0.mk hcn
  have hsz : ((w.alloc (.cells #[.int .i64 f0, .int .i64 f1, .int .i64 f2, .slice A l.length c] 29)).alloc (.cells #[.int .i64 0, .int .i64 0, .int .i64 0, .slice none 0 0] 29)).heap.size = w.heap.size + 1 + 1 := by simp
  have HE := Aside0.mk hE
  clear hL hE hWd hf hcn
  go_enter Tryd.func39, Tryd.ntmps39
  go_upto_region 1 with fail
  generalize (w.alloc (.cells #[.int .i64 f0, .int .i64 f1, .int .i64 f2, .slice A l.length c] 29)).alloc (.cells #[.int .i64 0, .int .i64 0, .int .i64 0, .slice none 0 0] 29) = W at hb0 b0 b1 HL hsz ⊢
  have p3 := (blk_cell b0 3).trans rfl
  have HB0 := Aside0.mk hb0
  have BB0 := Aside0.mk b0
  have BB1 := Aside0.mk b1
  have HSZ := Aside0.mk hsz
  clear hb0 b0 b1 hsz
  go_wp2
  go_loopw [3, 12] (fun vl' vi wr => ∃ (k : Nat) (vl : Value), k ≤ l.length ∧ vi = .int .i64 k ∧ vl = vl' ∧ Aside0 (RE wr W.heap.size (fun _ => True) vl (slL (l.take k))) ∧ Aside0 (Below W.heap.size W wr)) (fun _ vi _ => l.length - (intOf vi).toNat)
  case atStart => exact ⟨0, _, by omega, rfl, rfl, ⟨by simpa [slL] using Kd.R_nil (kR 29) 29 W W.heap.size (fun _ => True)⟩, ⟨Below.refl _ _⟩⟩
  case round =>
    clear p3
    obtain ⟨k, vl, hk, rfl, rfl, HS, HB⟩ := hrel
    by_cases hlt : k < l.length
    · obtain ⟨ad, A2, c3, rfl, ha, hb, hc, hd, hIs⟩ := atE (HL.out.below HB.out) k hlt
      have hT := slL_snoc l k hlt
      have HQ := Aside0.mk (HE.out _ (getE_mem hlt))
      have htl : (slL (l.take k)).length = k := by rw [slL_length, List.length_take]; omega
      generalize l.getD k zE = o at ha hb hc hd hIs hT HQ
      have HIS := Aside0.mk hIs
      have HT := Aside0.mk hT
      have i1 : (k : Int) < l.length := by omega
      have g1 : decide (k < l.length) = true := decide_eq_true hlt
      clear hT hIs
      have hown : ∀ j, vl.ownBlock = some j → j < wr.heap.size := Kd.R_lt HS.out
      go_wp2_with (first
        | (go_at_call 39; refine (HQ.out A2 c3 _ (HWD.out.below (below_then HB0.out HB0.out.size (below_then HB.out HB.out.size (box4 _ _ _ _ _ _).1))) (HIS.out.below (box4 _ _ _ _ _ _).1)).mono ?_; rintro e w2 ⟨⟨v2, rfl, hr2⟩, hb2⟩; have HR2 := Aside0.mk hr2; have HB2 := Aside0.mk (below_then (box4 _ _ _ _ _ _).1 (box4 _ _ _ _ _ _).1.size hb2); clear hr2 hb2)
        | ((with_reducible refine gate_dst (N := 20) rfl ?_); refine Kd.R_append (kR 29) (w0 := W) W.heap.size rfl _ _ 26 29 (.agg #[.int .i64 0, .int .i64 0, .int .i64 0, .slice none 0 0]) 48 rfl Tryd.underlying26 infoR rfl (by decide) (by decide) vl (slL (l.take k)) (slX o) [.int .i64 (slX o).f0, .int .i64 (slX o).f1, .int .i64 (slX o).f2, v2] (fun _ => True) (fun j => wr.heap.size ≤ j) rfl rfl (kR_mkM (slX o) (Kd.R_lower (Kd.R_mono (Kd.R_bound HR2.out) (fun j hj => by have h1 := hj.2.1; simp at h1; omega)) (Nat.le_trans HB.out.size (box4 _ _ _ _ _ _).1.size))) (fun j hj => ⟨trivial, fun h => by have := hown j h.symm; omega⟩) (fun _ _ => trivial) (Kd.R_below HS.out HB2.out) (below_then HB.out HB.out.size HB2.out) (Nat.le_trans HB.out.size HB2.out.size) (by rw [htl]; omega) ?_; intro v3 w3 hs3 hb3 _ _; have HS3 := Aside0.mk hs3; have HB3 := Aside0.mk hb3; clear hs3 hb3))
      go_roundw
      case rel => exact ⟨k + 1, _, by omega, by go_num, rfl, ⟨by rw [HT.out]; exact HS3.out⟩, HB3⟩
      case measure => simp [intOf]; omega
    · have hke : k = l.length := by omega
      subst hke
      have g1 : decide (l.length < l.length) = false := decide_eq_false (by omega)
      have hS := HS.out
      rw [List.take_length] at hS
      have hll := slL_length l
      obtain ⟨LL, hLL⟩ : ∃ LL, LL = slL l := ⟨_, rfl⟩
      rw [← hLL] at hS HF0 HCN hll
      have HLE := Aside0.mk hLL
      have HLL := Aside0.mk hll
      clear hLL
      obtain ⟨A3, c3, rfl⟩ := Kd.R_slice hS
      have y1 := blk_below BB0.out HB.out
      have y2 := blk_below BB1.out HB.out
      have HB3 := Aside0.mk (below_then HB0.out HB0.out.size HB.out)
      have HR3 := Aside0.mk hS
      have z2 := blk_frozen y1 3
      have q2 := (blk_cell y1 3).trans rfl
      clear hS HS hll
      rw [HSZ.out] at HR3
      go_upto_region 8 with fail
      have g2' : (wr.setCell ⟨w.heap.size, 3, none⟩ (.slice A3 LL.length c3)).heap[w.heap.size]? = some (.cells #[.int .i64 f0, .int .i64 f1, .int .i64 f2, .slice A3 LL.length c3] 29 (0, 0)) := blk_put y1 3 _ rfl
      have g1' := blk_far y2 (p := ⟨w.heap.size, 3, none⟩) (by simp) (.slice A3 LL.length c3)
      have HB4 := Aside0.mk (HB3.out.setCell (p := ⟨w.heap.size, 3, none⟩) (by simp) (.slice A3 LL.length c3))
      have HR4 : Aside0 (RE (wr.setCell ⟨w.heap.size, 3, none⟩ (.slice A3 LL.length c3)) (w.heap.size + 1 + 1) (fun _ => True) (.slice A3 LL.length c3) LL) := ⟨Kd.R_mono (Kd.R_far (p := ⟨w.heap.size, 3, none⟩) (Kd.R_mono (Kd.R_bound HR3.out) (ok' := fun j => w.heap.size < j) (fun j hj => by have := hj.2.1; omega)) (fun k hk => Nat.ne_of_gt hk) (.slice A3 LL.length c3)) (fun _ _ => trivial)⟩
      have HS4 : Aside0 (w.heap.size + 1 + 1 ≤ (wr.setCell ⟨w.heap.size, 3, none⟩ (.slice A3 LL.length c3)).heap.size) := ⟨by have h1 := HB.out.size; rw [HSZ.out] at h1; simp [World.setCell]; omega⟩
      have BG1 := Aside0.mk g1'
      have BG2 := Aside0.mk g2'
      clear y1 y2 z2 q2 g1' g2' HB HB3 HR3
      generalize wr.setCell ⟨w.heap.size, 3, none⟩ (.slice A3 LL.length c3) = W4 at HB4 HR4 HS4 BG1 BG2 ⊢
      clear wr
      have hr0 := BG2.out
      have r0 := (blk_cell hr0 0).trans rfl
      have r1 := (blk_cell hr0 1).trans rfl
      have r2 := (blk_cell hr0 2).trans rfl
      have r3 := (blk_cell hr0 3).trans rfl
      clear hr0
      have HTOP2 : Aside0 (f0 = 2 → top chX (.mk f0 f1 f2 LL) = chain (chX (.mk f0 f1 f2 LL))) := ⟨fun h => by unfold top; rw [if_pos (show (Ex.mk f0 f1 f2 LL).f0 = 2 from h)]⟩
      have HTOP7 : Aside0 (¬ f0 = 2 → (f0 = 7 ∧ (LL.getD 0 zE).f0 = 7 ∧ f2 + (LL.getD 0 zE).f2 ≤ 20) → top chX (.mk f0 f1 f2 LL) = .mk 7 0 (f2 + (LL.getD 0 zE).f2) (LL.getD 0 zE).f3) := ⟨fun h h7 => by unfold top; rw [if_neg (show ¬ (Ex.mk f0 f1 f2 LL).f0 = 2 from h), if_pos (show (Ex.mk f0 f1 f2 LL).f0 = 7 ∧ ((Ex.mk f0 f1 f2 LL).f3.getD 0 zE).f0 = 7 ∧ (Ex.mk f0 f1 f2 LL).f2 + ((Ex.mk f0 f1 f2 LL).f3.getD 0 zE).f2 ≤ 20 from h7)]; rfl⟩
      have HTOPN : Aside0 (¬ f0 = 2 → ¬ (f0 = 7 ∧ (LL.getD 0 zE).f0 = 7 ∧ f2 + (LL.getD 0 zE).f2 ≤ 20) → top chX (.mk f0 f1 f2 LL) = .mk f0 f1 f2 LL) := ⟨fun h h7 => by unfold top; rw [if_neg (show ¬ (Ex.mk f0 f1 f2 LL).f0 = 2 from h), if_neg (show ¬ ((Ex.mk f0 f1 f2 LL).f0 = 7 ∧ ((Ex.mk f0 f1 f2 LL).f3.getD 0 zE).f0 = 7 ∧ (Ex.mk f0 f1 f2 LL).f2 + ((Ex.mk f0 f1 f2 LL).f3.getD 0 zE).f2 ≤ 20) from h7)]⟩
      by_cases h2 : f0 = 2
      · have e2 : (f0 == 2) = true := by simp [h2]
        have HT := Aside0.mk (HTOP2.out h2)
        have HOR : Aside0 (Calls Tryd.prog 36 #[X f0 f1 f2 A3 LL.length c3] W4 fun e w' => ChOut (wqO W4 (w.heap.size + 1 + 1)) W4 w' (chX (.mk f0 f1 f2 LL)) e) :=
          ⟨choices_any (.mk f0 f1 f2 LL) HF0.out HCN.out (wqO W4 (w.heap.size + 1 + 1)) A3 c3 W4 (Below.refl _ _) (HWD.out.below HB4.out) (R_isEL HR4.out).2 (kR_mkM (.mk f0 f1 f2 LL) HR4.out)⟩
        have HPOS : Aside0 (1 ≤ (chX (.mk f0 f1 f2 LL)).length ∧ (chX (.mk f0 f1 f2 LL)).length ≤ 1048576) := ⟨by
          have h1 := ch_pos _ HF0.out
          have h3 := ch_le _ HF0.out
          have h4 : tot (.mk f0 f1 f2 LL) = 1 + cntL LL := rfl
          have h5 := HCN.out
          omega⟩
        clear h2 HTOP2 HTOP7 HTOPN g1
        go_upto_region 9 with fail
        clear r0 r1 r2 r3 e2
        have hr0 := BG2.out
        have r0 := (blk_cell hr0 0).trans rfl
        have r1 := (blk_cell hr0 1).trans rfl
        have r2 := (blk_cell hr0 2).trans rfl
        have r3 := (blk_cell hr0 3).trans rfl
        clear hr0
        generalize chX (.mk f0 f1 f2 LL) = C at HOR HPOS HT
        go_upto_region 10 with (go_at_call 36; refine HOR.out.mono ?_; rintro e w5 ⟨v5, rfl, hr5, hb5⟩; have HR5 := Aside0.mk hr5; have HB5 := Aside0.mk hb5; clear hr5 hb5)
        clear r0 r1 r2 r3
        obtain ⟨g, cap, rfl, hgb, hgl, -⟩ := Kd.R_form HR5.out HPOS.out.1
        obtain ⟨m, hm⟩ : ∃ m, C.length = m + 1 := ⟨C.length - 1, by have := HPOS.out.1; omega⟩
        have hmb : m ≤ 1048576 := by have := HPOS.out.2; omega
        have HCH := Aside0.mk (chain_last hm)
        have HEM : Aside0 (∀ wr k A2 c2, Below w5.heap.size w5 wr → (kC (wqO W4 (w.heap.size + 1 + 1))).K (wqO W4 (w.heap.size + 1 + 1)) (C.getD k zE) [.int .i64 (C.getD k zE).f0, .int .i64 (C.getD k zE).f1, .int .i64 (C.getD k zE).f2, .slice A2 (C.getD k zE).f3.length c2] → (kR 29).M wr (w.heap.size + 1 + 1) (fun j => j ≠ w5.heap.size ∧ j ≠ w.heap.size + 1) (C.getD k zE) [.int .i64 (C.getD k zE).f0, .int .i64 (C.getD k zE).f1, .int .i64 (C.getD k zE).f2, .slice A2 (C.getD k zE).f3.length c2]) := ⟨fun wr k A2 c2 hw h => by
          have h2 : (kR 29).M W4 (w.heap.size + 1 + 1) (fun _ => True) (C.getD k zE) _ := h.2
          have h3 := Kd.M_below ((kR 29).M_bound h2) (below_then HB5.out HB5.out.size hw)
          refine (kR 29).M_mono (fun j hj => ?_) h3
          have h4 := hj.2.2.1
          have h5 := hj.2.1
          have h6 := HB5.out.size
          exact ⟨by omega, by omega⟩⟩
        obtain ⟨A2, c2, ha, hb', hc, hd, -, hK⟩ := elemC HR5.out HB5.out m (by omega)
        have HM0 := Aside0.mk (ChMem.first (w0 := w5) (B := w.heap.size + 1 + 1) (G2 := w.heap.size + 1) (Nat.le_trans HS4.out HB5.out.size) ((kR 29).M_mono (fun j hj => hj.2) (HEM.out w5 m A2 c2 (Below.refl _ _) hK)))
        rw [← HCH.out] at HM0 ha hb' hc hd
        have i1 : (C.length : Int) - 1 = m := by omega
        have i2 : (m : Int) < C.length := by omega
        clear hK
        rw [hm] at i1 i2 ⊢
        go_upto_region 11 with fail
        go_upto_region 12 with fail
        clear ha hb' hc hd i1 i2
        have HH0 := Aside0.mk (show w5.heap.size < (w5.alloc (.cells #[.int .i64 (chain (C.drop m)).f0, .int .i64 (chain (C.drop m)).f1, .int .i64 (chain (C.drop m)).f2, .slice A2 (chain (C.drop m)).f3.length c2] 29)).heap.size by simp)
        generalize w5.alloc (.cells #[.int .i64 (chain (C.drop m)).f0, .int .i64 (chain (C.drop m)).f1, .int .i64 (chain (C.drop m)).f2, .slice A2 (chain (C.drop m)).f3.length c2] 29) = W2 at HM0 HH0 ⊢
        obtain ⟨G, hG⟩ : ∃ G, G = w5.heap.size := ⟨_, rfl⟩
        rw [← hG] at HM0 HH0 ⊢
        have HGE := Aside0.mk hG
        clear hG
        go_loopw [8] (fun vi wr => ∃ (k : Nat) (i : Int) (u : Value), k ≤ m ∧ vi = .int .i64 i ∧ i = (k : Int) - 1 ∧ Aside0 (ChMem w5 wr (w.heap.size + 1 + 1) G (w.heap.size + 1) (chain (C.drop k)) u) ∧ Aside0 (G < wr.heap.size)) (fun vi _ => (intOf vi + 1).toNat)
        case atStart => exact ⟨m, _, _, Nat.le_refl _, rfl, by omega, HM0, HH0⟩
        case round =>
          clear HM0 HH0
          obtain ⟨k, i, u, hk, rfl, hi, HM, HH⟩ := hrel
          have HG2L : Aside0 (w.heap.size + 1 < wr.heap.size) := ⟨by have h1 := HH.out; have h2 := HGE.out; have h3 := HS4.out; have h4 := HB5.out.size; omega⟩
          have HGL2 := HH
          rcases k with _ | k
          · have g1 : decide (i ≥ 0) = false := decide_eq_false (by omega)
            have hy0 : chain (C.drop 0) = chain C := rfl
            rw [hy0] at HM
            obtain ⟨U, cu, rfl⟩ := Kd.R_slice HM.out.row
            have HI := Aside0.mk hi
            clear hi hy0
            have g2' := HM.out.box
            have g1' := blk_below (blk_below BG1.out HB5.out) HM.out.bel
            have r0 := (blk_cell g2' 0).trans rfl
            have r1 := (blk_cell g2' 1).trans rfl
            have r2 := (blk_cell g2' 2).trans rfl
            have r3 := (blk_cell g2' 3).trans rfl
            have s0 := (blk_cell g1' 0).trans rfl
            have s1 := (blk_cell g1' 1).trans rfl
            have s2 := (blk_cell g1' 2).trans rfl
            have s3 := (blk_cell g1' 3).trans rfl
            have t0 := blk_frozen g1' 0
            have t1 := blk_frozen g1' 1
            have t2 := blk_frozen g1' 2
            have t3 := blk_frozen g1' 3
            go_wp2
            refine bodyPost_ret (results_cell_row rfl _ _ (w.heap.size + 1) 29 #[.int .i64 (chain C).f0, .int .i64 (chain C).f1, .int .i64 (chain C).f2, .slice U (chain C).f3.length cu] (0, 0) _ rfl (set4_blk _ _ _ _ g1') Tryd.underlying29 rfl (by kernel_rfl)) rfl ?_
            rw [← HLE.out, HT.out]
            exact fin_out (below_then HB4.out HB4.out.size (below_then HB5.out HB5.out.size HM.out.bel)) (Kd.R_mono HM.out.row (fun _ _ => trivial)) (by omega)
          · obtain rfl : i = (k : Int) := by omega
            have g1 : decide ((k : Int) ≥ 0) = true := decide_eq_true (by omega)
            have i2 : (k : Int) < m + 1 := by omega
            obtain ⟨A2, c2, ha, hb, hc, hd, -, hK⟩ := elemC (Kd.R_below HR5.out HM.out.bel) (below_then HB5.out HB5.out.size HM.out.bel) k (by omega)
            have hXM := HEM.out wr k A2 c2 HM.out.bel hK
            rw [← HGE.out] at hXM
            have HXM := Aside0.mk hXM
            have HCC := Aside0.mk (chain_cons (L := C) (k := k) (by omega))
            generalize chain (C.drop (k + 1)) = y at HM HCC
            obtain ⟨U, cu, rfl⟩ := Kd.R_slice HM.out.row
            generalize C.getD k zE = x at ha hb hc hd HXM HCC
            have HGL := HGL2
            clear hXM hK hi HGL2
            go_upto_region 14 with fail
            have F : ∀ w', Below wr.heap.size wr w' → (fun w' => (w'.cell? ⟨g, k * 4, none⟩ = some (.int .i64 x.f0) ∧ w'.cell? ⟨g, k * 4 + 1, none⟩ = some (.int .i64 x.f1) ∧ w'.cell? ⟨g, k * 4 + 2, none⟩ = some (.int .i64 x.f2) ∧ w'.cell? ⟨g, k * 4 + 3, none⟩ = some (.slice A2 x.f3.length c2)) ∧ (w'.cell? ⟨G, 0, none⟩ = some (.int .i64 y.f0) ∧ w'.cell? ⟨G, 1, none⟩ = some (.int .i64 y.f1) ∧ w'.cell? ⟨G, 2, none⟩ = some (.int .i64 y.f2) ∧ w'.cell? ⟨G, 3, none⟩ = some (.slice U y.f3.length cu))) w' := fun w' h => ⟨⟨pw_cell_below h ha, pw_cell_below h hb, pw_cell_below h hc, pw_cell_below h hd⟩, ⟨(blk_cell (blk_below HM.out.box h) 0).trans rfl, (blk_cell (blk_below HM.out.box h) 1).trans rfl, (blk_cell (blk_below HM.out.box h) 2).trans rfl, (blk_cell (blk_below HM.out.box h) 3).trans rfl⟩⟩
            have HF := Aside0.mk F
            have HD : Below wr.heap.size wr wr.drew := below_drew (Below.refl _ _)
            clear ha hb hc hd F
            refine Za.regionL (fun w' => (w'.cell? ⟨g, k * 4, none⟩ = some (.int .i64 x.f0) ∧ w'.cell? ⟨g, k * 4 + 1, none⟩ = some (.int .i64 x.f1) ∧ w'.cell? ⟨g, k * 4 + 2, none⟩ = some (.int .i64 x.f2) ∧ w'.cell? ⟨g, k * 4 + 3, none⟩ = some (.slice A2 x.f3.length c2)) ∧ (w'.cell? ⟨G, 0, none⟩ = some (.int .i64 y.f0) ∧ w'.cell? ⟨G, 1, none⟩ = some (.int .i64 y.f1) ∧ w'.cell? ⟨G, 2, none⟩ = some (.int .i64 y.f2) ∧ w'.cell? ⟨G, 3, none⟩ = some (.slice U y.f3.length cu))) [7] (by kernel_rfl) ?_
            generalize wr.drew = wd at HD ⊢
            have HS : (fun w' => (w'.cell? ⟨g, k * 4, none⟩ = some (.int .i64 x.f0) ∧ w'.cell? ⟨g, k * 4 + 1, none⟩ = some (.int .i64 x.f1) ∧ w'.cell? ⟨g, k * 4 + 2, none⟩ = some (.int .i64 x.f2) ∧ w'.cell? ⟨g, k * 4 + 3, none⟩ = some (.slice A2 x.f3.length c2)) ∧ (w'.cell? ⟨G, 0, none⟩ = some (.int .i64 y.f0) ∧ w'.cell? ⟨G, 1, none⟩ = some (.int .i64 y.f1) ∧ w'.cell? ⟨G, 2, none⟩ = some (.int .i64 y.f2) ∧ w'.cell? ⟨G, 3, none⟩ = some (.slice U y.f3.length cu))) wd := HF.out _ HD
            refine Za.takeL 0 (v := ?vn0) rfl (by kernel_rfl) (by kernel_rfl) (by kernel_rfl) (by kernel_rfl) (fun _ _ _ h => h) (Or.inl ⟨by rfl, ?hyn0⟩) HS ?restn0
            case hyn0 => (intro w hSw; (try dsimp only at hSw); go_simp; try with_reducible rfl)
            (try simp only [Act.put, List.setIfInBounds_toArray, List.set_cons_zero, List.set_cons_succ])
            refine Za.takeL 1 (v := ?vn1) rfl (by kernel_rfl) (by kernel_rfl) (by kernel_rfl) (by kernel_rfl) (fun _ _ _ h => h) (Or.inl ⟨by rfl, ?hyn1⟩) HS ?restn1
            case hyn1 => (intro w hSw; (try dsimp only at hSw); go_simp; try with_reducible rfl)
            (try simp only [Act.put, List.setIfInBounds_toArray, List.set_cons_zero, List.set_cons_succ])
            refine Za.takeL 2 (v := ?vn2) rfl (by kernel_rfl) (by kernel_rfl) (by kernel_rfl) (by kernel_rfl) (fun _ _ _ h => h) (Or.inl ⟨by rfl, ?hyn2⟩) HS ?restn2
            case hyn2 => (intro w hSw; (try dsimp only at hSw); go_simp; try with_reducible rfl)
            (try simp only [Act.put, List.setIfInBounds_toArray, List.set_cons_zero, List.set_cons_succ])
            refine Za.takeL 3 (v := ?vn3) rfl (by kernel_rfl) (by kernel_rfl) (by kernel_rfl) (by kernel_rfl) (fun _ _ _ h => h) (Or.inl ⟨by rfl, ?hyn3⟩) HS ?restn3
            case hyn3 => (intro w hSw; (try dsimp only at hSw); go_simp; try with_reducible rfl)
            (try simp only [Act.put, List.setIfInBounds_toArray, List.set_cons_zero, List.set_cons_succ])
            refine Za.takeL 4 (v := ?vn4) rfl (by kernel_rfl) (by kernel_rfl) (by kernel_rfl) (by kernel_rfl) (fun _ _ _ h => h) (Or.inl ⟨by rfl, ?hyn4⟩) HS ?restn4
            case hyn4 => (intro w hSw; (try dsimp only at hSw); go_simp; try with_reducible rfl)
            (try simp only [Act.put, List.setIfInBounds_toArray, List.set_cons_zero, List.set_cons_succ])
            clear HS
            refine Za.nextL 5 (by kernel_rfl) rfl (fun K' hK => ?_)
            go_simp
            refine hK.out _ _ ⟨fun _ => HF.out _ (below_alloc HD _), ?_⟩
            clear hK K'
            (try simp only [Act.put, List.setIfInBounds_toArray, List.set_cons_zero, List.set_cons_succ])
            refine Za.nextL 6 (by kernel_rfl) rfl (fun K' hK => ?_)
            go_simp
            refine hK.out _ _ ⟨fun _ => HF.out _ (below_alloc HD _), ?_⟩
            clear hK K'
            (try simp only [Act.put, List.setIfInBounds_toArray, List.set_cons_zero, List.set_cons_succ])
            have HM6 := Aside0.mk (HM.out.step HD HGL.out HG2L.out HXM.out)
            have bz := blk_below HM.out.box (below_alloc HD (.cells #[.int .i64 x.f0, .int .i64 x.f1, .int .i64 x.f2, .slice A2 x.f3.length c2, .int .i64 y.f0, .int .i64 y.f1, .int .i64 y.f2, .slice U y.f3.length cu] 29))
            have HS5 := Aside0.mk (show G < (wd.alloc (.cells #[.int .i64 x.f0, .int .i64 x.f1, .int .i64 x.f2, .slice A2 x.f3.length c2, .int .i64 y.f0, .int .i64 y.f1, .int .i64 y.f2, .slice U y.f3.length cu] 29)).heap.size from Nat.lt_of_lt_of_le HGL.out (below_alloc HD (.cells #[.int .i64 x.f0, .int .i64 x.f1, .int .i64 x.f2, .slice A2 x.f3.length c2, .int .i64 y.f0, .int .i64 y.f1, .int .i64 y.f2, .slice U y.f3.length cu] 29)).size)
            generalize wd.alloc (.cells #[.int .i64 x.f0, .int .i64 x.f1, .int .i64 x.f2, .slice A2 x.f3.length c2, .int .i64 y.f0, .int .i64 y.f1, .int .i64 y.f2, .slice U y.f3.length cu] 29) = W5 at HM6 bz HS5 ⊢
            have z0 := (blk_cell bz 0).trans rfl
            have z1 := (blk_cell bz 1).trans rfl
            have z2 := (blk_cell bz 2).trans rfl
            have z3 := (blk_cell bz 3).trans rfl
            have f0 := blk_frozen bz 0
            have f1 := blk_frozen bz 1
            have f2 := blk_frozen bz 2
            have f3 := blk_frozen bz 3
            refine Za.nextL 7 (by kernel_rfl) rfl (fun K' hK => ?_)
            go_simp
            refine hK.out _ _ ⟨fun h => absurd (by simp) h, ?_⟩
            clear hK K'
            (try simp only [Act.put, List.setIfInBounds_toArray, List.set_cons_zero, List.set_cons_succ])
            refine Za.Walk.done (by kernel_rfl) ?_
            clear z0 z1 z2 z3 f0 f1 f2 f3 bz
            have HS6 := Aside0.mk (show G < (set4 W5 G (.int .i64 2) (.int .i64 0) (.int .i64 0) (.slice (some ⟨wd.heap.size, 0, none⟩) 2 2)).heap.size by have := HS5.out; simp [set4, World.setCell]; omega)
            clear HS5
            have HM7 : Aside0 (ChMem w5 (set4 W5 G (.int .i64 2) (.int .i64 0) (.int .i64 0) (.slice (some ⟨wd.heap.size, 0, none⟩) 2 2)) (w.heap.size + 1 + 1) G (w.heap.size + 1) (.mk 2 0 0 [x, y]) (.slice (some ⟨wd.heap.size, 0, none⟩) 2 2)) := HM6
            clear HM6
            have HM6 := HM7
            clear HM7
            unfold set4 at HM6 HS6
            generalize (((W5.setCell ⟨G, 0, none⟩ (.int .i64 2)).setCell ⟨G, 1, none⟩ (.int .i64 0)).setCell ⟨G, 2, none⟩ (.int .i64 0)).setCell ⟨G, 3, none⟩ (.slice (some ⟨wd.heap.size, 0, none⟩) 2 2) = W6 at HM6 HS6 ⊢
            go_wp2
            go_roundw
            case rel => exact ⟨k, _, _, by omega, rfl, by omega, ⟨by rw [HCC.out]; exact HM6.out⟩, HS6⟩
            case measure => simp [intOf]
      have e2 : (f0 == 2) = false := by simp [h2]
      have H2 := Aside0.mk h2
      clear h2
      go_upto_region 16 with fail
      clear r0 r1 r2 r3 e2 g1
      have HD : Aside0 (Below W4.heap.size W4 W4.drew) := ⟨below_drew (Below.refl _ _)⟩
      by_cases h7 : f0 = 7
      rotate_left
      · have e7 : (f0 == 7) = false := by simp [h7]
        have HT := Aside0.mk (HTOPN.out H2.out (fun h => h7 h.1))
        clear h7
        have F : Aside0 (∀ w', Below W4.heap.size W4 w' → (fun w' => (w'.cell? ⟨w.heap.size, 0, none⟩ = some (.int .i64 f0) ∧ w'.cell? ⟨w.heap.size, 1, none⟩ = some (.int .i64 f1) ∧ w'.cell? ⟨w.heap.size, 2, none⟩ = some (.int .i64 f2) ∧ w'.cell? ⟨w.heap.size, 3, none⟩ = some (.slice A3 LL.length c3))) w') := ⟨fun w' h => ⟨(blk_cell (blk_below BG2.out h) 0).trans rfl, (blk_cell (blk_below BG2.out h) 1).trans rfl, (blk_cell (blk_below BG2.out h) 2).trans rfl, (blk_cell (blk_below BG2.out h) 3).trans rfl⟩⟩
        refine Za.regionL (fun w' => (w'.cell? ⟨w.heap.size, 0, none⟩ = some (.int .i64 f0) ∧ w'.cell? ⟨w.heap.size, 1, none⟩ = some (.int .i64 f1) ∧ w'.cell? ⟨w.heap.size, 2, none⟩ = some (.int .i64 f2) ∧ w'.cell? ⟨w.heap.size, 3, none⟩ = some (.slice A3 LL.length c3))) [] (by kernel_rfl) ?_
        generalize W4.drew = wd at HD ⊢
        have HS : (fun w' => (w'.cell? ⟨w.heap.size, 0, none⟩ = some (.int .i64 f0) ∧ w'.cell? ⟨w.heap.size, 1, none⟩ = some (.int .i64 f1) ∧ w'.cell? ⟨w.heap.size, 2, none⟩ = some (.int .i64 f2) ∧ w'.cell? ⟨w.heap.size, 3, none⟩ = some (.slice A3 LL.length c3))) wd := F.out _ HD.out
        refine Za.takeL 0 (v := ?vs0) rfl (by kernel_rfl) (by kernel_rfl) (by kernel_rfl) (by kernel_rfl) (fun _ _ _ h => h) (Or.inl ⟨by rfl, ?hys0⟩) HS ?rests0
        case hys0 => (intro w hSw; (try dsimp only at hSw); go_simp; try with_reducible rfl)
        (try simp only [Act.put, List.setIfInBounds_toArray, List.set_cons_zero, List.set_cons_succ])
        refine Za.takeL 1 (v := ?vs1) rfl (by kernel_rfl) (by kernel_rfl) (by kernel_rfl) (by kernel_rfl) (fun _ _ _ h => h) (Or.inl ⟨by rfl, ?hys1⟩) HS ?rests1
        case hys1 => (intro w hSw; (try dsimp only at hSw); go_simp; try with_reducible rfl)
        (try simp only [Act.put, List.setIfInBounds_toArray, List.set_cons_zero, List.set_cons_succ])
        refine Za.takeL 2 (v := ?vs2) rfl (by kernel_rfl) (by kernel_rfl) (by kernel_rfl) (by kernel_rfl) (fun _ _ _ h => h) (Or.inl ⟨by rfl, ?hys2⟩) HS ?rests2
        case hys2 => (intro w hSw; (try dsimp only at hSw); go_simp; try with_reducible rfl)
        (try simp only [Act.put, List.setIfInBounds_toArray, List.set_cons_zero, List.set_cons_succ])
        refine Za.takeL 3 (v := ?vs3) rfl (by kernel_rfl) (by kernel_rfl) (by kernel_rfl) (by kernel_rfl) (fun _ _ _ h => h) (Or.inl ⟨by rfl, ?hys3⟩) HS ?rests3
        case hys3 => (intro w hSw; (try dsimp only at hSw); go_simp; try with_reducible rfl)
        (try simp only [Act.put, List.setIfInBounds_toArray, List.set_cons_zero, List.set_cons_succ])
        refine Za.takeL 4 (v := undef) rfl (by kernel_rfl) (by kernel_rfl) (by kernel_rfl) (by kernel_rfl) (fun _ _ _ h => h) (Or.inr ⟨by rfl, rfl⟩) HS ?rests4
        (try simp only [Act.put, List.setIfInBounds_toArray, List.set_cons_zero, List.set_cons_succ])
        refine Za.takeL 5 (v := undef) rfl (by kernel_rfl) (by kernel_rfl) (by kernel_rfl) (by kernel_rfl) (fun _ _ _ h => h) (Or.inr ⟨by rfl, rfl⟩) HS ?rests5
        (try simp only [Act.put, List.setIfInBounds_toArray, List.set_cons_zero, List.set_cons_succ])
        refine Za.takeL 6 (v := undef) rfl (by kernel_rfl) (by kernel_rfl) (by kernel_rfl) (by kernel_rfl) (fun _ _ _ h => h) (Or.inr ⟨by rfl, rfl⟩) HS ?rests6
        (try simp only [Act.put, List.setIfInBounds_toArray, List.set_cons_zero, List.set_cons_succ])
        refine Za.takeL 7 (v := undef) rfl (by kernel_rfl) (by kernel_rfl) (by kernel_rfl) (by kernel_rfl) (fun _ _ _ h => h) (Or.inr ⟨by rfl, rfl⟩) HS ?rests7
        (try simp only [Act.put, List.setIfInBounds_toArray, List.set_cons_zero, List.set_cons_succ])
        refine Za.takeL 8 (v := undef) rfl (by kernel_rfl) (by kernel_rfl) (by kernel_rfl) (by kernel_rfl) (fun _ _ _ h => h) (Or.inr ⟨by rfl, rfl⟩) HS ?rests8
        (try simp only [Act.put, List.setIfInBounds_toArray, List.set_cons_zero, List.set_cons_succ])
        refine Za.takeL 9 (v := undef) rfl (by kernel_rfl) (by kernel_rfl) (by kernel_rfl) (by kernel_rfl) (fun _ _ _ h => h) (Or.inr ⟨by rfl, rfl⟩) HS ?rests9
        (try simp only [Act.put, List.setIfInBounds_toArray, List.set_cons_zero, List.set_cons_succ])
        refine Za.takeL 10 (v := ?vs10) rfl (by kernel_rfl) (by kernel_rfl) (by kernel_rfl) (by kernel_rfl) (fun _ _ _ h => h) (Or.inl ⟨by rfl, ?hys10⟩) HS ?rests10
        case hys10 => (intro w hSw; (try dsimp only at hSw); go_simp; try with_reducible rfl)
        (try simp only [Act.put, List.setIfInBounds_toArray, List.set_cons_zero, List.set_cons_succ])
        refine Za.takeL 11 (v := ?vs11) rfl (by kernel_rfl) (by kernel_rfl) (by kernel_rfl) (by kernel_rfl) (fun _ _ _ h => h) (Or.inl ⟨by rfl, ?hys11⟩) HS ?rests11
        case hys11 => (intro w hSw; (try dsimp only at hSw); go_simp; try with_reducible rfl)
        (try simp only [Act.put, List.setIfInBounds_toArray, List.set_cons_zero, List.set_cons_succ])
        refine Za.takeL 12 (v := undef) rfl (by kernel_rfl) (by kernel_rfl) (by kernel_rfl) (by kernel_rfl) (fun _ _ _ h => h) (Or.inr ⟨by rfl, rfl⟩) HS ?rests12
        (try simp only [Act.put, List.setIfInBounds_toArray, List.set_cons_zero, List.set_cons_succ])
        refine Za.takeL 13 (v := undef) rfl (by kernel_rfl) (by kernel_rfl) (by kernel_rfl) (by kernel_rfl) (fun _ _ _ h => h) (Or.inr ⟨by rfl, rfl⟩) HS ?rests13
        (try simp only [Act.put, List.setIfInBounds_toArray, List.set_cons_zero, List.set_cons_succ])
        refine Za.takeL 14 (v := undef) rfl (by kernel_rfl) (by kernel_rfl) (by kernel_rfl) (by kernel_rfl) (fun _ _ _ h => h) (Or.inr ⟨by rfl, rfl⟩) HS ?rests14
        (try simp only [Act.put, List.setIfInBounds_toArray, List.set_cons_zero, List.set_cons_succ])
        refine Za.takeL 15 (v := undef) rfl (by kernel_rfl) (by kernel_rfl) (by kernel_rfl) (by kernel_rfl) (fun _ _ _ h => h) (Or.inr ⟨by rfl, rfl⟩) HS ?rests15
        (try simp only [Act.put, List.setIfInBounds_toArray, List.set_cons_zero, List.set_cons_succ])
        refine Za.takeL 16 (v := undef) rfl (by kernel_rfl) (by kernel_rfl) (by kernel_rfl) (by kernel_rfl) (fun _ _ _ h => h) (Or.inr ⟨by rfl, rfl⟩) HS ?rests16
        (try simp only [Act.put, List.setIfInBounds_toArray, List.set_cons_zero, List.set_cons_succ])
        refine Za.takeL 17 (v := undef) rfl (by kernel_rfl) (by kernel_rfl) (by kernel_rfl) (by kernel_rfl) (fun _ _ _ h => h) (Or.inr ⟨by rfl, rfl⟩) HS ?rests17
        (try simp only [Act.put, List.setIfInBounds_toArray, List.set_cons_zero, List.set_cons_succ])
        refine Za.takeL 18 (v := undef) rfl (by kernel_rfl) (by kernel_rfl) (by kernel_rfl) (by kernel_rfl) (fun _ _ _ h => h) (Or.inr ⟨by rfl, rfl⟩) HS ?rests18
        (try simp only [Act.put, List.setIfInBounds_toArray, List.set_cons_zero, List.set_cons_succ])
        refine Za.takeL 19 (v := undef) rfl (by kernel_rfl) (by kernel_rfl) (by kernel_rfl) (by kernel_rfl) (fun _ _ _ h => h) (Or.inr ⟨by rfl, rfl⟩) HS ?rests19
        (try simp only [Act.put, List.setIfInBounds_toArray, List.set_cons_zero, List.set_cons_succ])
        refine Za.takeL 20 (v := undef) rfl (by kernel_rfl) (by kernel_rfl) (by kernel_rfl) (by kernel_rfl) (fun _ _ _ h => h) (Or.inr ⟨by rfl, rfl⟩) HS ?rests20
        (try simp only [Act.put, List.setIfInBounds_toArray, List.set_cons_zero, List.set_cons_succ])
        refine Za.takeL 21 (v := ?vs21) rfl (by kernel_rfl) (by kernel_rfl) (by kernel_rfl) (by kernel_rfl) (fun _ _ _ h => h) (Or.inl ⟨by rfl, ?hys21⟩) HS ?rests21
        case hys21 => (intro w hSw; (try dsimp only at hSw); go_simp; try with_reducible rfl)
        (try simp only [Act.put, List.setIfInBounds_toArray, List.set_cons_zero, List.set_cons_succ])
        clear HS
        refine Za.nextL 22 (by kernel_rfl) rfl (fun K' hK => ?_)
        go_simp
        refine hK.out _ _ ⟨fun _ => F.out _ HD.out, ?_⟩
        clear hK K'
        (try simp only [Act.put, List.setIfInBounds_toArray, List.set_cons_zero, List.set_cons_succ])
        refine Za.Walk.done (by kernel_rfl) ?_
        have g1' := blk_below BG1.out HD.out
        have g2' := blk_below BG2.out HD.out
        have r0 := (blk_cell g2' 0).trans rfl
        have r1 := (blk_cell g2' 1).trans rfl
        have r2 := (blk_cell g2' 2).trans rfl
        have r3 := (blk_cell g2' 3).trans rfl
        have s0 := (blk_cell g1' 0).trans rfl
        have s1 := (blk_cell g1' 1).trans rfl
        have s2 := (blk_cell g1' 2).trans rfl
        have s3 := (blk_cell g1' 3).trans rfl
        have t0 := blk_frozen g1' 0
        have t1 := blk_frozen g1' 1
        have t2 := blk_frozen g1' 2
        have t3 := blk_frozen g1' 3
        go_wp2
        refine bodyPost_ret (results_cell_row rfl _ _ (w.heap.size + 1) 29 #[.int .i64 f0, .int .i64 f1, .int .i64 f2, .slice A3 LL.length c3] (0, 0) _ rfl (set4_blk _ _ _ _ g1') Tryd.underlying29 rfl (by kernel_rfl)) rfl ?_
        rw [← HLE.out, HT.out]
        have hfin := fin_out (x := .mk f0 f1 f2 LL) (below_then HB4.out HB4.out.size HD.out) (Kd.R_below HR4.out HD.out) (by omega)
        exact hfin
      have e7 : (f0 == 7) = true := by simp [h7]
      have hll1 : LL.length = 1 := by
        have h := (form_head HF0.out).1.kids
        have h3 : kidsN 7 = 1 := by decide
        have h4 : ((LL.length : Nat) : Int) = kidsN f0 := h
        rw [h7, h3] at h4; omega
      obtain ⟨g, cap, eA, hgb, hgl, -⟩ := Kd.R_form HR4.out (by omega)
      cases eA
      have HL1 := Aside0.mk hll1
      obtain ⟨cs, hcl, hM, hcc, -⟩ := Kd.R_elem HR4.out zE (0 : Int) (by omega) (by omega)
      have hM' : (kR 29).M W4 (w.heap.size + 1 + 1) _ (LL.getD 0 zE) cs := hM
      obtain ⟨vy, rfl, gy⟩ := kR_openM hM'
      obtain ⟨Ay, cy, rfl⟩ := Kd.R_slice gy
      have ha : W4.cell? ⟨g, 0, none⟩ = some (.int .i64 (LL.getD 0 zE).f0) := hcc 0 _ rfl
      have hb : W4.cell? ⟨g, 1, none⟩ = some (.int .i64 (LL.getD 0 zE).f1) := hcc 1 _ rfl
      have hc : W4.cell? ⟨g, 2, none⟩ = some (.int .i64 (LL.getD 0 zE).f2) := hcc 2 _ rfl
      have hd : W4.cell? ⟨g, 3, none⟩ = some (.slice Ay (LL.getD 0 zE).f3.length cy) := hcc 3 _ rfl
      have HGY := Aside0.mk gy
      have HFY : Aside0 (formB (LL.getD 0 zE) = true) := ⟨by
        have h := (form_head HF0.out).2
        rw [formL_all, List.all_eq_true] at h
        exact h _ (show LL.getD 0 zE ∈ LL from getE_mem (by omega))⟩
      have hpl := (form_head HF0.out).1.plus h7
      have hn1 : 1 ≤ f2 := hpl.1
      have hn2 : f2 ≤ 20 := hpl.2
      generalize LL.getD 0 zE = y at ha hb hc hd HGY HFY HTOP7 HTOPN
      have H7 := Aside0.mk h7
      have BG3 : Aside0 (W4.heap[w.heap.size]? = some (.cells #[.int .i64 f0, .int .i64 f1, .int .i64 f2, .slice (some ⟨g, 0, none⟩) 1 c3] 29 (0, 0))) := ⟨by rw [BG2.out, HL1.out]⟩
      clear hM hM' gy hcc hpl hcl h7 BG2 hll1
      have BG2 := BG3
      clear BG3
      have F : Aside0 (∀ w', Below W4.heap.size W4 w' → (fun w' => (w'.cell? ⟨w.heap.size, 0, none⟩ = some (.int .i64 f0) ∧ w'.cell? ⟨w.heap.size, 1, none⟩ = some (.int .i64 f1) ∧ w'.cell? ⟨w.heap.size, 2, none⟩ = some (.int .i64 f2) ∧ w'.cell? ⟨w.heap.size, 3, none⟩ = some (.slice (some ⟨g, 0, none⟩) 1 c3)) ∧ (w'.cell? ⟨g, 0, none⟩ = some (.int .i64 y.f0) ∧ w'.cell? ⟨g, 1, none⟩ = some (.int .i64 y.f1) ∧ w'.cell? ⟨g, 2, none⟩ = some (.int .i64 y.f2) ∧ w'.cell? ⟨g, 3, none⟩ = some (.slice Ay y.f3.length cy))) w') := ⟨fun w' h => ⟨⟨(blk_cell (blk_below BG2.out h) 0).trans rfl, (blk_cell (blk_below BG2.out h) 1).trans rfl, (blk_cell (blk_below BG2.out h) 2).trans rfl, (blk_cell (blk_below BG2.out h) 3).trans rfl⟩, ⟨pw_cell_below h ha, pw_cell_below h hb, pw_cell_below h hc, pw_cell_below h hd⟩⟩⟩
      clear ha hb hc hd
      by_cases hy : y.f0 = 7
      · have d7 : (y.f0 == 7) = true := by simp [hy]
        have hpy := (form_head HFY.out).1.plus hy
        have hy1 : 1 ≤ y.f2 := hpy.1
        have hy2 : y.f2 ≤ 20 := hpy.2
        have hwr : IntKind.i64.wrap (f2 + y.f2) = f2 + y.f2 := by rw [IntKind.wrap_i64]; omega
        clear hpy
        by_cases hs : f2 + y.f2 ≤ 20
        · have ds : decide (f2 + y.f2 ≤ 20) = true := decide_eq_true hs
          have HT := Aside0.mk (HTOP7.out H2.out ⟨H7.out, hy, hs⟩)
          clear hy hs
          refine Za.regionL (fun w' => (w'.cell? ⟨w.heap.size, 0, none⟩ = some (.int .i64 f0) ∧ w'.cell? ⟨w.heap.size, 1, none⟩ = some (.int .i64 f1) ∧ w'.cell? ⟨w.heap.size, 2, none⟩ = some (.int .i64 f2) ∧ w'.cell? ⟨w.heap.size, 3, none⟩ = some (.slice (some ⟨g, 0, none⟩) 1 c3)) ∧ (w'.cell? ⟨g, 0, none⟩ = some (.int .i64 y.f0) ∧ w'.cell? ⟨g, 1, none⟩ = some (.int .i64 y.f1) ∧ w'.cell? ⟨g, 2, none⟩ = some (.int .i64 y.f2) ∧ w'.cell? ⟨g, 3, none⟩ = some (.slice Ay y.f3.length cy))) [] (by kernel_rfl) ?_
          generalize W4.drew = wd at HD ⊢
          have HS : (fun w' => (w'.cell? ⟨w.heap.size, 0, none⟩ = some (.int .i64 f0) ∧ w'.cell? ⟨w.heap.size, 1, none⟩ = some (.int .i64 f1) ∧ w'.cell? ⟨w.heap.size, 2, none⟩ = some (.int .i64 f2) ∧ w'.cell? ⟨w.heap.size, 3, none⟩ = some (.slice (some ⟨g, 0, none⟩) 1 c3)) ∧ (w'.cell? ⟨g, 0, none⟩ = some (.int .i64 y.f0) ∧ w'.cell? ⟨g, 1, none⟩ = some (.int .i64 y.f1) ∧ w'.cell? ⟨g, 2, none⟩ = some (.int .i64 y.f2) ∧ w'.cell? ⟨g, 3, none⟩ = some (.slice Ay y.f3.length cy))) wd := F.out _ HD.out
          refine Za.takeL 0 (v := ?vp0) rfl (by kernel_rfl) (by kernel_rfl) (by kernel_rfl) (by kernel_rfl) (fun _ _ _ h => h) (Or.inl ⟨by rfl, ?hyp0⟩) HS ?restp0
          case hyp0 => (intro w hSw; (try dsimp only at hSw); go_simp; try with_reducible rfl)
          (try simp only [Act.put, List.setIfInBounds_toArray, List.set_cons_zero, List.set_cons_succ])
          refine Za.takeL 1 (v := ?vp1) rfl (by kernel_rfl) (by kernel_rfl) (by kernel_rfl) (by kernel_rfl) (fun _ _ _ h => h) (Or.inl ⟨by rfl, ?hyp1⟩) HS ?restp1
          case hyp1 => (intro w hSw; (try dsimp only at hSw); go_simp; try with_reducible rfl)
          (try simp only [Act.put, List.setIfInBounds_toArray, List.set_cons_zero, List.set_cons_succ])
          refine Za.takeL 2 (v := ?vp2) rfl (by kernel_rfl) (by kernel_rfl) (by kernel_rfl) (by kernel_rfl) (fun _ _ _ h => h) (Or.inl ⟨by rfl, ?hyp2⟩) HS ?restp2
          case hyp2 => (intro w hSw; (try dsimp only at hSw); go_simp; try with_reducible rfl)
          (try simp only [Act.put, List.setIfInBounds_toArray, List.set_cons_zero, List.set_cons_succ])
          refine Za.takeL 3 (v := ?vp3) rfl (by kernel_rfl) (by kernel_rfl) (by kernel_rfl) (by kernel_rfl) (fun _ _ _ h => h) (Or.inl ⟨by rfl, ?hyp3⟩) HS ?restp3
          case hyp3 => (intro w hSw; (try dsimp only at hSw); go_simp; try with_reducible rfl)
          (try simp only [Act.put, List.setIfInBounds_toArray, List.set_cons_zero, List.set_cons_succ])
          refine Za.takeL 4 (v := ?vp4) rfl (by kernel_rfl) (by kernel_rfl) (by kernel_rfl) (by kernel_rfl) (fun _ _ _ h => h) (Or.inl ⟨by rfl, ?hyp4⟩) HS ?restp4
          case hyp4 => (intro w hSw; (try dsimp only at hSw); go_simp; try with_reducible rfl)
          (try simp only [Act.put, List.setIfInBounds_toArray, List.set_cons_zero, List.set_cons_succ])
          refine Za.takeL 5 (v := ?vp5) rfl (by kernel_rfl) (by kernel_rfl) (by kernel_rfl) (by kernel_rfl) (fun _ _ _ h => h) (Or.inl ⟨by rfl, ?hyp5⟩) HS ?restp5
          case hyp5 => (intro w hSw; (try dsimp only at hSw); go_simp; try with_reducible rfl)
          (try simp only [Act.put, List.setIfInBounds_toArray, List.set_cons_zero, List.set_cons_succ])
          refine Za.takeL 6 (v := ?vp6) rfl (by kernel_rfl) (by kernel_rfl) (by kernel_rfl) (by kernel_rfl) (fun _ _ _ h => h) (Or.inl ⟨by rfl, ?hyp6⟩) HS ?restp6
          case hyp6 => (intro w hSw; (try dsimp only at hSw); go_simp; try with_reducible rfl)
          (try simp only [Act.put, List.setIfInBounds_toArray, List.set_cons_zero, List.set_cons_succ])
          refine Za.takeL 7 (v := ?vp7) rfl (by kernel_rfl) (by kernel_rfl) (by kernel_rfl) (by kernel_rfl) (fun _ _ _ h => h) (Or.inl ⟨by rfl, ?hyp7⟩) HS ?restp7
          case hyp7 => (intro w hSw; (try dsimp only at hSw); go_simp; try with_reducible rfl)
          (try simp only [Act.put, List.setIfInBounds_toArray, List.set_cons_zero, List.set_cons_succ])
          refine Za.takeL 8 (v := ?vp8) rfl (by kernel_rfl) (by kernel_rfl) (by kernel_rfl) (by kernel_rfl) (fun _ _ _ h => h) (Or.inl ⟨by rfl, ?hyp8⟩) HS ?restp8
          case hyp8 => (intro w hSw; (try dsimp only at hSw); go_simp; try with_reducible rfl)
          (try simp only [Act.put, List.setIfInBounds_toArray, List.set_cons_zero, List.set_cons_succ])
          refine Za.takeL 9 (v := ?vp9) rfl (by kernel_rfl) (by kernel_rfl) (by kernel_rfl) (by kernel_rfl) (fun _ _ _ h => h) (Or.inl ⟨by rfl, ?hyp9⟩) HS ?restp9
          case hyp9 => (intro w hSw; (try dsimp only at hSw); go_simp; try with_reducible rfl)
          (try simp only [Act.put, List.setIfInBounds_toArray, List.set_cons_zero, List.set_cons_succ])
          refine Za.takeL 10 (v := ?vp10) rfl (by kernel_rfl) (by kernel_rfl) (by kernel_rfl) (by kernel_rfl) (fun _ _ _ h => h) (Or.inl ⟨by rfl, ?hyp10⟩) HS ?restp10
          case hyp10 => (intro w hSw; (try dsimp only at hSw); go_simp; try with_reducible rfl)
          (try simp only [Act.put, List.setIfInBounds_toArray, List.set_cons_zero, List.set_cons_succ])
          refine Za.takeL 11 (v := ?vp11) rfl (by kernel_rfl) (by kernel_rfl) (by kernel_rfl) (by kernel_rfl) (fun _ _ _ h => h) (Or.inl ⟨by rfl, ?hyp11⟩) HS ?restp11
          case hyp11 => (intro w hSw; (try dsimp only at hSw); go_simp; try with_reducible rfl)
          (try simp only [Act.put, List.setIfInBounds_toArray, List.set_cons_zero, List.set_cons_succ])
          refine Za.takeL 12 (v := ?vp12) rfl (by kernel_rfl) (by kernel_rfl) (by kernel_rfl) (by kernel_rfl) (fun _ _ _ h => h) (Or.inl ⟨by rfl, ?hyp12⟩) HS ?restp12
          case hyp12 => (intro w hSw; (try dsimp only at hSw); go_simp; try with_reducible rfl)
          (try simp only [Act.put, List.setIfInBounds_toArray, List.set_cons_zero, List.set_cons_succ])
          refine Za.takeL 13 (v := ?vp13) rfl (by kernel_rfl) (by kernel_rfl) (by kernel_rfl) (by kernel_rfl) (fun _ _ _ h => h) (Or.inl ⟨by rfl, ?hyp13⟩) HS ?restp13
          case hyp13 => (intro w hSw; (try dsimp only at hSw); go_simp; try with_reducible rfl)
          (try simp only [Act.put, List.setIfInBounds_toArray, List.set_cons_zero, List.set_cons_succ])
          refine Za.takeL 14 (v := ?vp14) rfl (by kernel_rfl) (by kernel_rfl) (by kernel_rfl) (by kernel_rfl) (fun _ _ _ h => h) (Or.inl ⟨by rfl, ?hyp14⟩) HS ?restp14
          case hyp14 => (intro w hSw; (try dsimp only at hSw); go_simp; try with_reducible rfl)
          (try simp only [Act.put, List.setIfInBounds_toArray, List.set_cons_zero, List.set_cons_succ])
          refine Za.takeL 15 (v := ?vp15) rfl (by kernel_rfl) (by kernel_rfl) (by kernel_rfl) (by kernel_rfl) (fun _ _ _ h => h) (Or.inl ⟨by rfl, ?hyp15⟩) HS ?restp15
          case hyp15 => (intro w hSw; (try dsimp only at hSw); go_simp; try with_reducible rfl)
          (try simp only [Act.put, List.setIfInBounds_toArray, List.set_cons_zero, List.set_cons_succ])
          refine Za.takeL 16 (v := ?vp16) rfl (by kernel_rfl) (by kernel_rfl) (by kernel_rfl) (by kernel_rfl) (fun _ _ _ h => h) (Or.inl ⟨by rfl, ?hyp16⟩) HS ?restp16
          case hyp16 => (intro w hSw; (try dsimp only at hSw); go_simp; try with_reducible rfl)
          (try simp only [Act.put, List.setIfInBounds_toArray, List.set_cons_zero, List.set_cons_succ])
          refine Za.takeL 17 (v := ?vp17) rfl (by kernel_rfl) (by kernel_rfl) (by kernel_rfl) (by kernel_rfl) (fun _ _ _ h => h) (Or.inl ⟨by rfl, ?hyp17⟩) HS ?restp17
          case hyp17 => (intro w hSw; (try dsimp only at hSw); go_simp; try with_reducible rfl)
          (try simp only [Act.put, List.setIfInBounds_toArray, List.set_cons_zero, List.set_cons_succ])
          refine Za.takeL 18 (v := ?vp18) rfl (by kernel_rfl) (by kernel_rfl) (by kernel_rfl) (by kernel_rfl) (fun _ _ _ h => h) (Or.inl ⟨by rfl, ?hyp18⟩) HS ?restp18
          case hyp18 => (intro w hSw; (try dsimp only at hSw); go_simp; try with_reducible rfl)
          (try simp only [Act.put, List.setIfInBounds_toArray, List.set_cons_zero, List.set_cons_succ])
          refine Za.takeL 19 (v := ?vp19) rfl (by kernel_rfl) (by kernel_rfl) (by kernel_rfl) (by kernel_rfl) (fun _ _ _ h => h) (Or.inl ⟨by rfl, ?hyp19⟩) HS ?restp19
          case hyp19 => (intro w hSw; (try dsimp only at hSw); go_simp; try with_reducible rfl)
          (try simp only [Act.put, List.setIfInBounds_toArray, List.set_cons_zero, List.set_cons_succ])
          refine Za.takeL 20 (v := ?vp20) rfl (by kernel_rfl) (by kernel_rfl) (by kernel_rfl) (by kernel_rfl) (fun _ _ _ h => h) (Or.inl ⟨by rfl, ?hyp20⟩) HS ?restp20
          case hyp20 => (intro w hSw; (try dsimp only at hSw); go_simp; try with_reducible rfl)
          (try simp only [Act.put, List.setIfInBounds_toArray, List.set_cons_zero, List.set_cons_succ])
          refine Za.takeL 21 (v := ?vp21) rfl (by kernel_rfl) (by kernel_rfl) (by kernel_rfl) (by kernel_rfl) (fun _ _ _ h => h) (Or.inl ⟨by rfl, ?hyp21⟩) HS ?restp21
          case hyp21 => (intro w hSw; (try dsimp only at hSw); go_simp; try with_reducible rfl)
          (try simp only [Act.put, List.setIfInBounds_toArray, List.set_cons_zero, List.set_cons_succ])
          clear HS
          refine Za.nextL 22 (by kernel_rfl) rfl (fun K' hK => ?_)
          go_simp
          refine hK.out _ _ ⟨fun _ => F.out _ HD.out, ?_⟩
          clear hK K'
          (try simp only [Act.put, List.setIfInBounds_toArray, List.set_cons_zero, List.set_cons_succ])
          refine Za.Walk.done (by kernel_rfl) ?_
          go_upto_region 17 with fail
          refine Za.regionL (fun w' => (w'.cell? ⟨w.heap.size, 0, none⟩ = some (.int .i64 f0) ∧ w'.cell? ⟨w.heap.size, 1, none⟩ = some (.int .i64 f1) ∧ w'.cell? ⟨w.heap.size, 2, none⟩ = some (.int .i64 f2) ∧ w'.cell? ⟨w.heap.size, 3, none⟩ = some (.slice (some ⟨g, 0, none⟩) 1 c3)) ∧ (w'.cell? ⟨g, 0, none⟩ = some (.int .i64 y.f0) ∧ w'.cell? ⟨g, 1, none⟩ = some (.int .i64 y.f1) ∧ w'.cell? ⟨g, 2, none⟩ = some (.int .i64 y.f2) ∧ w'.cell? ⟨g, 3, none⟩ = some (.slice Ay y.f3.length cy))) [14] (by kernel_rfl) ?_
          have HD2 : Aside0 (Below W4.heap.size W4 wd.drew) := ⟨below_then HD.out HD.out.size (below_drew (Below.refl _ _))⟩
          generalize wd.drew = we at HD2 ⊢
          have HS : (fun w' => (w'.cell? ⟨w.heap.size, 0, none⟩ = some (.int .i64 f0) ∧ w'.cell? ⟨w.heap.size, 1, none⟩ = some (.int .i64 f1) ∧ w'.cell? ⟨w.heap.size, 2, none⟩ = some (.int .i64 f2) ∧ w'.cell? ⟨w.heap.size, 3, none⟩ = some (.slice (some ⟨g, 0, none⟩) 1 c3)) ∧ (w'.cell? ⟨g, 0, none⟩ = some (.int .i64 y.f0) ∧ w'.cell? ⟨g, 1, none⟩ = some (.int .i64 y.f1) ∧ w'.cell? ⟨g, 2, none⟩ = some (.int .i64 y.f2) ∧ w'.cell? ⟨g, 3, none⟩ = some (.slice Ay y.f3.length cy))) we := F.out _ HD2.out
          refine Za.takeL 0 (v := ?vq0) rfl (by kernel_rfl) (by kernel_rfl) (by kernel_rfl) (by kernel_rfl) (fun _ _ _ h => h) (Or.inl ⟨by rfl, ?hyq0⟩) HS ?restq0
          case hyq0 => (intro w hSw; (try dsimp only at hSw); go_simp; try with_reducible rfl)
          (try simp only [Act.put, List.setIfInBounds_toArray, List.set_cons_zero, List.set_cons_succ])
          refine Za.takeL 1 (v := ?vq1) rfl (by kernel_rfl) (by kernel_rfl) (by kernel_rfl) (by kernel_rfl) (fun _ _ _ h => h) (Or.inl ⟨by rfl, ?hyq1⟩) HS ?restq1
          case hyq1 => (intro w hSw; (try dsimp only at hSw); go_simp; try with_reducible rfl)
          (try simp only [Act.put, List.setIfInBounds_toArray, List.set_cons_zero, List.set_cons_succ])
          refine Za.takeL 2 (v := ?vq2) rfl (by kernel_rfl) (by kernel_rfl) (by kernel_rfl) (by kernel_rfl) (fun _ _ _ h => h) (Or.inl ⟨by rfl, ?hyq2⟩) HS ?restq2
          case hyq2 => (intro w hSw; (try dsimp only at hSw); go_simp; try with_reducible rfl)
          (try simp only [Act.put, List.setIfInBounds_toArray, List.set_cons_zero, List.set_cons_succ])
          refine Za.takeL 3 (v := ?vq3) rfl (by kernel_rfl) (by kernel_rfl) (by kernel_rfl) (by kernel_rfl) (fun _ _ _ h => h) (Or.inl ⟨by rfl, ?hyq3⟩) HS ?restq3
          case hyq3 => (intro w hSw; (try dsimp only at hSw); go_simp; try with_reducible rfl)
          (try simp only [Act.put, List.setIfInBounds_toArray, List.set_cons_zero, List.set_cons_succ])
          refine Za.takeL 4 (v := ?vq4) rfl (by kernel_rfl) (by kernel_rfl) (by kernel_rfl) (by kernel_rfl) (fun _ _ _ h => h) (Or.inl ⟨by rfl, ?hyq4⟩) HS ?restq4
          case hyq4 => (intro w hSw; (try dsimp only at hSw); go_simp; try with_reducible rfl)
          (try simp only [Act.put, List.setIfInBounds_toArray, List.set_cons_zero, List.set_cons_succ])
          refine Za.takeL 5 (v := ?vq5) rfl (by kernel_rfl) (by kernel_rfl) (by kernel_rfl) (by kernel_rfl) (fun _ _ _ h => h) (Or.inl ⟨by rfl, ?hyq5⟩) HS ?restq5
          case hyq5 => (intro w hSw; (try dsimp only at hSw); go_simp; try with_reducible rfl)
          (try simp only [Act.put, List.setIfInBounds_toArray, List.set_cons_zero, List.set_cons_succ])
          refine Za.takeL 6 (v := ?vq6) rfl (by kernel_rfl) (by kernel_rfl) (by kernel_rfl) (by kernel_rfl) (fun _ _ _ h => h) (Or.inl ⟨by rfl, ?hyq6⟩) HS ?restq6
          case hyq6 => (intro w hSw; (try dsimp only at hSw); go_simp; try with_reducible rfl)
          (try simp only [Act.put, List.setIfInBounds_toArray, List.set_cons_zero, List.set_cons_succ])
          refine Za.takeL 7 (v := ?vq7) rfl (by kernel_rfl) (by kernel_rfl) (by kernel_rfl) (by kernel_rfl) (fun _ _ _ h => h) (Or.inl ⟨by rfl, ?hyq7⟩) HS ?restq7
          case hyq7 => (intro w hSw; (try dsimp only at hSw); go_simp; try with_reducible rfl)
          (try simp only [Act.put, List.setIfInBounds_toArray, List.set_cons_zero, List.set_cons_succ])
          refine Za.takeL 8 (v := ?vq8) rfl (by kernel_rfl) (by kernel_rfl) (by kernel_rfl) (by kernel_rfl) (fun _ _ _ h => h) (Or.inl ⟨by rfl, ?hyq8⟩) HS ?restq8
          case hyq8 => (intro w hSw; (try dsimp only at hSw); go_simp; try with_reducible rfl)
          (try simp only [Act.put, List.setIfInBounds_toArray, List.set_cons_zero, List.set_cons_succ])
          refine Za.takeL 9 (v := ?vq9) rfl (by kernel_rfl) (by kernel_rfl) (by kernel_rfl) (by kernel_rfl) (fun _ _ _ h => h) (Or.inl ⟨by rfl, ?hyq9⟩) HS ?restq9
          case hyq9 => (intro w hSw; (try dsimp only at hSw); go_simp; try with_reducible rfl)
          (try simp only [Act.put, List.setIfInBounds_toArray, List.set_cons_zero, List.set_cons_succ])
          refine Za.takeL 10 (v := ?vq10) rfl (by kernel_rfl) (by kernel_rfl) (by kernel_rfl) (by kernel_rfl) (fun _ _ _ h => h) (Or.inl ⟨by rfl, ?hyq10⟩) HS ?restq10
          case hyq10 => (intro w hSw; (try dsimp only at hSw); go_simp; try with_reducible rfl)
          (try simp only [Act.put, List.setIfInBounds_toArray, List.set_cons_zero, List.set_cons_succ])
          refine Za.takeL 11 (v := ?vq11) rfl (by kernel_rfl) (by kernel_rfl) (by kernel_rfl) (by kernel_rfl) (fun _ _ _ h => h) (Or.inl ⟨by rfl, ?hyq11⟩) HS ?restq11
          case hyq11 => (intro w hSw; (try dsimp only at hSw); go_simp; try with_reducible rfl)
          (try simp only [Act.put, List.setIfInBounds_toArray, List.set_cons_zero, List.set_cons_succ])
          refine Za.takeL 12 (v := ?vq12) rfl (by kernel_rfl) (by kernel_rfl) (by kernel_rfl) (by kernel_rfl) (fun _ _ _ h => h) (Or.inl ⟨by rfl, ?hyq12⟩) HS ?restq12
          case hyq12 => (intro w hSw; (try dsimp only at hSw); go_simp; try with_reducible rfl)
          (try simp only [Act.put, List.setIfInBounds_toArray, List.set_cons_zero, List.set_cons_succ])
          clear HS
          refine Za.nextL 13 (by kernel_rfl) rfl (fun K' hK => ?_)
          go_simp
          refine hK.out _ _ ⟨fun _ => F.out _ HD2.out, ?_⟩
          clear hK K'
          (try simp only [Act.put, List.setIfInBounds_toArray, List.set_cons_zero, List.set_cons_succ])
          have g1' := blk_below BG1.out HD2.out
          have s0 := (blk_cell g1' 0).trans rfl
          have s1 := (blk_cell g1' 1).trans rfl
          have s2 := (blk_cell g1' 2).trans rfl
          have s3 := (blk_cell g1' 3).trans rfl
          have t0 := blk_frozen g1' 0
          have t1 := blk_frozen g1' 1
          have t2 := blk_frozen g1' 2
          have t3 := blk_frozen g1' 3
          refine Za.nextL 14 (by kernel_rfl) rfl (fun K' hK => ?_)
          go_simp
          refine hK.out _ _ ⟨fun h => absurd (by simp) h, ?_⟩
          clear hK K'
          (try simp only [Act.put, List.setIfInBounds_toArray, List.set_cons_zero, List.set_cons_succ])
          refine Za.Walk.done (by kernel_rfl) ?_
          go_wp2
          refine bodyPost_ret (results_cell_row rfl _ _ (w.heap.size + 1) 29 #[.int .i64 7, .int .i64 0, .int .i64 (f2 + y.f2), .slice Ay y.f3.length cy] (0, 0) _ rfl (set4_blk _ _ _ _ g1') Tryd.underlying29 rfl (by kernel_rfl)) rfl ?_
          rw [← HLE.out, HT.out]
          exact fin_out (x := .mk 7 0 (f2 + y.f2) y.f3) (below_then HB4.out HB4.out.size HD2.out) (Kd.R_mono (Kd.R_below HGY.out HD2.out) (fun _ _ => trivial)) (by omega)
        · have ds : decide (f2 + y.f2 ≤ 20) = false := decide_eq_false hs
          have HT := Aside0.mk (HTOPN.out H2.out (fun h => hs h.2.2))
          clear hy hs
          refine Za.regionL (fun w' => (w'.cell? ⟨w.heap.size, 0, none⟩ = some (.int .i64 f0) ∧ w'.cell? ⟨w.heap.size, 1, none⟩ = some (.int .i64 f1) ∧ w'.cell? ⟨w.heap.size, 2, none⟩ = some (.int .i64 f2) ∧ w'.cell? ⟨w.heap.size, 3, none⟩ = some (.slice (some ⟨g, 0, none⟩) 1 c3)) ∧ (w'.cell? ⟨g, 0, none⟩ = some (.int .i64 y.f0) ∧ w'.cell? ⟨g, 1, none⟩ = some (.int .i64 y.f1) ∧ w'.cell? ⟨g, 2, none⟩ = some (.int .i64 y.f2) ∧ w'.cell? ⟨g, 3, none⟩ = some (.slice Ay y.f3.length cy))) [] (by kernel_rfl) ?_
          generalize W4.drew = wd at HD ⊢
          have HS : (fun w' => (w'.cell? ⟨w.heap.size, 0, none⟩ = some (.int .i64 f0) ∧ w'.cell? ⟨w.heap.size, 1, none⟩ = some (.int .i64 f1) ∧ w'.cell? ⟨w.heap.size, 2, none⟩ = some (.int .i64 f2) ∧ w'.cell? ⟨w.heap.size, 3, none⟩ = some (.slice (some ⟨g, 0, none⟩) 1 c3)) ∧ (w'.cell? ⟨g, 0, none⟩ = some (.int .i64 y.f0) ∧ w'.cell? ⟨g, 1, none⟩ = some (.int .i64 y.f1) ∧ w'.cell? ⟨g, 2, none⟩ = some (.int .i64 y.f2) ∧ w'.cell? ⟨g, 3, none⟩ = some (.slice Ay y.f3.length cy))) wd := F.out _ HD.out
          refine Za.takeL 0 (v := ?vc0) rfl (by kernel_rfl) (by kernel_rfl) (by kernel_rfl) (by kernel_rfl) (fun _ _ _ h => h) (Or.inl ⟨by rfl, ?hyc0⟩) HS ?restc0
          case hyc0 => (intro w hSw; (try dsimp only at hSw); go_simp; try with_reducible rfl)
          (try simp only [Act.put, List.setIfInBounds_toArray, List.set_cons_zero, List.set_cons_succ])
          refine Za.takeL 1 (v := ?vc1) rfl (by kernel_rfl) (by kernel_rfl) (by kernel_rfl) (by kernel_rfl) (fun _ _ _ h => h) (Or.inl ⟨by rfl, ?hyc1⟩) HS ?restc1
          case hyc1 => (intro w hSw; (try dsimp only at hSw); go_simp; try with_reducible rfl)
          (try simp only [Act.put, List.setIfInBounds_toArray, List.set_cons_zero, List.set_cons_succ])
          refine Za.takeL 2 (v := ?vc2) rfl (by kernel_rfl) (by kernel_rfl) (by kernel_rfl) (by kernel_rfl) (fun _ _ _ h => h) (Or.inl ⟨by rfl, ?hyc2⟩) HS ?restc2
          case hyc2 => (intro w hSw; (try dsimp only at hSw); go_simp; try with_reducible rfl)
          (try simp only [Act.put, List.setIfInBounds_toArray, List.set_cons_zero, List.set_cons_succ])
          refine Za.takeL 3 (v := ?vc3) rfl (by kernel_rfl) (by kernel_rfl) (by kernel_rfl) (by kernel_rfl) (fun _ _ _ h => h) (Or.inl ⟨by rfl, ?hyc3⟩) HS ?restc3
          case hyc3 => (intro w hSw; (try dsimp only at hSw); go_simp; try with_reducible rfl)
          (try simp only [Act.put, List.setIfInBounds_toArray, List.set_cons_zero, List.set_cons_succ])
          refine Za.takeL 4 (v := ?vc4) rfl (by kernel_rfl) (by kernel_rfl) (by kernel_rfl) (by kernel_rfl) (fun _ _ _ h => h) (Or.inl ⟨by rfl, ?hyc4⟩) HS ?restc4
          case hyc4 => (intro w hSw; (try dsimp only at hSw); go_simp; try with_reducible rfl)
          (try simp only [Act.put, List.setIfInBounds_toArray, List.set_cons_zero, List.set_cons_succ])
          refine Za.takeL 5 (v := ?vc5) rfl (by kernel_rfl) (by kernel_rfl) (by kernel_rfl) (by kernel_rfl) (fun _ _ _ h => h) (Or.inl ⟨by rfl, ?hyc5⟩) HS ?restc5
          case hyc5 => (intro w hSw; (try dsimp only at hSw); go_simp; try with_reducible rfl)
          (try simp only [Act.put, List.setIfInBounds_toArray, List.set_cons_zero, List.set_cons_succ])
          refine Za.takeL 6 (v := ?vc6) rfl (by kernel_rfl) (by kernel_rfl) (by kernel_rfl) (by kernel_rfl) (fun _ _ _ h => h) (Or.inl ⟨by rfl, ?hyc6⟩) HS ?restc6
          case hyc6 => (intro w hSw; (try dsimp only at hSw); go_simp; try with_reducible rfl)
          (try simp only [Act.put, List.setIfInBounds_toArray, List.set_cons_zero, List.set_cons_succ])
          refine Za.takeL 7 (v := ?vc7) rfl (by kernel_rfl) (by kernel_rfl) (by kernel_rfl) (by kernel_rfl) (fun _ _ _ h => h) (Or.inl ⟨by rfl, ?hyc7⟩) HS ?restc7
          case hyc7 => (intro w hSw; (try dsimp only at hSw); go_simp; try with_reducible rfl)
          (try simp only [Act.put, List.setIfInBounds_toArray, List.set_cons_zero, List.set_cons_succ])
          refine Za.takeL 8 (v := ?vc8) rfl (by kernel_rfl) (by kernel_rfl) (by kernel_rfl) (by kernel_rfl) (fun _ _ _ h => h) (Or.inl ⟨by rfl, ?hyc8⟩) HS ?restc8
          case hyc8 => (intro w hSw; (try dsimp only at hSw); go_simp; try with_reducible rfl)
          (try simp only [Act.put, List.setIfInBounds_toArray, List.set_cons_zero, List.set_cons_succ])
          refine Za.takeL 9 (v := ?vc9) rfl (by kernel_rfl) (by kernel_rfl) (by kernel_rfl) (by kernel_rfl) (fun _ _ _ h => h) (Or.inl ⟨by rfl, ?hyc9⟩) HS ?restc9
          case hyc9 => (intro w hSw; (try dsimp only at hSw); go_simp; try with_reducible rfl)
          (try simp only [Act.put, List.setIfInBounds_toArray, List.set_cons_zero, List.set_cons_succ])
          refine Za.takeL 10 (v := ?vc10) rfl (by kernel_rfl) (by kernel_rfl) (by kernel_rfl) (by kernel_rfl) (fun _ _ _ h => h) (Or.inl ⟨by rfl, ?hyc10⟩) HS ?restc10
          case hyc10 => (intro w hSw; (try dsimp only at hSw); go_simp; try with_reducible rfl)
          (try simp only [Act.put, List.setIfInBounds_toArray, List.set_cons_zero, List.set_cons_succ])
          refine Za.takeL 11 (v := ?vc11) rfl (by kernel_rfl) (by kernel_rfl) (by kernel_rfl) (by kernel_rfl) (fun _ _ _ h => h) (Or.inl ⟨by rfl, ?hyc11⟩) HS ?restc11
          case hyc11 => (intro w hSw; (try dsimp only at hSw); go_simp; try with_reducible rfl)
          (try simp only [Act.put, List.setIfInBounds_toArray, List.set_cons_zero, List.set_cons_succ])
          refine Za.takeL 12 (v := ?vc12) rfl (by kernel_rfl) (by kernel_rfl) (by kernel_rfl) (by kernel_rfl) (fun _ _ _ h => h) (Or.inl ⟨by rfl, ?hyc12⟩) HS ?restc12
          case hyc12 => (intro w hSw; (try dsimp only at hSw); go_simp; try with_reducible rfl)
          (try simp only [Act.put, List.setIfInBounds_toArray, List.set_cons_zero, List.set_cons_succ])
          refine Za.takeL 13 (v := ?vc13) rfl (by kernel_rfl) (by kernel_rfl) (by kernel_rfl) (by kernel_rfl) (fun _ _ _ h => h) (Or.inl ⟨by rfl, ?hyc13⟩) HS ?restc13
          case hyc13 => (intro w hSw; (try dsimp only at hSw); go_simp; try with_reducible rfl)
          (try simp only [Act.put, List.setIfInBounds_toArray, List.set_cons_zero, List.set_cons_succ])
          refine Za.takeL 14 (v := ?vc14) rfl (by kernel_rfl) (by kernel_rfl) (by kernel_rfl) (by kernel_rfl) (fun _ _ _ h => h) (Or.inl ⟨by rfl, ?hyc14⟩) HS ?restc14
          case hyc14 => (intro w hSw; (try dsimp only at hSw); go_simp; try with_reducible rfl)
          (try simp only [Act.put, List.setIfInBounds_toArray, List.set_cons_zero, List.set_cons_succ])
          refine Za.takeL 15 (v := ?vc15) rfl (by kernel_rfl) (by kernel_rfl) (by kernel_rfl) (by kernel_rfl) (fun _ _ _ h => h) (Or.inl ⟨by rfl, ?hyc15⟩) HS ?restc15
          case hyc15 => (intro w hSw; (try dsimp only at hSw); go_simp; try with_reducible rfl)
          (try simp only [Act.put, List.setIfInBounds_toArray, List.set_cons_zero, List.set_cons_succ])
          refine Za.takeL 16 (v := ?vc16) rfl (by kernel_rfl) (by kernel_rfl) (by kernel_rfl) (by kernel_rfl) (fun _ _ _ h => h) (Or.inl ⟨by rfl, ?hyc16⟩) HS ?restc16
          case hyc16 => (intro w hSw; (try dsimp only at hSw); go_simp; try with_reducible rfl)
          (try simp only [Act.put, List.setIfInBounds_toArray, List.set_cons_zero, List.set_cons_succ])
          refine Za.takeL 17 (v := ?vc17) rfl (by kernel_rfl) (by kernel_rfl) (by kernel_rfl) (by kernel_rfl) (fun _ _ _ h => h) (Or.inl ⟨by rfl, ?hyc17⟩) HS ?restc17
          case hyc17 => (intro w hSw; (try dsimp only at hSw); go_simp; try with_reducible rfl)
          (try simp only [Act.put, List.setIfInBounds_toArray, List.set_cons_zero, List.set_cons_succ])
          refine Za.takeL 18 (v := ?vc18) rfl (by kernel_rfl) (by kernel_rfl) (by kernel_rfl) (by kernel_rfl) (fun _ _ _ h => h) (Or.inl ⟨by rfl, ?hyc18⟩) HS ?restc18
          case hyc18 => (intro w hSw; (try dsimp only at hSw); go_simp; try with_reducible rfl)
          (try simp only [Act.put, List.setIfInBounds_toArray, List.set_cons_zero, List.set_cons_succ])
          refine Za.takeL 19 (v := ?vc19) rfl (by kernel_rfl) (by kernel_rfl) (by kernel_rfl) (by kernel_rfl) (fun _ _ _ h => h) (Or.inl ⟨by rfl, ?hyc19⟩) HS ?restc19
          case hyc19 => (intro w hSw; (try dsimp only at hSw); go_simp; try with_reducible rfl)
          (try simp only [Act.put, List.setIfInBounds_toArray, List.set_cons_zero, List.set_cons_succ])
          refine Za.takeL 20 (v := ?vc20) rfl (by kernel_rfl) (by kernel_rfl) (by kernel_rfl) (by kernel_rfl) (fun _ _ _ h => h) (Or.inl ⟨by rfl, ?hyc20⟩) HS ?restc20
          case hyc20 => (intro w hSw; (try dsimp only at hSw); go_simp; try with_reducible rfl)
          (try simp only [Act.put, List.setIfInBounds_toArray, List.set_cons_zero, List.set_cons_succ])
          refine Za.takeL 21 (v := ?vc21) rfl (by kernel_rfl) (by kernel_rfl) (by kernel_rfl) (by kernel_rfl) (fun _ _ _ h => h) (Or.inl ⟨by rfl, ?hyc21⟩) HS ?restc21
          case hyc21 => (intro w hSw; (try dsimp only at hSw); go_simp; try with_reducible rfl)
          (try simp only [Act.put, List.setIfInBounds_toArray, List.set_cons_zero, List.set_cons_succ])
          clear HS
          refine Za.nextL 22 (by kernel_rfl) rfl (fun K' hK => ?_)
          go_simp
          refine hK.out _ _ ⟨fun _ => F.out _ HD.out, ?_⟩
          clear hK K'
          (try simp only [Act.put, List.setIfInBounds_toArray, List.set_cons_zero, List.set_cons_succ])
          refine Za.Walk.done (by kernel_rfl) ?_
          have g1' := blk_below BG1.out HD.out
          have g2' := blk_below BG2.out HD.out
          have r0 := (blk_cell g2' 0).trans rfl
          have r1 := (blk_cell g2' 1).trans rfl
          have r2 := (blk_cell g2' 2).trans rfl
          have r3 := (blk_cell g2' 3).trans rfl
          have s0 := (blk_cell g1' 0).trans rfl
          have s1 := (blk_cell g1' 1).trans rfl
          have s2 := (blk_cell g1' 2).trans rfl
          have s3 := (blk_cell g1' 3).trans rfl
          have t0 := blk_frozen g1' 0
          have t1 := blk_frozen g1' 1
          have t2 := blk_frozen g1' 2
          have t3 := blk_frozen g1' 3
          go_wp2
          refine bodyPost_ret (results_cell_row rfl _ _ (w.heap.size + 1) 29 #[.int .i64 f0, .int .i64 f1, .int .i64 f2, .slice (some ⟨g, 0, none⟩) 1 c3] (0, 0) _ rfl (set4_blk _ _ _ _ g1') Tryd.underlying29 rfl (by kernel_rfl)) rfl ?_
          rw [← HLE.out, HT.out]
          have hfin := fin_out (x := .mk f0 f1 f2 LL) (below_then HB4.out HB4.out.size HD.out) (Kd.R_below HR4.out HD.out) (by omega)
          rw [HL1.out] at hfin
          exact hfin
      · have d7 : (y.f0 == 7) = false := by simp [hy]
        have HT := Aside0.mk (HTOPN.out H2.out (fun h => hy h.2.1))
        clear hy
        refine Za.regionL (fun w' => (w'.cell? ⟨w.heap.size, 0, none⟩ = some (.int .i64 f0) ∧ w'.cell? ⟨w.heap.size, 1, none⟩ = some (.int .i64 f1) ∧ w'.cell? ⟨w.heap.size, 2, none⟩ = some (.int .i64 f2) ∧ w'.cell? ⟨w.heap.size, 3, none⟩ = some (.slice (some ⟨g, 0, none⟩) 1 c3)) ∧ (w'.cell? ⟨g, 0, none⟩ = some (.int .i64 y.f0) ∧ w'.cell? ⟨g, 1, none⟩ = some (.int .i64 y.f1) ∧ w'.cell? ⟨g, 2, none⟩ = some (.int .i64 y.f2) ∧ w'.cell? ⟨g, 3, none⟩ = some (.slice Ay y.f3.length cy))) [] (by kernel_rfl) ?_
        generalize W4.drew = wd at HD ⊢
        have HS : (fun w' => (w'.cell? ⟨w.heap.size, 0, none⟩ = some (.int .i64 f0) ∧ w'.cell? ⟨w.heap.size, 1, none⟩ = some (.int .i64 f1) ∧ w'.cell? ⟨w.heap.size, 2, none⟩ = some (.int .i64 f2) ∧ w'.cell? ⟨w.heap.size, 3, none⟩ = some (.slice (some ⟨g, 0, none⟩) 1 c3)) ∧ (w'.cell? ⟨g, 0, none⟩ = some (.int .i64 y.f0) ∧ w'.cell? ⟨g, 1, none⟩ = some (.int .i64 y.f1) ∧ w'.cell? ⟨g, 2, none⟩ = some (.int .i64 y.f2) ∧ w'.cell? ⟨g, 3, none⟩ = some (.slice Ay y.f3.length cy))) wd := F.out _ HD.out
        refine Za.takeL 0 (v := ?vd0) rfl (by kernel_rfl) (by kernel_rfl) (by kernel_rfl) (by kernel_rfl) (fun _ _ _ h => h) (Or.inl ⟨by rfl, ?hyd0⟩) HS ?restd0
        case hyd0 => (intro w hSw; (try dsimp only at hSw); go_simp; try with_reducible rfl)
        (try simp only [Act.put, List.setIfInBounds_toArray, List.set_cons_zero, List.set_cons_succ])
        refine Za.takeL 1 (v := ?vd1) rfl (by kernel_rfl) (by kernel_rfl) (by kernel_rfl) (by kernel_rfl) (fun _ _ _ h => h) (Or.inl ⟨by rfl, ?hyd1⟩) HS ?restd1
        case hyd1 => (intro w hSw; (try dsimp only at hSw); go_simp; try with_reducible rfl)
        (try simp only [Act.put, List.setIfInBounds_toArray, List.set_cons_zero, List.set_cons_succ])
        refine Za.takeL 2 (v := ?vd2) rfl (by kernel_rfl) (by kernel_rfl) (by kernel_rfl) (by kernel_rfl) (fun _ _ _ h => h) (Or.inl ⟨by rfl, ?hyd2⟩) HS ?restd2
        case hyd2 => (intro w hSw; (try dsimp only at hSw); go_simp; try with_reducible rfl)
        (try simp only [Act.put, List.setIfInBounds_toArray, List.set_cons_zero, List.set_cons_succ])
        refine Za.takeL 3 (v := ?vd3) rfl (by kernel_rfl) (by kernel_rfl) (by kernel_rfl) (by kernel_rfl) (fun _ _ _ h => h) (Or.inl ⟨by rfl, ?hyd3⟩) HS ?restd3
        case hyd3 => (intro w hSw; (try dsimp only at hSw); go_simp; try with_reducible rfl)
        (try simp only [Act.put, List.setIfInBounds_toArray, List.set_cons_zero, List.set_cons_succ])
        refine Za.takeL 4 (v := ?vd4) rfl (by kernel_rfl) (by kernel_rfl) (by kernel_rfl) (by kernel_rfl) (fun _ _ _ h => h) (Or.inl ⟨by rfl, ?hyd4⟩) HS ?restd4
        case hyd4 => (intro w hSw; (try dsimp only at hSw); go_simp; try with_reducible rfl)
        (try simp only [Act.put, List.setIfInBounds_toArray, List.set_cons_zero, List.set_cons_succ])
        refine Za.takeL 5 (v := ?vd5) rfl (by kernel_rfl) (by kernel_rfl) (by kernel_rfl) (by kernel_rfl) (fun _ _ _ h => h) (Or.inl ⟨by rfl, ?hyd5⟩) HS ?restd5
        case hyd5 => (intro w hSw; (try dsimp only at hSw); go_simp; try with_reducible rfl)
        (try simp only [Act.put, List.setIfInBounds_toArray, List.set_cons_zero, List.set_cons_succ])
        refine Za.takeL 6 (v := ?vd6) rfl (by kernel_rfl) (by kernel_rfl) (by kernel_rfl) (by kernel_rfl) (fun _ _ _ h => h) (Or.inl ⟨by rfl, ?hyd6⟩) HS ?restd6
        case hyd6 => (intro w hSw; (try dsimp only at hSw); go_simp; try with_reducible rfl)
        (try simp only [Act.put, List.setIfInBounds_toArray, List.set_cons_zero, List.set_cons_succ])
        refine Za.takeL 7 (v := ?vd7) rfl (by kernel_rfl) (by kernel_rfl) (by kernel_rfl) (by kernel_rfl) (fun _ _ _ h => h) (Or.inl ⟨by rfl, ?hyd7⟩) HS ?restd7
        case hyd7 => (intro w hSw; (try dsimp only at hSw); go_simp; try with_reducible rfl)
        (try simp only [Act.put, List.setIfInBounds_toArray, List.set_cons_zero, List.set_cons_succ])
        refine Za.takeL 8 (v := ?vd8) rfl (by kernel_rfl) (by kernel_rfl) (by kernel_rfl) (by kernel_rfl) (fun _ _ _ h => h) (Or.inl ⟨by rfl, ?hyd8⟩) HS ?restd8
        case hyd8 => (intro w hSw; (try dsimp only at hSw); go_simp; try with_reducible rfl)
        (try simp only [Act.put, List.setIfInBounds_toArray, List.set_cons_zero, List.set_cons_succ])
        refine Za.takeL 9 (v := ?vd9) rfl (by kernel_rfl) (by kernel_rfl) (by kernel_rfl) (by kernel_rfl) (fun _ _ _ h => h) (Or.inl ⟨by rfl, ?hyd9⟩) HS ?restd9
        case hyd9 => (intro w hSw; (try dsimp only at hSw); go_simp; try with_reducible rfl)
        (try simp only [Act.put, List.setIfInBounds_toArray, List.set_cons_zero, List.set_cons_succ])
        refine Za.takeL 10 (v := ?vd10) rfl (by kernel_rfl) (by kernel_rfl) (by kernel_rfl) (by kernel_rfl) (fun _ _ _ h => h) (Or.inl ⟨by rfl, ?hyd10⟩) HS ?restd10
        case hyd10 => (intro w hSw; (try dsimp only at hSw); go_simp; try with_reducible rfl)
        (try simp only [Act.put, List.setIfInBounds_toArray, List.set_cons_zero, List.set_cons_succ])
        refine Za.takeL 11 (v := ?vd11) rfl (by kernel_rfl) (by kernel_rfl) (by kernel_rfl) (by kernel_rfl) (fun _ _ _ h => h) (Or.inl ⟨by rfl, ?hyd11⟩) HS ?restd11
        case hyd11 => (intro w hSw; (try dsimp only at hSw); go_simp; try with_reducible rfl)
        (try simp only [Act.put, List.setIfInBounds_toArray, List.set_cons_zero, List.set_cons_succ])
        refine Za.takeL 12 (v := undef) rfl (by kernel_rfl) (by kernel_rfl) (by kernel_rfl) (by kernel_rfl) (fun _ _ _ h => h) (Or.inr ⟨by rfl, rfl⟩) HS ?restd12
        (try simp only [Act.put, List.setIfInBounds_toArray, List.set_cons_zero, List.set_cons_succ])
        refine Za.takeL 13 (v := undef) rfl (by kernel_rfl) (by kernel_rfl) (by kernel_rfl) (by kernel_rfl) (fun _ _ _ h => h) (Or.inr ⟨by rfl, rfl⟩) HS ?restd13
        (try simp only [Act.put, List.setIfInBounds_toArray, List.set_cons_zero, List.set_cons_succ])
        refine Za.takeL 14 (v := undef) rfl (by kernel_rfl) (by kernel_rfl) (by kernel_rfl) (by kernel_rfl) (fun _ _ _ h => h) (Or.inr ⟨by rfl, rfl⟩) HS ?restd14
        (try simp only [Act.put, List.setIfInBounds_toArray, List.set_cons_zero, List.set_cons_succ])
        refine Za.takeL 15 (v := undef) rfl (by kernel_rfl) (by kernel_rfl) (by kernel_rfl) (by kernel_rfl) (fun _ _ _ h => h) (Or.inr ⟨by rfl, rfl⟩) HS ?restd15
        (try simp only [Act.put, List.setIfInBounds_toArray, List.set_cons_zero, List.set_cons_succ])
        refine Za.takeL 16 (v := undef) rfl (by kernel_rfl) (by kernel_rfl) (by kernel_rfl) (by kernel_rfl) (fun _ _ _ h => h) (Or.inr ⟨by rfl, rfl⟩) HS ?restd16
        (try simp only [Act.put, List.setIfInBounds_toArray, List.set_cons_zero, List.set_cons_succ])
        refine Za.takeL 17 (v := undef) rfl (by kernel_rfl) (by kernel_rfl) (by kernel_rfl) (by kernel_rfl) (fun _ _ _ h => h) (Or.inr ⟨by rfl, rfl⟩) HS ?restd17
        (try simp only [Act.put, List.setIfInBounds_toArray, List.set_cons_zero, List.set_cons_succ])
        refine Za.takeL 18 (v := undef) rfl (by kernel_rfl) (by kernel_rfl) (by kernel_rfl) (by kernel_rfl) (fun _ _ _ h => h) (Or.inr ⟨by rfl, rfl⟩) HS ?restd18
        (try simp only [Act.put, List.setIfInBounds_toArray, List.set_cons_zero, List.set_cons_succ])
        refine Za.takeL 19 (v := undef) rfl (by kernel_rfl) (by kernel_rfl) (by kernel_rfl) (by kernel_rfl) (fun _ _ _ h => h) (Or.inr ⟨by rfl, rfl⟩) HS ?restd19
        (try simp only [Act.put, List.setIfInBounds_toArray, List.set_cons_zero, List.set_cons_succ])
        refine Za.takeL 20 (v := undef) rfl (by kernel_rfl) (by kernel_rfl) (by kernel_rfl) (by kernel_rfl) (fun _ _ _ h => h) (Or.inr ⟨by rfl, rfl⟩) HS ?restd20
        (try simp only [Act.put, List.setIfInBounds_toArray, List.set_cons_zero, List.set_cons_succ])
        refine Za.takeL 21 (v := ?vd21) rfl (by kernel_rfl) (by kernel_rfl) (by kernel_rfl) (by kernel_rfl) (fun _ _ _ h => h) (Or.inl ⟨by rfl, ?hyd21⟩) HS ?restd21
        case hyd21 => (intro w hSw; (try dsimp only at hSw); go_simp; try with_reducible rfl)
        (try simp only [Act.put, List.setIfInBounds_toArray, List.set_cons_zero, List.set_cons_succ])
        clear HS
        refine Za.nextL 22 (by kernel_rfl) rfl (fun K' hK => ?_)
        go_simp
        refine hK.out _ _ ⟨fun _ => F.out _ HD.out, ?_⟩
        clear hK K'
        (try simp only [Act.put, List.setIfInBounds_toArray, List.set_cons_zero, List.set_cons_succ])
        refine Za.Walk.done (by kernel_rfl) ?_
        have g1' := blk_below BG1.out HD.out
        have g2' := blk_below BG2.out HD.out
        have r0 := (blk_cell g2' 0).trans rfl
        have r1 := (blk_cell g2' 1).trans rfl
        have r2 := (blk_cell g2' 2).trans rfl
        have r3 := (blk_cell g2' 3).trans rfl
        have s0 := (blk_cell g1' 0).trans rfl
        have s1 := (blk_cell g1' 1).trans rfl
        have s2 := (blk_cell g1' 2).trans rfl
        have s3 := (blk_cell g1' 3).trans rfl
        have t0 := blk_frozen g1' 0
        have t1 := blk_frozen g1' 1
        have t2 := blk_frozen g1' 2
        have t3 := blk_frozen g1' 3
        go_wp2
        refine bodyPost_ret (results_cell_row rfl _ _ (w.heap.size + 1) 29 #[.int .i64 f0, .int .i64 f1, .int .i64 f2, .slice (some ⟨g, 0, none⟩) 1 c3] (0, 0) _ rfl (set4_blk _ _ _ _ g1') Tryd.underlying29 rfl (by kernel_rfl)) rfl ?_
        rw [← HLE.out, HT.out]
        have hfin := fin_out (x := .mk f0 f1 f2 LL) (below_then HB4.out HB4.out.size HD.out) (Kd.R_below HR4.out HD.out) (by omega)
        rw [HL1.out] at hfin
        exact hfin
theorem slim_any (x : Ex) (hf : formB x = true) (hc : cntL x.f3 ≤ 1000) : SlimCallI x := fun A c w hWd hL => by
  obtain ⟨p, pl⟩ := form_head hf
  rw [slX_eq]
  exact slim_of x.f0 x.f1 x.f2 A c x.f3 w (form_mk (by rw [slL_length]; exact p) (slL_form _ pl)) (Nat.le_trans (slL_tot _ pl) hc) (by have := len_le_cnt x.f3; omega) hWd hL (fun y hy =>
    have := cnt_mem hy
    slim_any y (by rw [formL_all, List.all_eq_true] at pl; exact pl y hy) (by omega))
termination_by cntL x.f3
end Go.Proofs.YtbbdkhffacoglaaDoor.Nv
