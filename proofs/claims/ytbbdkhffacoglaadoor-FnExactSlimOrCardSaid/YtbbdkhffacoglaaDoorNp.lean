
/- SlimOr: the reference's. -/
import Derived.Test.YtbbdkhffacoglaaDoorNm
import Derived.Test.YtbbdkhffacoglaaDoorNo
import Derived.Test.YtbbdkhffacoglaaDoorJj
import Derived.Test.YtbbdkhffacoglaaDoorJk
set_option linter.unusedVariables false
set_option linter.unusedSimpArgs false
namespace Go.Proofs.YtbbdkhffacoglaaDoor.Np
open Go.RowKit Go.Proofs.YtbbdkhffacoglaaDoorW.PrintWords Go.Proofs.YtbbdkhffacoglaaDoor.Ja Go.Proofs.YtbbdkhffacoglaaDoor.Jb Go.Proofs.YtbbdkhffacoglaaDoor.Jc Go.Proofs.YtbbdkhffacoglaaDoor.Jd Go.Proofs.YtbbdkhffacoglaaDoor.Jg Go.Proofs.YtbbdkhffacoglaaDoor.Ji Go.Proofs.YtbbdkhffacoglaaDoor.Jj Go.Proofs.YtbbdkhffacoglaaDoor.Jk Go.Proofs.YtbbdkhffacoglaaDoor.Ka Go.Proofs.YtbbdkhffacoglaaDoor.Kf Go.Proofs.YtbbdkhffacoglaaDoor.Na Go.Proofs.YtbbdkhffacoglaaDoor.Nb Go.Proofs.YtbbdkhffacoglaaDoor.Nc Go.Proofs.YtbbdkhffacoglaaDoor.Nd Go.Proofs.YtbbdkhffacoglaaDoor.Ne Go.Proofs.YtbbdkhffacoglaaDoor.Nf Go.Proofs.YtbbdkhffacoglaaDoor.Ng Go.Proofs.YtbbdkhffacoglaaDoor.Nh Go.Proofs.YtbbdkhffacoglaaDoor.Ni Go.Proofs.YtbbdkhffacoglaaDoor.Nj Go.Proofs.YtbbdkhffacoglaaDoor.Nk Go.Proofs.YtbbdkhffacoglaaDoor.Nl Go.Proofs.YtbbdkhffacoglaaDoor.Nm Go.Proofs.YtbbdkhffacoglaaDoor.Nn Go.Proofs.YtbbdkhffacoglaaDoor.No

theorem S_empty {α : Type} {d : Kd α} {e : Nat} {w : World} {base g : Nat} {ok : Nat → Prop} (hg : w.heap[g]? = some (.cells #[] e (0, 0))) (hb : base ≤ g) (hok : ok g) : Kd.S d e w base ok (.slice (some ⟨g, 0, none⟩) 0 0) [] := ⟨fun _ => 0, R_empty2 hg hb hok⟩
set_option maxHeartbeats 2000000 in
set_option maxRecDepth 100000 in
theorem sSlimOr_any (x : Ex) (A : Option Addr) (c : Nat) (w : World) (hc : cntL x.f3 ≤ 1048576) (hL : IsEL 29 w x.f3 A c) :
    Calls Tryd.prog 8 #[X x.f0 x.f1 x.f2 A x.f3.length c] w fun e w' => ToOutL w w' (orsX x) e := by
  have hb0 := below_alloc (Below.refl w.heap.size w) (.cells #[.int .i64 x.f0, .int .i64 x.f1, .int .i64 x.f2, .slice A x.f3.length c] 29)
  have bX := blk_new w (.cells #[.int .i64 x.f0, .int .i64 x.f1, .int .i64 x.f2, .slice A x.f3.length c] 29)
  obtain ⟨W, hW⟩ : ∃ W, W = w.alloc (.cells #[.int .i64 x.f0, .int .i64 x.f1, .int .i64 x.f2, .slice A x.f3.length c] 29) := ⟨_, rfl⟩
  rw [← hW] at hb0 bX
  have HW := Aside0.mk hW
  have HX := Aside0.mk hb0
  have HL := Aside0.mk (hL.below hb0)
  have hba := below_alloc (Below.refl W.heap.size W) (.cells #[] 29)
  have bE := blk_new W (.cells #[] 29)
  have bXe := blk_below bX hba
  obtain ⟨We, hWe⟩ : ∃ We, We = W.alloc (.cells #[] 29) := ⟨_, rfl⟩
  have hsz : We.heap.size = W.heap.size + 1 := by rw [hWe]; simp
  have p0 := (blk_cell bX 0).trans rfl
  have p1 := (blk_cell bX 1).trans rfl
  have p2 := (blk_cell bX 2).trans rfl
  have p3 := (blk_cell bX 3).trans rfl
  rw [← hWe] at hba bE bXe
  have q0 := (blk_cell bXe 0).trans rfl
  have q1 := (blk_cell bXe 1).trans rfl
  have q2 := (blk_cell bXe 2).trans rfl
  have q3 := (blk_cell bXe 3).trans rfl
  have HWE := Aside0.mk hWe
  have HSZ := Aside0.mk hsz
  have HBE := Aside0.mk hba
  have BE := Aside0.mk bE
  have HLE := Aside0.mk (HL.out.below hba)
  clear hW hb0 hL bX hWe hsz hba bE bXe
  cases hk : okE x with
  | false =>
    have HO : Aside0 (orsX x = []) := ⟨by unfold orsX; rw [hk]; rfl⟩
    have HK := Aside0.mk hk
    clear hk
    go_enter Tryd.func8, Tryd.ntmps8
    go_upto_region 1 with fail
    rw [← HW.out]
    clear p0 p1 p2 p3
    go_upto_region 2 with fail
    rw [← HWE.out]
    go_wp2_with (go_at_call 31; refine (sExOk_any x A c _ hc HLE.out).mono ?_; rintro e w2 ⟨rfl, hb2⟩; rw [HK.out]; have HB2 := Aside0.mk hb2; clear hb2)
    go_ret
    exact ⟨_, rfl, by rw [HO.out]; exact S_empty (blk_below BE.out HB2.out) HX.out.size trivial, below_then HX.out HX.out.size (below_then HBE.out HBE.out.size HB2.out)⟩
  | true =>
  have HO : Aside0 (orsX x = orX x []) := ⟨by unfold orsX; rw [hk, if_pos rfl, ch_or (ok_parts hk).1]⟩
  have hok := ok_parts hk
  have hok2 := hok.2
  have HF := Aside0.mk hok.1
  have HK := Aside0.mk hk
  have hll := lv_len x
  have hln : (([] : List Ex)).length + (lvX x).length ≤ 1048576 := by simp; omega
  have hvl : (orX x []).length ≤ 100 := by have := or_len [] x; simp at this; omega
  have hvc : ∀ u ∈ orX x [], cntL u.f3 ≤ 1048576 := fun u hu => by
    rw [← ch_or HF.out] at hu
    have := lv_cnt x u ((mem_ch x).1 hu); omega
  have HVC := Aside0.mk hvc
  have HLN := Aside0.mk hln
  clear hk hok hvc hln
  go_enter Tryd.func8, Tryd.ntmps8
  go_upto_region 1 with fail
  rw [← HW.out]
  clear p0 p1 p2 p3
  go_upto_region 2 with fail
  rw [← HWE.out]
  go_upto_region 6 with (first
    | (go_at_call 32; refine (or_any x HF.out hc W w2.heap.size (.slice none 0 0) [] A c _ (below_then HBE.out HBE.out.size HB2.out) (Nat.le_trans HBE.out.size HB2.out.size) (Nat.le_refl _) (by simp [AllF]) List.Pairwise.nil (by simp) HLN.out (Kd.R_nil _ _ _ _ _) HL.out).mono ?_; rintro e w4 ⟨v4, rfl, hr4, hg4, -⟩; obtain ⟨V, d, rfl, hl4, -⟩ := Kd.R_reads hr4; have HB4 : Aside0 (Below w2.heap.size w2 w4) := ⟨pw_below_grown (Below.refl _ _) _ (Nat.le_refl _) hg4 (fun j hj => by simp [Value.ownBlock] at hj)⟩; have HR4 : Aside0 ((kC W).R 29 w4 w2.heap.size (fun j => w2.heap.size ≤ j ∧ j < w4.heap.size) (.slice V (orX x []).length d) (orX x [])) := ⟨Kd.R_mono (Kd.R_bound hr4) (fun j hj => ⟨hj.2.1, hj.2.2.1⟩)⟩; clear hr4 hg4)
    | (go_at_call 31; refine (sExOk_any x A c _ hc HLE.out).mono ?_; rintro e w2 ⟨rfl, hb2⟩; rw [HK.out]; have r0 := pw_cell_below hb2 q0; have r1 := pw_cell_below hb2 q1; have r2 := pw_cell_below hb2 q2; have r3 := pw_cell_below hb2 q3; have HB2 := Aside0.mk hb2; clear hb2))
  clear q0 q1 q2 q3 r0 r1 r2 r3
  have HE4 := Aside0.mk (blk_below (blk_below BE.out HB2.out) HB4.out)
  have HW4 := Aside0.mk (below_then (below_then HBE.out HBE.out.size HB2.out) (Nat.le_trans HBE.out.size HB2.out.size) HB4.out)
  have HS2 := Aside0.mk HB2.out.size
  have HS4 := Aside0.mk HB4.out.size
  generalize orX x [] = L at HR4 hvl HVC HO hl4 ⊢
  have hn := hl4
  go_loopw [3, 5] (fun vl' vi wr => ∃ (k : Nat) (vl : Value), k ≤ L.length ∧ vi = .int .i64 k ∧ vl = vl' ∧ Aside0 (SE wr W.heap.size (fun j => j = W.heap.size ∨ w4.heap.size ≤ j) vl (L.take k)) ∧ Aside0 (Below W.heap.size W wr) ∧ Aside0 ((kC W).R 29 wr w2.heap.size (fun j => w2.heap.size ≤ j ∧ j < w4.heap.size) (.slice V L.length d) L) ∧ Aside0 (w4.heap.size ≤ wr.heap.size)) (fun _ vi _ => L.length - (intOf vi).toNat)
  case atStart => exact ⟨0, _, by omega, rfl, rfl, ⟨by simpa using S_empty HE4.out (Nat.le_refl _) (.inl rfl)⟩, HW4, HR4, ⟨Nat.le_refl _⟩⟩
  case round =>
    obtain ⟨k, vl, hk, rfl, rfl, HS, HB, HR, HZ⟩ := hrel
    by_cases hlt : k < L.length
    · obtain ⟨ad, A2, c3, rfl, ha, hb, hc, hd, hIs⟩ := atE (C_read HB.out hl4 (Kd.R_reads' HR.out).2.2) k hlt
      have hT := take_succ_getD L k zE hlt
      have HQ := Aside0.mk (l2Copy_any _ (HVC.out _ (getE_mem hlt)))
      have htl : (L.take k).length = k := by rw [List.length_take]; omega
      generalize L.getD k zE = o at ha hb hc hd hIs hT HQ
      have HIS := Aside0.mk hIs
      have HT := Aside0.mk hT
      have i1 : (k : Int) < L.length := by omega
      have g1 : decide (k < L.length) = true := decide_eq_true hlt
      clear hT hIs
      have hown : ∀ j, vl.ownBlock = some j → (j = W.heap.size ∨ w4.heap.size ≤ j) ∧ j < wr.heap.size := fun j hj => ⟨(Kd.S_R HS.out).1 j hj, Kd.S_lt HS.out j hj⟩
      go_wp2_with (first
        | (go_at_call 33; refine (HQ.out A2 c3 _ HIS.out).mono ?_; rintro e w5 ⟨v5, rfl, hr5, hb5⟩; have HR5 := Aside0.mk hr5; have HB5 := Aside0.mk hb5; clear hr5 hb5)
        | ((with_reducible refine gate_dst (N := 26) rfl ?_); refine Kd.S_append (kE 29) (w0 := W) W.heap.size rfl _ _ 26 29 (.agg #[.int .i64 0, .int .i64 0, .int .i64 0, .slice none 0 0]) 48 rfl Tryd.underlying26 infoE rfl (by decide) (by decide) vl (L.take k) o [.int .i64 o.f0, .int .i64 o.f1, .int .i64 o.f2, v5] (fun j => j = W.heap.size ∨ w4.heap.size ≤ j) (fun j => wr.heap.size ≤ j) rfl rfl (kE_mkM o (Kd.S_lower (Kd.S_mono (Kd.S_bound HR5.out) (fun j hj => hj.2.1)) HB.out.size)) (fun j hj => ⟨.inr (Nat.le_trans HZ.out hj), fun h => by have := (hown j h.symm).2; omega⟩) (fun j hj => .inr (Nat.le_trans HZ.out (Nat.le_trans HB5.out.size hj))) (Kd.S_below (Kd.S_mono (Kd.S_bound HS.out) (fun j hj => ⟨hj.1, by have := hj.2.2.1; omega⟩)) HB5.out) (below_then HB.out HB.out.size HB5.out) (Nat.le_trans HB.out.size HB5.out.size) (by rw [htl]; omega) ?_; intro v6 w6 hs6 hb6 hg6 _; have HS6 := Aside0.mk hs6; have HB6 := Aside0.mk hb6; have HR6 := Aside0.mk (Kd.R_grown (Kd.R_below HR.out HB5.out) hg6 (fun j hj h => by have h1 := (hown j h.symm).1; have h2 := HS2.out; have h3 := HSZ.out; have h4 := HS4.out; omega)); have HZ6 := Aside0.mk (Nat.le_trans HZ.out (Nat.le_trans HB5.out.size hg6.size)); clear hs6 hb6 hg6))
      go_roundw
      case rel => exact ⟨k + 1, _, by omega, by go_num, rfl, ⟨by rw [HT.out]; exact HS6.out⟩, HB6, HR6, HZ6⟩
      case measure => simp [intOf]; omega
    · have hke : k = L.length := by omega
      subst hke
      have g1 : decide (L.length < L.length) = false := decide_eq_false (by omega)
      have hS := HS.out
      rw [List.take_length] at hS
      have HS2 := Aside0.mk hS
      clear hS
      go_wp2
      go_ret
      exact ⟨_, rfl, by rw [HO.out]; exact Kd.S_mono (Kd.S_lower HS2.out HX.out.size) (fun _ _ => trivial), below_then HX.out HX.out.size HB.out⟩
end Go.Proofs.YtbbdkhffacoglaaDoor.Np
