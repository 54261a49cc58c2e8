
/- SlimOr: the program's. -/
import Derived.Test.YtbbdkhffacoglaaDoorNl
import Derived.Test.YtbbdkhffacoglaaDoorJi
set_option linter.unusedVariables false
set_option linter.unusedSimpArgs false
namespace Go.Proofs.YtbbdkhffacoglaaDoor.Nm
open Go.RowKit Go.Proofs.YtbbdkhffacoglaaDoorW.PrintWords Go.Proofs.YtbbdkhffacoglaaDoor.Ja Go.Proofs.YtbbdkhffacoglaaDoor.Jb Go.Proofs.YtbbdkhffacoglaaDoor.Jc Go.Proofs.YtbbdkhffacoglaaDoor.Jd Go.Proofs.YtbbdkhffacoglaaDoor.Jg Go.Proofs.YtbbdkhffacoglaaDoor.Ji Go.Proofs.YtbbdkhffacoglaaDoor.Ka Go.Proofs.YtbbdkhffacoglaaDoor.Kf Go.Proofs.YtbbdkhffacoglaaDoor.Na Go.Proofs.YtbbdkhffacoglaaDoor.Nb Go.Proofs.YtbbdkhffacoglaaDoor.Nc Go.Proofs.YtbbdkhffacoglaaDoor.Nd Go.Proofs.YtbbdkhffacoglaaDoor.Ne Go.Proofs.YtbbdkhffacoglaaDoor.Nf Go.Proofs.YtbbdkhffacoglaaDoor.Ng Go.Proofs.YtbbdkhffacoglaaDoor.Nh Go.Proofs.YtbbdkhffacoglaaDoor.Ni Go.Proofs.YtbbdkhffacoglaaDoor.Nj Go.Proofs.YtbbdkhffacoglaaDoor.Nk Go.Proofs.YtbbdkhffacoglaaDoor.Nl

def orsX (x : Ex) : List Ex := if okE x = true then chX x else []
theorem ok_parts {x : Ex} (h : okE x = true) : formB x = true ∧ cntL x.f3 ≤ 11 := by
  unfold okE at h
  simp only [Bool.and_eq_true, decide_eq_true_eq] at h
  exact ⟨h.2, by omega⟩
set_option maxHeartbeats 2000000 in
set_option maxRecDepth 100000 in
theorem slimOr_any (x : Ex) (A : Option Addr) (c : Nat) (w : World) (hc : cntL x.f3 ≤ 1048576) (hWd : Words w) (hL : IsEL 29 w x.f3 A c) :
    Calls Tryd.prog 10 #[X x.f0 x.f1 x.f2 A x.f3.length c] w fun e w' => ToOutL w w' (orsX x) e := by
  have hb0 := below_alloc (Below.refl w.heap.size w) (.cells #[.int .i64 x.f0, .int .i64 x.f1, .int .i64 x.f2, .slice A x.f3.length c] 29)
  have bX := blk_new w (.cells #[.int .i64 x.f0, .int .i64 x.f1, .int .i64 x.f2, .slice A x.f3.length c] 29)
  obtain ⟨W, hW⟩ : ∃ W, W = w.alloc (.cells #[.int .i64 x.f0, .int .i64 x.f1, .int .i64 x.f2, .slice A x.f3.length c] 29) := ⟨_, rfl⟩
  rw [← hW] at hb0 bX
  have HW := Aside0.mk hW
  have HX := Aside0.mk hb0
  have HL := Aside0.mk (hL.below hb0)
  have HWD := Aside0.mk (hWd.below hb0)
  have p0 := (blk_cell bX 0).trans rfl
  have p1 := (blk_cell bX 1).trans rfl
  have p2 := (blk_cell bX 2).trans rfl
  have p3 := (blk_cell bX 3).trans rfl
  have BX := Aside0.mk bX
  clear hW hb0 hL hWd bX
  cases hk : okE x with
  | false =>
    have HO : Aside0 (orsX x = []) := ⟨by unfold orsX; rw [hk]; rfl⟩
    have HK := Aside0.mk hk
    clear hk
    go_enter Tryd.func10, Tryd.ntmps10
    go_upto_region 1 with fail
    rw [← HW.out]
    go_wp2_with (go_at_call 35; refine (exOk_any x A c _ hc HL.out).mono ?_; rintro e w2 ⟨rfl, hb2⟩; rw [HK.out]; have HB2 := Aside0.mk (below_then HX.out HX.out.size hb2); clear hb2)
    go_ret
    exact ⟨_, rfl, by rw [HO.out]; exact Kd.S_nil _ _ _ _ _, HB2.out⟩
  | true =>
  have HO : Aside0 (orsX x = chX x) := ⟨by unfold orsX; rw [hk]; rfl⟩
  have hok := ok_parts hk
  have hok2 := hok.2
  have HF := Aside0.mk hok.1
  have HK := Aside0.mk hk
  clear hk hok
  go_enter Tryd.func10, Tryd.ntmps10
  go_upto_region 1 with fail
  rw [← HW.out]
  go_upto_region 5 with (first
    | (go_at_call 36; refine (choices_any x HF.out (by omega) (wqT W) A c _ HB2.out HWD.out HL.out trivial).mono ?_; rintro e w3 ⟨v3, rfl, hr3, hb3⟩; obtain ⟨V, d, rfl, hl3, hC3⟩ := Kd.R_reads hr3; have HB3 := Aside0.mk (below_then HB2.out HB2.out.size hb3); have HV := Aside0.mk (C_read HB3.out hl3 hC3); clear hr3 hb3 hl3 hC3)
    | (go_at_call 35; refine (exOk_any x A c _ hc HL.out).mono ?_; rintro e w2 ⟨rfl, hb2⟩; rw [HK.out]; have q0 := pw_cell_below hb2 p0; have q1 := pw_cell_below hb2 p1; have q2 := pw_cell_below hb2 p2; have q3 := pw_cell_below hb2 p3; have HB2 := Aside0.mk hb2; clear hb2))
  clear p0 p1 p2 p3 q0 q1 q2 q3
  have hvl : (chX x).length ≤ 100 := by
    have h1 := ch_le x HF.out
    unfold tot at h1; omega
  have hvc : ∀ u ∈ chX x, cntL u.f3 ≤ 1048576 := fun u hu => by
    have := lv_cnt x u ((mem_ch x).1 hu); omega
  have HVC := Aside0.mk hvc
  clear hvc
  generalize chX x = L at HV hvl HVC HO ⊢
  have hn := HV.out.len
  go_loopw [3, 12] (fun vl' vi wr => ∃ (k : Nat) (vl : Value), k ≤ L.length ∧ vi = .int .i64 k ∧ vl = vl' ∧ Aside0 (SE wr w3.heap.size (fun _ => True) vl (L.take k)) ∧ Aside0 (Below w3.heap.size w3 wr)) (fun _ vi _ => L.length - (intOf vi).toNat)
  case atStart => exact ⟨0, _, by omega, rfl, rfl, ⟨by simpa using Kd.S_nil (kE 29) 29 w3 w3.heap.size (fun _ => True)⟩, ⟨Below.refl _ _⟩⟩
  case round =>
    obtain ⟨k, vl, hk, rfl, rfl, HS, HB⟩ := hrel
    by_cases hlt : k < L.length
    · obtain ⟨ad, A2, c3, rfl, ha, hb, hc, hd, hIs⟩ := atE (HV.out.below HB.out) k hlt
      have hT := take_succ_getD L k zE hlt
      have HQ := Aside0.mk (clone_any _ (HVC.out _ (getE_mem hlt)))
      have htl : (L.take k).length = k := by rw [List.length_take]; omega
      generalize L.getD k zE = o at ha hb hc hd hIs hT HQ
      have HIS := Aside0.mk hIs
      have HT := Aside0.mk hT
      have i1 : (k : Int) < L.length := by omega
      have g1 : decide (k < L.length) = true := decide_eq_true hlt
      clear hT hIs
      have hown : ∀ j, vl.ownBlock = some j → j < wr.heap.size := Kd.S_lt HS.out
      go_wp2_with (first
        | (go_at_call 37; refine (HQ.out A2 c3 _ (HIS.out.below (box4 _ _ _ _ _ _).1)).mono ?_; rintro e w2 ⟨v2, rfl, hr2, hb2⟩; have HR2 := Aside0.mk hr2; have HB2 := Aside0.mk (below_then (box4 _ _ _ _ _ _).1 (box4 _ _ _ _ _ _).1.size hb2); clear hr2 hb2)
        | ((with_reducible refine gate_dst (N := 20) rfl ?_); refine Kd.S_append (kE 29) (w0 := w3) w3.heap.size rfl _ _ 26 29 (.agg #[.int .i64 0, .int .i64 0, .int .i64 0, .slice none 0 0]) 48 rfl Tryd.underlying26 infoE rfl (by decide) (by decide) vl (L.take k) o [.int .i64 o.f0, .int .i64 o.f1, .int .i64 o.f2, v2] (fun _ => True) (fun j => wr.heap.size ≤ j) rfl rfl (kE_mkM o (Kd.S_lower (Kd.S_mono (Kd.S_bound HR2.out) (fun j hj => by have h1 := hj.2.1; simp at h1; omega)) (Nat.le_trans HB.out.size (box4 _ _ _ _ _ _).1.size))) (fun j hj => ⟨trivial, fun h => by have := hown j h.symm; omega⟩) (fun _ _ => trivial) (Kd.S_below (Kd.S_mono (Kd.S_bound HS.out) (fun j hj => ⟨trivial, by have := hj.2.2.1; omega⟩)) HB2.out) (below_then HB.out HB.out.size HB2.out) (Nat.le_trans HB.out.size HB2.out.size) (by rw [htl]; omega) ?_; intro v3 w4 hs3 hb3 _ _; have HS3 := Aside0.mk hs3; have HB3b := Aside0.mk hb3; clear hs3 hb3))
      go_roundw
      case rel => exact ⟨k + 1, _, by omega, by go_num, rfl, ⟨by rw [HT.out]; exact HS3.out⟩, HB3b⟩
      case measure => simp [intOf]; omega
    · have hke : k = L.length := by omega
      subst hke
      have g1 : decide (L.length < L.length) = false := decide_eq_false (by omega)
      have hS := HS.out
      rw [List.take_length] at hS
      have HS2 := Aside0.mk hS
      clear hS
      go_wp2
      go_ret
      exact ⟨_, rfl, by rw [HO.out]; exact Kd.S_lower HS2.out (Nat.le_trans HX.out.size HB3.out.size), below_then HX.out HX.out.size (below_then HB3.out HB3.out.size HB.out)⟩
end Go.Proofs.YtbbdkhffacoglaaDoor.Nm
