
/- Absence at one time: the reference's. -/
import Derived.Test.YtccenpmaooailaaGreatLB7
import Derived.Test.YtccenpmaooailaaGreatLB6
import Derived.Test.YtccenpmaooailaaGreatLTh
set_option linter.unusedVariables false
set_option linter.unusedSimpArgs false
namespace Go.Proofs.YtccenpmaooailaaGreat.Ti
open Go.RowKit Go.Proofs.YtccenpmaooailaaGreatW.PrintWords Go.Proofs.YtccenpmaooailaaGreat.Wd Go.Proofs.YtccenpmaooailaaGreat.Pu Go.Proofs.YtccenpmaooailaaGreat.Pv Go.Proofs.YtccenpmaooailaaGreat.Ca Go.Proofs.YtccenpmaooailaaGreat.Cb Go.Proofs.YtccenpmaooailaaGreat.Cc Go.Proofs.YtccenpmaooailaaGreat.Cp Go.Proofs.YtccenpmaooailaaGreat.Cd Go.Proofs.YtccenpmaooailaaGreat.Ci Go.Proofs.YtccenpmaooailaaGreat.Ce Go.Proofs.YtccenpmaooailaaGreat.Cf Go.Proofs.YtccenpmaooailaaGreat.Cg Go.Proofs.YtccenpmaooailaaGreat.Sc Go.Proofs.YtccenpmaooailaaGreat.Se Go.Proofs.YtccenpmaooailaaGreat.Sh Go.Proofs.YtccenpmaooailaaGreat.Si Go.Proofs.YtccenpmaooailaaGreat.Sp Go.Proofs.YtccenpmaooailaaGreat.Ia Go.Proofs.YtccenpmaooailaaGreat.Ib Go.Proofs.YtccenpmaooailaaGreat.Ic Go.Proofs.YtccenpmaooailaaGreat.Id Go.Proofs.YtccenpmaooailaaGreat.Ie Go.Proofs.YtccenpmaooailaaGreat.If Go.Proofs.YtccenpmaooailaaGreat.Ig Go.Proofs.YtccenpmaooailaaGreat.Ih Go.Proofs.YtccenpmaooailaaGreat.Ij Go.Proofs.YtccenpmaooailaaGreat.Ik Go.Proofs.YtccenpmaooailaaGreat.Ra Go.Proofs.YtccenpmaooailaaGreat.Rb Go.Proofs.YtccenpmaooailaaGreat.Rc Go.Proofs.YtccenpmaooailaaGreat.Rd Go.Proofs.YtccenpmaooailaaGreat.Re Go.Proofs.YtccenpmaooailaaGreat.Sj Go.Proofs.YtccenpmaooailaaGreat.Ya Go.Proofs.YtccenpmaooailaaGreat.Yd Go.Proofs.YtccenpmaooailaaGreat.Yf Go.Proofs.YtccenpmaooailaaGreat.Yg Go.Proofs.YtccenpmaooailaaGreat.Ih Go.Proofs.YtccenpmaooailaaGreat.Yh Go.Proofs.YtccenpmaooailaaGreat.Yi Go.Proofs.YtccenpmaooailaaGreat.Sg Go.Proofs.YtccenpmaooailaaGreat.Sf Go.Proofs.YtccenpmaooailaaGreat.Yj Go.Proofs.YtccenpmaooailaaGreat.Ig Go.Proofs.YtccenpmaooailaaGreat.Yk Go.Proofs.YtccenpmaooailaaGreat.Ik Go.Proofs.YtccenpmaooailaaGreat.Yl Go.Proofs.YtccenpmaooailaaGreat.Ij Go.Proofs.YtccenpmaooailaaGreat.Ym Go.Proofs.YtccenpmaooailaaGreat.Il Go.Proofs.YtccenpmaooailaaGreat.Yn Go.Proofs.YtccenpmaooailaaGreat.Yo Go.Proofs.YtccenpmaooailaaGreat.In Go.Proofs.YtccenpmaooailaaGreat.Yq Go.Proofs.YtccenpmaooailaaGreat.Pw Go.Proofs.YtccenpmaooailaaGreat.Px Go.Proofs.YtccenpmaooailaaGreat.La Go.Proofs.YtccenpmaooailaaGreat.Db Go.Proofs.YtccenpmaooailaaGreat.Ta Go.Proofs.YtccenpmaooailaaGreat.Tb Go.Proofs.YtccenpmaooailaaGreat.Tc Go.Proofs.YtccenpmaooailaaGreat.Td Go.Proofs.YtccenpmaooailaaGreat.Th Go.Proofs.YtccenpmaooailaaGreat.Sh Go.Proofs.YtccenpmaooailaaGreat.Id Go.Proofs.YtccenpmaooailaaGreat.Yf Go.Proofs.YtccenpmaooailaaGreat.Ya Go.Proofs.YtccenpmaooailaaGreat.Yd Go.Proofs.YtccenpmaooailaaGreat.Re Go.Proofs.YtccenpmaooailaaGreat.Rc

def not3S (mode : Int) (l m a b c : List Occ) : P3 := ⟨putAll (c.foldl (notStepS mode m) (l, [])).1 a, putAll m b, (c.foldl (notStepS mode m) (l, [])).2⟩
set_option maxHeartbeats 4000000 in
set_option maxRecDepth 100000 in
theorem xNot_any (Wz : World) (mode : Int) (hm : 0 ≤ mode ∧ mode ≤ 4) (base : Nat) (A C D E R : Option Addr) (ca cc cd ce cr : Nat) (l mid left bb right : List Occ) (w : World) (hl : AreOk l) (hmo : AreOk mid) (hle : ∀ o ∈ left, IsOk o) (hbo : ∀ o ∈ bb, IsOk o) (hri : ∀ o ∈ right, IsOk o)
    (n1 : l.length + left.length ≤ 500) (n2 : right.length ≤ 500) (n3 : mid.length + bb.length ≤ 500) (hW : Below Wz.heap.size Wz w) (hWb : Wz.heap.size ≤ base) (hL : Xw Wz w base (.slice A l.length ca) l) (hMd : Xw Wz w base (.slice R mid.length cr) mid) (hnm : Nq (.slice A l.length ca) (.slice R mid.length cr)) (hbase : base ≤ w.heap.size)
    (hE : ∀ W, Fr (fun k => own (.slice A l.length ca) k ∨ own (.slice R mid.length cr) k) w W → IsL W left C cc) (hD : ∀ W, Fr (fun k => own (.slice A l.length ca) k ∨ own (.slice R mid.length cr) k) w W → IsL W bb D cd) (hI : ∀ W, Fr (fun k => own (.slice A l.length ca) k ∨ own (.slice R mid.length cr) k) w W → IsL W right E ce) :
    Calls Tryz.prog 48 #[.int .i64 mode, .agg #[.slice A l.length ca, .slice R mid.length cr], .slice C left.length cc, .slice D bb.length cd, .slice E right.length ce] w fun e w' => SpSOut Wz w w' base (.slice A l.length ca) (.slice R mid.length cr) (not3S mode l mid left bb right) e := by
  obtain ⟨vL, hvL⟩ : ∃ vL, vL = Value.slice A l.length ca := ⟨_, rfl⟩
  obtain ⟨vM, hvM⟩ : ∃ vM, vM = Value.slice R mid.length cr := ⟨_, rfl⟩
  have HV := Aside0.mk hvL
  have HVM := Aside0.mk hvM
  rw [← hvL, ← hvM] at hE hI hD
  have hb0 : Below w.heap.size w (((w.alloc (.cells #[.slice A l.length ca, .slice R mid.length cr] 25)).alloc (.cells #[.slice none 0 0, .slice none 0 0] 25)).alloc (.cells #[] 43)) := below_alloc (below_alloc (below_alloc (Below.refl _ _) _) _) _
  have HM : Aside0 (SpSMem Wz w (((w.alloc (.cells #[.slice A l.length ca, .slice R mid.length cr] 25)).alloc (.cells #[.slice none 0 0, .slice none 0 0] 25)).alloc (.cells #[] 43)) base vL vM (.slice (some ⟨w.heap.size + 1 + 1, 0, none⟩) 0 0) A l.length ca R mid.length cr (l, []) mid) := ⟨by
    obtain ⟨_, b0, b1, b2⟩ := boxes3 w #[.slice A l.length ca, .slice R mid.length cr] #[.slice none 0 0, .slice none 0 0] #[] 25 25 43
    exact ⟨below_then hW hW.size hb0, b0, b1, Xw.below hL hb0, Xw.below hMd hb0, R_empty (kX Wz) b2 (Nat.le_refl _), Nq.fresh (n := w.heap.size) (fun k hk => Xw.lt hL k hk) (fun k hk => by simp [own, Value.ownBlock] at hk; omega), hnm, Nq.fresh (n := w.heap.size) (fun k hk => Xw.lt hMd k hk) (fun k hk => by simp [own, Value.ownBlock] at hk; omega), Fr.of_below hb0, fun k hk => .inl (by rw [hvL]; exact hk), fun k hk => .inl (by rw [hvM]; exact hk)⟩⟩
  have LENS : Aside0 (SeqLen (l, []) l.length (0 * 500)) := ⟨⟨hl, AreOk.nil, Nat.le_refl _, Nat.le_refl _⟩⟩
  have HDB := Aside0.mk hD
  have HOKM := Aside0.mk hmo
  have HOKB := Aside0.mk hbo
  have HLE := Aside0.mk hE
  have HRI := Aside0.mk hI
  have HOKL := Aside0.mk hle
  have HOKR := Aside0.mk hri
  clear hL hE hI hle hri hb0 hl hD hMd hnm hmo hbo hvL hvM
  go_enter Tryz.func48, Tryz.ntmps48
  go_wp2
  go_loopw [12, 13] (fun vo vi wr => ∃ (k : Nat) (st : List Occ × List Occ) (v : Value) (Al : Option Addr) (nl cl : Nat), k ≤ right.length ∧ vi = .int .i64 k ∧ v = vo ∧ Aside0 (st = (right.take k).foldl (notStepS mode mid) (l, [])) ∧ Aside0 (SeqLen st l.length (k * 500)) ∧ Aside0 (SpSMem Wz w wr base vL vM v Al nl cl R mid.length cr st mid)) (fun _ vi _ => right.length - (intOf vi).toNat)
  case atStart => exact ⟨0, _, _, _, _, _, Nat.zero_le _, rfl, rfl, ⟨by simp⟩, LENS, HM⟩
  case round =>
    clear HM LENS
    obtain ⟨k, st, vo, Al, nl, cl, hk, rfl, rfl, HST, HLN, HM⟩ := hrel
    have hP := HM.out.bP
    have hR := HM.out.bR
    have hPs := blk_lt hP
    have hRs := blk_lt hR
    have hn1 : nl = st.1.length := Xw.len HM.out.rL
    subst hn1
    have HLN5 := HLN.out.own
    have hout5 := HLN.out.out
    have hbw : base ≤ wr.heap.size := by omega
    by_cases hlt : k < right.length
    · have g1 : decide (k < right.length) = true := decide_eq_true hlt
      have i1 : (k : Int) < right.length := by omega
      have hIr := HRI.out wr HM.out.fr
      obtain ⟨ad, A3, c3, rfl, pa, pb, pc, pl, pC⟩ := atO hIr.rd k hlt
      have hIy : IsO wr (right.getD k zO) A3 c3 := ⟨pl, pC⟩
      have hy := HOKR.out _ (getD_mem (l := right) (i := k) hlt)
      have hT := foldl_take (notStepS mode mid) (l, []) right k hlt
      rw [← HST.out] at hT
      generalize right.getD k zO = y at pa pb pc hIy hy hT
      have HT := Aside0.mk hT
      have HY := Aside0.mk hy
      have HIy := Aside0.mk hIy
      have HN2 : Aside0 (SeqLen (notStepS mode mid st y) l.length (k * 500 + l.length)) := ⟨by rw [← notStep_eq hm HLN.out.ok1 hy]; exact notLen_step HLN.out hy⟩
      clear pl pC hy hT hIy hIr
      have F : ∀ w' : World, Below wr.heap.size wr w' → w'.cell? ⟨w.heap.size, 0, none⟩ = some (.slice Al st.1.length cl) ∧ w'.cell? ⟨w.heap.size, 1, none⟩ = some (.slice R mid.length cr) ∧ w'.cell? (ad.add (k * 3)) = some (.int .i64 y.f0) ∧ w'.cell? ⟨(ad.add (k * 3)).block, (ad.add (k * 3)).off + 1, none⟩ = some (.int .i64 y.f1) ∧ w'.cell? ⟨(ad.add (k * 3)).block, (ad.add (k * 3)).off + 2, none⟩ = some (.slice A3 y.f2.length c3) :=
        fun w' h => ⟨pw_cell_below h ((blk_cell hP 0).trans rfl), pw_cell_below h ((blk_cell hP 1).trans rfl), pw_cell_below h pa, pw_cell_below h pb, pw_cell_below h pc⟩
      go_upto_region 5 with fail
      go_region_held3 (fun w' => w'.cell? ⟨w.heap.size, 0, none⟩ = some (.slice Al st.1.length cl) ∧ w'.cell? ⟨w.heap.size, 1, none⟩ = some (.slice R mid.length cr) ∧ w'.cell? (ad.add (k * 3)) = some (.int .i64 y.f0) ∧ w'.cell? ⟨(ad.add (k * 3)).block, (ad.add (k * 3)).off + 1, none⟩ = some (.int .i64 y.f1) ∧ w'.cell? ⟨(ad.add (k * 3)).block, (ad.add (k * 3)).off + 2, none⟩ = some (.slice A3 y.f2.length c3))
        (first | (with_reducible exact F _ (Below.refl _ _)) | (with_reducible exact F _ (below_drew (Below.refl _ _))) | (with_reducible exact F _ HB1) | (with_reducible exact F _ HB2))
        (first
          | (go_at_call 88; refine (xpick_any Wz mode hm base Al M cl cm st.1 (opn mid y) _ (by omega) (below_then HM.out.bel HM.out.bel.size HB1) (Xw.below HM.out.rL HB1) HMK.out (Nat.le_trans hbw HB1.size)).mono ?_; rintro e w2 ⟨U, nu, cu, r, rfl, rfl, hpk⟩; obtain ⟨Ar, cr2, rfl⟩ := Kd.R_slice hpk.rest; have HB2 : Below wr.heap.size wr w2 := below_then HB1 HB1.size hpk.bel; have HPK := Aside0.mk hpk; have HB21 := Aside0.mk HB1.size; clear hpk)
          | (go_at_call 89; refine (open_any' Al R A3 cl cr c3 st.1 mid y _ (by omega) ((Xw.isL HM.out.bel HM.out.rL).below (below_drew (Below.refl _ _))) ((Xw.isL HM.out.bel HM.out.rM).below (below_drew (Below.refl _ _)))).mono ?_; rintro e w1 ⟨v1, rfl, hm1, hb1⟩; obtain ⟨M, cm, rfl⟩ := Kd.R_slice hm1; have HB1 : Below wr.heap.size wr w1 := keepD hb1; have hmq := (Kd.R_reads' hm1).2.2; rw [List.length_map] at hmq ⊢; have HMK := Aside0.mk hmq; clear hm1 hb1 hmq))
      have HF2 := Aside0.mk (F _ HB2)
      obtain ⟨p0, p1, pa2, pb2, pc2⟩ := HF2.out
      have bP2 := blk_below hP HB2
      have bR2 := blk_below hR HB2
      have HBB2 := Aside0.mk HB2
      have HRO2 := Aside0.mk (Xw.below HM.out.rO HB2)
      have HIy2 := Aside0.mk (HIy.out.below HB2)
      have hpl := areOk_pick (mode := mode) HLN.out.ok1 (opn mid y)
      have hps : ∀ x ∈ (pick mode st.1 (opn mid y)).1, IsOk x := pick_ok HLN.out.ok1 (opn mid y)
      have HPS := Aside0.mk hps
      have HOW := Aside0.mk HLN.out.ok2
      clear F HF2 HB1 HB2 hps hpl hP hR pa pb pc
      have HMD := Aside0.mk (made_ok' hm HLN.out.ok1 HY.out (opn mid y))
      have hpln := pick_len' (mode := mode) (l := st.1) (opn mid y)
      go_wp2_with (first
        | (go_at_call 90; refine (xmerge_any Wz (w.heap.size + 2) vo st.2 Am cm3 (make mode (pick mode st.1 (opn mid y)).1 y) _ HOW.out HMD.out.1 (by have := HMD.out.2; omega) HBZ3.out (by have := hW.size; omega) (Xw.below HRO2.out HB3.out) (Xw.read HBZ3.out (by have := hW.size; omega) (Xw.below HRO2.out HB3.out) HMK3.out HNE3.out) (by have := HBB2.out.size; have := HB3.out.size; omega)).mono ?_; rintro e w4 ⟨vo4, rfl, hr4, hg4, hat4⟩; have HN4 := Aside0.mk (SpSMem.round hW.size HM.out HB21.out HBB2.out HPK.out.rest HPK.out.at_ HB3.out hr4 hg4 hat4); have bP4 := blk_grown (blk_below bP2 HB3.out) hg4 (fun h => by have := (Xw.base HM.out.rO) _ h.symm; omega); have q4 := (blk_cell bP4 0).trans rfl; have z4 := blk_frozen bP4 0; clear hr4 hg4 hat4)
        | (go_at_call 91; refine (make_any mode U A3 cu c3 (pick mode st.1 (opn mid y)).1 y _ HPS.out HY.out (by omega) HPK.out.rd HIy2.out).mono ?_; rintro e w3 ⟨vm, rfl, hm3, hb3⟩; have hmx : Xw Wz w3 w2.heap.size vm _ := Xw.of hm3; have HBZ3 : Aside0 (Below Wz.heap.size Wz w3) := ⟨below_then HM.out.bel HM.out.bel.size (below_then HBB2.out HBB2.out.size hb3)⟩; obtain ⟨Am, nm3, cm3, hvm⟩ : ∃ A n c, vm = .slice A n c := by { obtain ⟨A, c, h⟩ := Kd.R_slice hmx; exact ⟨A, _, c, h⟩ }; subst hvm; obtain rfl := Xw.len hmx; have HNE3 : Aside0 (Nq (.slice Am (make mode (pick mode st.1 (opn mid y)).1 y).length cm3) vo) := ⟨fun k h1 h2 => by have := Xw.base hmx k h1; have := Xw.lt HRO2.out k h2; omega⟩; have HMK3 := Aside0.mk hmx; have HB3 := Aside0.mk hb3; clear hm3 hmx hb3))
      go_roundw
      case rel => exact ⟨k + 1, notStepS mode mid st y, _, _, _, _, by omega, by go_num, rfl, ⟨HT.out.symm⟩, ⟨⟨HN2.out.ok1, HN2.out.ok2, HN2.out.own, by have := HN2.out.out; omega⟩⟩, HN4⟩
      case measure => simp [intOf]; omega
    · have hke : k = right.length := by omega
      subst hke
      have g1 : decide (right.length < right.length) = false := decide_eq_false (by omega)
      have hF := HST.out
      rw [List.take_length] at hF
      have HG := Aside0.mk (show not3S mode l mid left bb right = ⟨putAll st.1 left, putAll mid bb, st.2⟩ by unfold not3S; rw [← hF])
      have HOW := Aside0.mk HLN.out.ok1
      have hRd : Aside0 (∀ W, Fr (own (.slice Al st.1.length cl)) wr W → IsL W left C cc) := ⟨fun W hf => HLE.out W (Fr.trans HM.out.fr hf (fun k h1 h2 => by
        rcases HM.out.atL k h1 with h | h
        · exact .inl h
        · omega))⟩
      have q0 := (blk_cell hP 0).trans rfl
      clear hF
      go_upto_region 9 with (go_at_call 90; refine (xmerge_any Wz base (.slice Al st.1.length cl) st.1 C cc left _ HOW.out HOKL.out (by omega) HM.out.bel hWb HM.out.rL hRd.out hbw).mono ?_; rintro e w5 ⟨v5, rfl, hr5, hg5, hat5⟩; obtain ⟨A5, n5, c5, rfl⟩ : ∃ A n c, v5 = .slice A n c := by { obtain ⟨A, c, h⟩ := Kd.R_slice hr5; exact ⟨A, _, c, h⟩ }; have hend := HM.out.left hW.size hWb hr5 hg5 hat5; have bP5 := hend.1; have q5 := (blk_cell bP5 0).trans rfl; have q51 := (blk_cell bP5 1).trans rfl; have z5 := blk_frozen bP5 0; have HM6 := Aside0.mk hend.2; clear hend hr5 hg5 hat5)
      generalize w5.setCell ⟨w.heap.size, 0, none⟩ (.slice A5 n5 c5) = w6 at HM6 ⊢
      clear q5 q51 z5 bP5 q0
      have hP6 := HM6.out.bP
      have s0 := (blk_cell hP6 0).trans rfl
      have s1 := (blk_cell hP6 1).trans rfl
      have hRd2 : Aside0 (∀ W, Fr (own (.slice R mid.length cr)) w6 W → IsL W bb D cd) := ⟨fun W hf => HDB.out W (Fr.trans HM6.out.fr hf (fun k h1 h2 => by
        rcases HM6.out.atM k h1 with h | h
        · exact .inr h
        · have := HM6.out.fr.size; omega))⟩
      have hbw6 : base ≤ w6.heap.size := by have := HM6.out.fr.size; omega
      go_upto_region 10 with (go_at_call 90; refine (xmerge_any Wz base (.slice R mid.length cr) mid D cd bb _ HOKM.out HOKB.out (by omega) HM6.out.bel hWb HM6.out.rM hRd2.out hbw6).mono ?_; rintro e w7 ⟨v7, rfl, hr7, hg7, hat7⟩; obtain ⟨A7, n7, c7, rfl⟩ : ∃ A n c, v7 = .slice A n c := by { obtain ⟨A, c, h⟩ := Kd.R_slice hr7; exact ⟨A, _, c, h⟩ }; have hend := HM6.out.middle hW.size hWb hr7 hg7 hat7; have bP7 := hend.1; have q7 := (blk_cell bP7 0).trans rfl; have q71 := (blk_cell bP7 1).trans rfl; have z7 := blk_frozen bP7 1; have HM8 := Aside0.mk hend.2; clear hend hr7 hg7 hat7)
      generalize w7.setCell ⟨w.heap.size, 1, none⟩ (.slice A7 n7 c7) = w8 at HM8 ⊢
      clear q7 q71 z7 bP7 s0 s1
      have hP8 := HM8.out.bP
      have hR8 := HM8.out.bR
      have t0 := (blk_cell hP8 0).trans rfl
      have t1 := (blk_cell hP8 1).trans rfl
      have r0 := (blk_cell hR8 0).trans rfl
      have r1 := (blk_cell hR8 1).trans rfl
      have f0 := blk_frozen hR8 0
      have f1 := blk_frozen hR8 1
      have HEND := Aside0.mk HM8.out.done
      go_wp2
      refine bodyPost_ret (results_ct rfl _ _ (w.heap.size + 1) 25 #[.slice A5 n5 c5, .slice A7 n7 c7] (0, 0) _ rfl (Id.set2_blk _ _ hR8) Tryz.underlying25 rfl (by kernel_rfl)) rfl ?_
      rw [HG.out]
      have hend := HEND.out
      rw [HV.out, HVM.out] at hend
      exact hend
end Go.Proofs.YtccenpmaooailaaGreat.Ti
