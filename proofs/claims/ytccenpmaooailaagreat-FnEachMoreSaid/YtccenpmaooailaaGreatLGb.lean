
/- NotOf, EachOf: the program's. -/
import Derived.Test.YtccenpmaooailaaGreatLB7
import Derived.Test.YtccenpmaooailaaGreatLB6
import Derived.Test.YtccenpmaooailaaGreatLGa
set_option linter.unusedVariables false
set_option linter.unusedSimpArgs false
namespace Go.Proofs.YtccenpmaooailaaGreat.Gb
open Go.RowKit Go.Proofs.YtccenpmaooailaaGreatW.PrintWords Go.Proofs.YtccenpmaooailaaGreat.Wd Go.Proofs.YtccenpmaooailaaGreat.Pu Go.Proofs.YtccenpmaooailaaGreat.Pv Go.Proofs.YtccenpmaooailaaGreat.Ca Go.Proofs.YtccenpmaooailaaGreat.Cb Go.Proofs.YtccenpmaooailaaGreat.Cc Go.Proofs.YtccenpmaooailaaGreat.Cp Go.Proofs.YtccenpmaooailaaGreat.Cd Go.Proofs.YtccenpmaooailaaGreat.Ci Go.Proofs.YtccenpmaooailaaGreat.Ce Go.Proofs.YtccenpmaooailaaGreat.Cf Go.Proofs.YtccenpmaooailaaGreat.Cg Go.Proofs.YtccenpmaooailaaGreat.Sc Go.Proofs.YtccenpmaooailaaGreat.Se Go.Proofs.YtccenpmaooailaaGreat.Sh Go.Proofs.YtccenpmaooailaaGreat.Si Go.Proofs.YtccenpmaooailaaGreat.Sp Go.Proofs.YtccenpmaooailaaGreat.Ia Go.Proofs.YtccenpmaooailaaGreat.Ib Go.Proofs.YtccenpmaooailaaGreat.Ic Go.Proofs.YtccenpmaooailaaGreat.Id Go.Proofs.YtccenpmaooailaaGreat.Ie Go.Proofs.YtccenpmaooailaaGreat.If Go.Proofs.YtccenpmaooailaaGreat.Ig Go.Proofs.YtccenpmaooailaaGreat.Ih Go.Proofs.YtccenpmaooailaaGreat.Ij Go.Proofs.YtccenpmaooailaaGreat.Ik Go.Proofs.YtccenpmaooailaaGreat.Ra Go.Proofs.YtccenpmaooailaaGreat.Rb Go.Proofs.YtccenpmaooailaaGreat.Rc Go.Proofs.YtccenpmaooailaaGreat.Rd Go.Proofs.YtccenpmaooailaaGreat.Re Go.Proofs.YtccenpmaooailaaGreat.Sj Go.Proofs.YtccenpmaooailaaGreat.Ya Go.Proofs.YtccenpmaooailaaGreat.Yd Go.Proofs.YtccenpmaooailaaGreat.Yf Go.Proofs.YtccenpmaooailaaGreat.Yg Go.Proofs.YtccenpmaooailaaGreat.Ih Go.Proofs.YtccenpmaooailaaGreat.Yh Go.Proofs.YtccenpmaooailaaGreat.Yi Go.Proofs.YtccenpmaooailaaGreat.Sg Go.Proofs.YtccenpmaooailaaGreat.Sf Go.Proofs.YtccenpmaooailaaGreat.Yj Go.Proofs.YtccenpmaooailaaGreat.Ig Go.Proofs.YtccenpmaooailaaGreat.Yk Go.Proofs.YtccenpmaooailaaGreat.Ik Go.Proofs.YtccenpmaooailaaGreat.Yl Go.Proofs.YtccenpmaooailaaGreat.Ij Go.Proofs.YtccenpmaooailaaGreat.Ym Go.Proofs.YtccenpmaooailaaGreat.Il Go.Proofs.YtccenpmaooailaaGreat.Yn Go.Proofs.YtccenpmaooailaaGreat.Yo Go.Proofs.YtccenpmaooailaaGreat.In Go.Proofs.YtccenpmaooailaaGreat.Yq Go.Proofs.YtccenpmaooailaaGreat.Pw Go.Proofs.YtccenpmaooailaaGreat.Px Go.Proofs.YtccenpmaooailaaGreat.La Go.Proofs.YtccenpmaooailaaGreat.Db Go.Proofs.YtccenpmaooailaaGreat.Ta Go.Proofs.YtccenpmaooailaaGreat.Tb Go.Proofs.YtccenpmaooailaaGreat.Tc Go.Proofs.YtccenpmaooailaaGreat.Td Go.Proofs.YtccenpmaooailaaGreat.Te Go.Proofs.YtccenpmaooailaaGreat.Sh Go.Proofs.YtccenpmaooailaaGreat.Id Go.Proofs.YtccenpmaooailaaGreat.Ik Go.Proofs.YtccenpmaooailaaGreat.Ij Go.Proofs.YtccenpmaooailaaGreat.Il Go.Proofs.YtccenpmaooailaaGreat.If Go.Proofs.YtccenpmaooailaaGreat.Ga

structure SpanMem (w wr : World) (N : Nat) (st : P3) (vo : Value) (Al Ar : Option Addr) (nl nr cl cr : Nat) : Prop where
  bN : wr.heap[N]? = some (.cells #[.slice Al nl cl, .slice Ar nr cr] 25 (0, 0))
  nl : nl = st.a.length
  nr : nr = st.b.length
  la : IsL wr st.a Al cl
  lb : IsL wr st.b Ar cr
  out : ∃ Ao co, vo = .slice Ao st.c.length co ∧ IsL wr st.c Ao co
  bel : Below w.heap.size w wr
structure RegOut (w WE : World) (N M : Nat) (p st : P3) (Al : Option Addr) (cl : Nat) (Ar : Option Addr) (cr : Nat) (A8 : Option Addr) (c8 : Nat) (B8 : Option Addr) (d8 : Nat) (Af : Option Addr) (cf : Nat) (Ao : Option Addr) (co : Nat) (At : Option Addr) (ts : List Int) : Prop where
  bM : WE.heap[M]? = some (.cells #[.slice A8 p.a.length c8, .slice B8 p.b.length d8] 25 (0, 0))
  bN : WE.heap[N]? = some (.cells #[.slice Al st.a.length cl, .slice Ar st.b.length cr] 25 (0, 0))
  la : IsL WE p.a A8 c8
  lb : IsL WE p.b B8 d8
  lc : IsL WE p.c Af cf
  lo : IsL WE st.c Ao co
  rt : (Kd.int .i64).C WE At ts.length ts
  bel : Below w.heap.size w WE
theorem regOut {w wr w8 : World} {N M : Nat} {p st : P3} {Al Ar A8 B8 Af Ao At : Option Addr} {cl cr c8 d8 cf co : Nat} {ts : List Int} (bM : w8.heap[M]? = some (.cells #[.slice none 0 0, .slice none 0 0] 25 (0, 0))) (bN : w8.heap[N]? = some (.cells #[.slice Al st.a.length cl, .slice Ar st.b.length cr] 25 (0, 0))) (hNM : N ≠ M) (hMw : w.heap.size ≤ M) (hb : Below w.heap.size w wr) (hb8 : Below wr.heap.size wr w8)
    (hl : IsL w8 p.a A8 c8) (hr : IsL w8 p.b B8 d8) (hf : IsL w8 p.c Af cf) (ho : IsL wr st.c Ao co) (hrt : (Kd.int .i64).C wr At ts.length ts) : RegOut w ((w8.setCell ⟨M, 0, none⟩ (.slice A8 p.a.length c8)).setCell ⟨M, 1, none⟩ (.slice B8 p.b.length d8)) N M p st Al cl Ar cr A8 c8 B8 d8 Af cf Ao co At ts :=
  ⟨Id.set2_blk _ _ bM, blk_far (blk_far bN (p := ⟨M, 0, none⟩) hNM _) (p := ⟨M, 1, none⟩) hNM _, IsL.set2 bM hl, IsL.set2 bM hr, IsL.set2 bM hf, IsL.set2 bM (ho.below hb8), ints_set2 bM (Kd.C_below hrt hb8), Id.set2_below (below_then hb hb.size hb8) hMw _ _⟩
theorem regOutA {w wr w8 : World} {N : Nat} {p st : P3} {Al Ar A8 B8 Af Ao At : Option Addr} {cl cr c8 d8 cf co : Nat} {ts : List Int} (bN : w8.heap[N]? = some (.cells #[.slice Al st.a.length cl, .slice Ar st.b.length cr] 25 (0, 0))) (hb : Below w.heap.size w wr) (hb8 : Below wr.heap.size wr w8)
    (hl : IsL w8 p.a A8 c8) (hr : IsL w8 p.b B8 d8) (hf : IsL w8 p.c Af cf) (ho : IsL wr st.c Ao co) (hrt : (Kd.int .i64).C wr At ts.length ts) : RegOut w (w8.alloc (.cells #[.slice A8 p.a.length c8, .slice B8 p.b.length d8] 25)) N w8.heap.size p st Al cl Ar cr A8 c8 B8 d8 Af cf Ao co At ts := by
  have hbE := below_alloc (Below.refl w8.heap.size w8) (.cells #[.slice A8 p.a.length c8, .slice B8 p.b.length d8] 25)
  exact ⟨blk_new _ _, blk_alloc bN _, hl.below hbE, hr.below hbE, hf.below hbE, ho.below (below_then hb8 hb8.size hbE), Kd.C_below hrt (below_then hb8 hb8.size hbE), below_then hb hb.size (below_then hb8 hb8.size hbE)⟩

set_option maxHeartbeats 8000000 in
set_option maxRecDepth 100000 in
theorem notOf_any (mode : Int) (A B C : Option Addr) (ca cb cc : Nat) (a b c : List Occ) (w : World) (hA : IsL w a A ca) (hB : IsL w b B cb) (hC : IsL w c C cc) :
    Calls Tryz.prog 61 #[.int .i64 mode, .slice A a.length ca, .slice B b.length cb, .slice C c.length cc, .func (.func 44) #[] #[]] w fun e w' => ToldOut w w' (ofN not3 mode a b c) e := by
  have hf := spanFits_any mode none none A B C 0 0 ca cb cc [] [] a b c w (IsL.nil _) (IsL.nil _) hA hB hC
  cases hq : fits5 mode [] [] a b c with
  | false =>
    have HE := Aside0.mk (show ofN not3 mode a b c = ([], false) by unfold ofN; rw [hq]; rfl)
    rw [hq] at hf
    clear hq
    go_enter Tryz.func61, Tryz.ntmps61
    go_wp2_with (go_at_call 43; refine hf.mono ?_; rintro e w2 ⟨rfl, hb2⟩; have HB2 := Aside0.mk hb2; clear hb2)
    go_ret2
    exact ⟨.slice none 0 0, by rw [HE.out]; rfl, by rw [HE.out]; exact Kd.S_nil _ _ _ _ _, HB2.out⟩
  | true =>
    have HE := Aside0.mk (show ofN not3 mode a b c = told (all3 (not3 mode) a b c (tms (a ++ (b ++ c)))).c by unfold ofN; rw [hq]; rfl)
    rw [hq] at hf
    obtain ⟨hm, _, _, ⟨ha, na⟩, ⟨hb, nb⟩, ⟨hcc, nc⟩⟩ := fits5_iff.1 hq
    clear hq
    have hfl : ([a, b, c] : List (List Occ)).flatten = a ++ (b ++ c) := by simp
    have htm : Lib.compact ((tos [a, b, c]).mergeSort Lays.leb) = tms (a ++ (b ++ c)) := by
      have := times_tms (ls := [a, b, c]) (by rw [hfl]; intro o ho; rcases List.mem_append.1 ho with h | h; exact ha.all o h; rcases List.mem_append.1 h with h | h; exact hb.all o h; exact hcc.all o h)
      rw [this, hfl]
    have hfn : ([a, b, c] : List (List Occ)).flatten.length ≤ 1048576 := by rw [hfl, List.length_append, List.length_append]; omega
    have HTM := Aside0.mk htm
    have HFN := Aside0.mk hfn
    have HA := Aside0.mk hA
    have HB := Aside0.mk hB
    have HC := Aside0.mk hC
    have HKA := Aside0.mk ha
    have HKB := Aside0.mk hb
    have HKC := Aside0.mk hcc
    have HASC := Aside0.mk (asc_tms (a ++ (b ++ c)))
    have HSTEP := Aside0.mk (not3_step hm)
    clear hfl htm hfn hA hB hC ha hb hcc
    go_enter Tryz.func61, Tryz.ntmps61
    go_upto_region 5 with (go_at_call 43; refine hf.mono ?_; rintro e w2 ⟨rfl, hb2⟩; have HB2 := Aside0.mk hb2; clear hb2)
    have bN0 := blk_new w2 (.cells #[.slice none 0 0, .slice none 0 0] 25)
    have HW1 := Aside0.mk (below_then HB2.out HB2.out.size (below_alloc (Below.refl _ _) (.cells #[.slice none 0 0, .slice none 0 0] 25)))
    obtain ⟨N, hN⟩ : ∃ N, N = w2.heap.size := ⟨_, rfl⟩
    have hNw : w.heap.size ≤ N := by rw [hN]; exact HB2.out.size
    rw [← hN] at bN0 ⊢
    generalize w2.alloc (.cells #[.slice none 0 0, .slice none 0 0] 25) = W1 at bN0 HW1 ⊢
    clear hN HB2
    have bg := blk_new W1 (.cells #[.slice A a.length ca, .slice B b.length cb, .slice C c.length cc] 23)
    have HW2 := Aside0.mk (below_then HW1.out HW1.out.size (below_alloc (Below.refl _ _) (.cells #[.slice A a.length ca, .slice B b.length cb, .slice C c.length cc] 23)))
    have hts := times_any (some ⟨W1.heap.size, 0, none⟩) 3 [a, b, c] _ HFN.out (three_L bg (HA.out.below HW2.out) (HB.out.below HW2.out) (HC.out.below HW2.out))
    rw [HTM.out] at hts
    have bN1 := blk_alloc bN0 (.cells #[.slice A a.length ca, .slice B b.length cb, .slice C c.length cc] 23)
    have htl : (tms (a ++ (b ++ c))).length ≤ 2000 := by unfold tms; exact Nat.le_trans (List.length_filter_le _ _) (by simp)
    generalize htd : tms (a ++ (b ++ c)) = ts at *
    have HTD := Aside0.mk htd
    clear htd
    go_wp2_with (go_at_call 98; refine hts.mono ?_; rintro e w3 ⟨At, ct, rfl, hrt, hb3⟩; have bN3 := blk_below bN1 hb3; have HB3 := Aside0.mk (below_then HW2.out HW2.out.size hb3); have HRT := Aside0.mk hrt; clear hrt hb3)
    have HM : Aside0 (SpanMem w w3 N (all3 (not3 mode) a b c (ts.take 0)) (.slice none 0 0) none none 0 0 0 0) := ⟨⟨bN3, rfl, rfl, IsL.nil _, IsL.nil _, ⟨none, 0, rfl, IsL.nil _⟩, HB3.out⟩⟩
    clear bN0 bN1 bN3 bg hts hf
    go_loopw [13, 31] (fun vo vi wr => ∃ (k : Nat) (v : Value) (Al Ar : Option Addr) (nl nr cl cr : Nat), k ≤ ts.length ∧ vi = .int .i64 k ∧ v = vo ∧ Aside0 (SpanMem w wr N (all3 (not3 mode) a b c (ts.take k)) v Al Ar nl nr cl cr) ∧ Aside0 ((Kd.int .i64).C wr At ts.length ts)) (fun _ vi _ => ts.length - (intOf vi).toNat)
    case atStart => exact ⟨0, _, _, _, _, _, _, _, Nat.zero_le _, rfl, rfl, HM, HRT⟩
    case round =>
      clear HM HRT
      obtain ⟨k, vo, Al, Ar, nl, nr, cl, cr, hk, rfl, rfl, HM, HRT⟩ := hrel
      have HBO := Aside0.mk (all3_ok HSTEP.out HKA.out HKB.out HKC.out na nb nc HASC.out k hk)
      have bN := HM.out.bN
      have hNs := blk_lt bN
      have hn1 := HM.out.nl
      have hn2 := HM.out.nr
      subst hn1
      subst hn2
      obtain ⟨Ao, co, hvo, hLo⟩ := HM.out.out
      subst hvo
      have HLa := Aside0.mk HM.out.la
      have HLb := Aside0.mk HM.out.lb
      have HLo := Aside0.mk hLo
      have HBel := Aside0.mk HM.out.bel
      clear HM hLo
      by_cases hlt : k < ts.length
      · obtain ⟨ad, rfl, hcell⟩ := at1 HRT.out k hlt
        have HT := Aside0.mk (all3_take (stp := not3 mode) (a := a) (b := b) (c := c) hlt)
        obtain ⟨hNX, hl1, hl2⟩ := all3Ok_step HSTEP.out HKA.out HKB.out HKC.out na nb nc HASC.out hlt HBO.out
        generalize ts.getD k 0 = t at hcell HT hNX hl1 hl2
        generalize hst : all3 (not3 mode) a b c (ts.take k) = st at *
        have HST := Aside0.mk hst
        have HKa := Aside0.mk (show AreOk (atT a t) from HKA.out.filter _)
        have HKb := Aside0.mk (show AreOk (atT b t) from HKB.out.filter _)
        have HKc := Aside0.mk (show AreOk (atT c t) from HKC.out.filter _)
        have hcl := HSTEP.out.lc HBO.out.ka HBO.out.kb HKa.out HKb.out HKc.out (by omega)
        have hol := HBO.out.lc
        have hs2 := sumAt_mono (l := b) HASC.out k
        have hs3 := sumAt_mono (l := c) HASC.out k
        have hf1 : (atT a t).length ≤ a.length := List.length_filter_le _ _
        have hf2 : (atT b t).length ≤ b.length := List.length_filter_le _ _
        have hf3 : (atT c t).length ≤ c.length := List.length_filter_le _ _
        obtain ⟨p, hp⟩ : ∃ p, p = not3 mode st.a st.b (atT a t) (atT b t) (atT c t) := ⟨_, rfl⟩
        rw [← hp] at hcl
        have HCALL := Aside0.mk (fun (X Y Z : Option Addr) (cx cy cz : Nat) (w' : World) (h1 : IsL w' st.a Al cl) (h2 : IsL w' st.b Ar cr) (h3 : IsL w' (atT a t) X cx) (h4 : IsL w' (atT b t) Y cy) (h5 : IsL w' (atT c t) Z cz) => (by rw [hp]; exact not_any mode hm Al Ar X Y Z cl cr cx cy cz st.a st.b (atT a t) (atT b t) (atT c t) w' HBO.out.ka HBO.out.kb HKa.out.all HKc.out.all (by omega) (by omega) (by omega) h1 h2 h3 h4 h5 : Calls Tryz.prog 44 #[.agg #[.slice Al st.a.length cl, .slice Ar st.b.length cr], .int .i64 mode, .slice X (atT a t).length cx, .slice Y (atT b t).length cy, .slice Z (atT c t).length cz] w' fun e w'' => SeqOut w' w'' p.a p.b p.c e))
        have HP := Aside0.mk (show all3Step (not3 mode) a b c st t = ⟨p.a, p.b, putAll st.c p.c⟩ by rw [hp]; rfl)
        have HCa := Aside0.mk (HA.out.below HBel.out)
        have HCb := Aside0.mk (HB.out.below HBel.out)
        have HCc := Aside0.mk (HC.out.below HBel.out)
        clear hst hNX hp
        go_upto_region 8 with fail
        have F : ∀ w', Below wr.heap.size wr w' → w'.cell? ⟨N, 0, none⟩ = some (.slice Al st.a.length cl) ∧ w'.cell? ⟨N, 1, none⟩ = some (.slice Ar st.b.length cr) :=
          fun w' h => ⟨pw_cell_below h ((blk_cell bN 0).trans rfl), pw_cell_below h ((blk_cell bN 1).trans rfl)⟩
        go_region_held3 (fun w' => w'.cell? ⟨N, 0, none⟩ = some (.slice Al st.a.length cl) ∧ w'.cell? ⟨N, 1, none⟩ = some (.slice Ar st.b.length cr))
          (first | (with_reducible exact F _ (Below.refl _ _)) | (with_reducible exact F _ (below_drew (Below.refl _ _))) | (with_reducible exact F _ HB5) | (with_reducible exact F _ HB6) | (with_reducible exact F _ HB7) | (with_reducible exact F _ HB8) | (with_reducible exact F _ (below_alloc HB8 _)) | (with_reducible exact F _ (below_alloc HB7 _)) | (with_reducible exact F _ (below_alloc HB6 _)) | (with_reducible exact F _ (below_alloc HB5 _)) | (with_reducible exact F _ (below_alloc (below_drew (Below.refl _ _)) _)) | (with_reducible exact F _ (below_drew (below_alloc (Below.refl _ _) _))) | (with_reducible exact ⟨j0 _ _, j1 _ _⟩) | (with_reducible exact ⟨jj0 _ _ _, jj1 _ _ _⟩))
          (first
            | (have hh := HXc7.out; clear hh; go_at_call 44; refine (HCALL.out X Y Z cx cy cz _ (HLa.out.below HB7) (HLb.out.below HB7) HXa7.out HXb7.out HXc7.out).mono ?_; rintro e w8 ⟨A8, c8, B8, d8, Af, cf, rfl, hl8, hr8, hf8, hb⟩; have HB8 : Below wr.heap.size wr w8 := below_then HB7 HB7.size hb; have HL8 := Aside0.mk hl8; have HR8 := Aside0.mk hr8; have HF8 := Aside0.mk hf8; have bN8 := blk_below bN HB8; (try have bM8 := blk_below bM7 hb); (try have j0 := far2 bN8 hNM (i := 0) rfl); (try have j1 := far2 bN8 hNM (i := 1) rfl); (try have m0 := (blk_cell bM8 0).trans rfl); (try have m1 := (blk_cell bM8 1).trans rfl); (try have g0 := blk_frozen bM8 0); (try have g1 := blk_frozen bM8 1); have hN8 : N ≠ w8.heap.size := Nat.ne_of_lt (blk_lt bN8); have jj0 : ∀ ob u0 u1, (((w8.alloc ob).setCell ⟨w8.heap.size, 0, none⟩ u0).setCell ⟨w8.heap.size, 1, none⟩ u1).cell? ⟨N, 0, none⟩ = some (.slice Al st.a.length cl) := fun ob u0 u1 => far2 (blk_alloc bN8 ob) hN8 (i := 0) rfl u0 u1; have jj1 : ∀ ob u0 u1, (((w8.alloc ob).setCell ⟨w8.heap.size, 0, none⟩ u0).setCell ⟨w8.heap.size, 1, none⟩ u1).cell? ⟨N, 1, none⟩ = some (.slice Ar st.b.length cr) := fun ob u0 u1 => far2 (blk_alloc bN8 ob) hN8 (i := 1) rfl u0 u1; clear hl8 hr8 hf8 hb)
            | (have hh := HXc7.out; clear hh; go_at_call 44; refine (HCALL.out X Y Z cx cy cz _ (HLa.out.below (below_alloc HB7 _)) (HLb.out.below (below_alloc HB7 _)) (HXa7.out.below (below_alloc (Below.refl _ _) _)) (HXb7.out.below (below_alloc (Below.refl _ _) _)) (HXc7.out.below (below_alloc (Below.refl _ _) _))).mono ?_; rintro e w8 ⟨A8, c8, B8, d8, Af, cf, rfl, hl8, hr8, hf8, hb⟩; have hBa : Below wr.heap.size wr (w7.alloc (.cells #[.slice none 0 0, .slice none 0 0] 25)) := below_alloc HB7 _; have HB8 : Below wr.heap.size wr w8 := below_then hBa hBa.size hb; have HL8 := Aside0.mk hl8; have HR8 := Aside0.mk hr8; have HF8 := Aside0.mk hf8; have bN8 := blk_below bN HB8; have hNM : N ≠ w7.heap.size := Nat.ne_of_lt (blk_lt (blk_below bN HB7)); have hMw : w.heap.size ≤ w7.heap.size := Nat.le_trans HBel.out.size HB7.size; have bM8 := blk_below (blk_new w7 (.cells #[.slice none 0 0, .slice none 0 0] 25)) hb; have j0 := far2 bN8 hNM (i := 0) rfl; have j1 := far2 bN8 hNM (i := 1) rfl; have m0 := (blk_cell bM8 0).trans rfl; have m1 := (blk_cell bM8 1).trans rfl; have g0 := blk_frozen bM8 0; have g1 := blk_frozen bM8 1; have hN8 : N ≠ w8.heap.size := Nat.ne_of_lt (blk_lt bN8); have jj0 : ∀ ob u0 u1, (((w8.alloc ob).setCell ⟨w8.heap.size, 0, none⟩ u0).setCell ⟨w8.heap.size, 1, none⟩ u1).cell? ⟨N, 0, none⟩ = some (.slice Al st.a.length cl) := fun ob u0 u1 => far2 (blk_alloc bN8 ob) hN8 (i := 0) rfl u0 u1; have jj1 : ∀ ob u0 u1, (((w8.alloc ob).setCell ⟨w8.heap.size, 0, none⟩ u0).setCell ⟨w8.heap.size, 1, none⟩ u1).cell? ⟨N, 1, none⟩ = some (.slice Ar st.b.length cr) := fun ob u0 u1 => far2 (blk_alloc bN8 ob) hN8 (i := 1) rfl u0 u1; clear hl8 hr8 hf8 hb)
            | (have hh := HXb6.out; clear hh; go_at_call 99; refine (at_any C cc c t _ (by omega) (HCc.out.below HB6)).mono ?_; rintro e w7 ⟨Z, cz, rfl, hx, hb⟩; have HB7 : Below wr.heap.size wr w7 := below_then HB6 HB6.size hb; have HXa7 := Aside0.mk (HXa6.out.below hb); have HXb7 := Aside0.mk (HXb6.out.below hb); have HXc7 := Aside0.mk hx; (try have bM7 := blk_below bM6 hb); clear hx hb)
            | (have hh := HXb6.out; clear hh; go_at_call 99; refine (at_any C cc c t _ (by omega) (HCc.out.below (below_alloc HB6 _))).mono ?_; rintro e w7 ⟨Z, cz, rfl, hx, hb⟩; have hBa : Below wr.heap.size wr (w6.alloc (.cells #[.slice none 0 0, .slice none 0 0] 25)) := below_alloc HB6 _; have HB7 : Below wr.heap.size wr w7 := below_then hBa hBa.size hb; have HXa7 := Aside0.mk ((HXa6.out.below (below_alloc (Below.refl _ _) _)).below hb); have HXb7 := Aside0.mk ((HXb6.out.below (below_alloc (Below.refl _ _) _)).below hb); have HXc7 := Aside0.mk hx; have bM7 : w7.heap[w6.heap.size]? = some (.cells #[.slice none 0 0, .slice none 0 0] 25 (0, 0)) := blk_below (blk_new w6 (.cells #[.slice none 0 0, .slice none 0 0] 25)) hb; have hNM : N ≠ w6.heap.size := Nat.ne_of_lt (blk_lt (blk_below bN HB6)); have hMw : w.heap.size ≤ w6.heap.size := Nat.le_trans HBel.out.size HB6.size; clear hx hb)
            | (have hh := HXa5.out; clear hh; go_at_call 99; refine (at_any B cb b t _ (by omega) (HCb.out.below HB5)).mono ?_; rintro e w6 ⟨Y, cy, rfl, hx, hb⟩; have HB6 : Below wr.heap.size wr w6 := below_then HB5 HB5.size hb; have HXa6 := Aside0.mk (HXa5.out.below hb); have HXb6 := Aside0.mk hx; (try have bM6 := blk_below bM5 hb); clear hx hb)
            | (have hh := HXa5.out; clear hh; go_at_call 99; refine (at_any B cb b t _ (by omega) (HCb.out.below (below_alloc HB5 _))).mono ?_; rintro e w6 ⟨Y, cy, rfl, hx, hb⟩; have hBa : Below wr.heap.size wr (w5.alloc (.cells #[.slice none 0 0, .slice none 0 0] 25)) := below_alloc HB5 _; have HB6 : Below wr.heap.size wr w6 := below_then hBa hBa.size hb; have HXa6 := Aside0.mk ((HXa5.out.below (below_alloc (Below.refl _ _) _)).below hb); have HXb6 := Aside0.mk hx; have bM6 : w6.heap[w5.heap.size]? = some (.cells #[.slice none 0 0, .slice none 0 0] 25 (0, 0)) := blk_below (blk_new w5 (.cells #[.slice none 0 0, .slice none 0 0] 25)) hb; have hNM : N ≠ w5.heap.size := Nat.ne_of_lt (blk_lt (blk_below bN HB5)); have hMw : w.heap.size ≤ w5.heap.size := Nat.le_trans HBel.out.size HB5.size; clear hx hb)
            | (go_at_call 99; refine (at_any A ca a t _ (by omega) (HCa.out.below (below_drew (Below.refl _ _)))).mono ?_; rintro e w5 ⟨X, cx, rfl, hx, hb⟩; have HB5 : Below wr.heap.size wr w5 := keepD hb; have HXa5 := Aside0.mk hx; clear hx hb)
            | (go_at_call 99; refine (at_any A ca a t _ (by omega) (HCa.out.below (below_alloc (below_drew (Below.refl _ _)) _))).mono ?_; rintro e w5 ⟨X, cx, rfl, hx, hb⟩; have hBa : Below wr.heap.size wr (wr.drew.alloc (.cells #[.slice none 0 0, .slice none 0 0] 25)) := below_alloc (below_drew (Below.refl _ _)) _; have HB5 : Below wr.heap.size wr w5 := below_then hBa hBa.size hb; have HXa5 := Aside0.mk hx; have bM5 : w5.heap[wr.heap.size]? = some (.cells #[.slice none 0 0, .slice none 0 0] 25 (0, 0)) := blk_below (blk_new wr.drew (.cells #[.slice none 0 0, .slice none 0 0] 25)) hb; have hNM : N ≠ wr.heap.size := Nat.ne_of_lt hNs; have hMw : w.heap.size ≤ wr.heap.size := HBel.out.size; clear hx hb))
        all_goals
          first
            | (have hre : RegOut w ((w8.setCell ⟨wr.heap.size, 0, none⟩ (.slice A8 p.a.length c8)).setCell ⟨wr.heap.size, 1, none⟩ (.slice B8 p.b.length d8)) N wr.heap.size p st Al cl Ar cr A8 c8 B8 d8 Af cf Ao co (some ad) ts := regOut bM8 bN8 hNM hMw HBel.out HB8 HL8.out HR8.out HF8.out HLo.out HRT.out; obtain ⟨M, hM⟩ : ∃ M, M = wr.heap.size := ⟨_, rfl⟩; rw [← hM] at hre ⊢; have HRE := Aside0.mk hre; clear hre hM bM8 bN8; generalize ((w8.setCell ⟨M, 0, none⟩ (.slice A8 p.a.length c8)).setCell ⟨M, 1, none⟩ (.slice B8 p.b.length d8)) = WE at HRE ⊢)
            | (have hre : RegOut w ((w8.setCell ⟨w5.heap.size, 0, none⟩ (.slice A8 p.a.length c8)).setCell ⟨w5.heap.size, 1, none⟩ (.slice B8 p.b.length d8)) N w5.heap.size p st Al cl Ar cr A8 c8 B8 d8 Af cf Ao co (some ad) ts := regOut bM8 bN8 hNM hMw HBel.out HB8 HL8.out HR8.out HF8.out HLo.out HRT.out; obtain ⟨M, hM⟩ : ∃ M, M = w5.heap.size := ⟨_, rfl⟩; rw [← hM] at hre ⊢; have HRE := Aside0.mk hre; clear hre hM bM8 bN8; generalize ((w8.setCell ⟨M, 0, none⟩ (.slice A8 p.a.length c8)).setCell ⟨M, 1, none⟩ (.slice B8 p.b.length d8)) = WE at HRE ⊢)
            | (have hre : RegOut w ((w8.setCell ⟨w6.heap.size, 0, none⟩ (.slice A8 p.a.length c8)).setCell ⟨w6.heap.size, 1, none⟩ (.slice B8 p.b.length d8)) N w6.heap.size p st Al cl Ar cr A8 c8 B8 d8 Af cf Ao co (some ad) ts := regOut bM8 bN8 hNM hMw HBel.out HB8 HL8.out HR8.out HF8.out HLo.out HRT.out; obtain ⟨M, hM⟩ : ∃ M, M = w6.heap.size := ⟨_, rfl⟩; rw [← hM] at hre ⊢; have HRE := Aside0.mk hre; clear hre hM bM8 bN8; generalize ((w8.setCell ⟨M, 0, none⟩ (.slice A8 p.a.length c8)).setCell ⟨M, 1, none⟩ (.slice B8 p.b.length d8)) = WE at HRE ⊢)
            | (have hre : RegOut w ((w8.setCell ⟨w7.heap.size, 0, none⟩ (.slice A8 p.a.length c8)).setCell ⟨w7.heap.size, 1, none⟩ (.slice B8 p.b.length d8)) N w7.heap.size p st Al cl Ar cr A8 c8 B8 d8 Af cf Ao co (some ad) ts := regOut bM8 bN8 hNM hMw HBel.out HB8 HL8.out HR8.out HF8.out HLo.out HRT.out; obtain ⟨M, hM⟩ : ∃ M, M = w7.heap.size := ⟨_, rfl⟩; rw [← hM] at hre ⊢; have HRE := Aside0.mk hre; clear hre hM bM8 bN8; generalize ((w8.setCell ⟨M, 0, none⟩ (.slice A8 p.a.length c8)).setCell ⟨M, 1, none⟩ (.slice B8 p.b.length d8)) = WE at HRE ⊢)
            | (have hre : RegOut w (w8.alloc (.cells #[.slice A8 p.a.length c8, .slice B8 p.b.length d8] 25)) N w8.heap.size p st Al cl Ar cr A8 c8 B8 d8 Af cf Ao co (some ad) ts := regOutA bN8 HBel.out HB8 HL8.out HR8.out HF8.out HLo.out HRT.out; obtain ⟨M, hM⟩ : ∃ M, M = w8.heap.size := ⟨_, rfl⟩; rw [← hM] at hre ⊢; have HRE := Aside0.mk hre; clear hre hM bN8; generalize w8.alloc (.cells #[.slice A8 p.a.length c8, .slice B8 p.b.length d8] 25) = WE at HRE ⊢)
          clear F
          have bM9 := HRE.out.bM
          have bN9 := HRE.out.bN
          have e0 := (blk_cell bM9 0).trans rfl
          have e1 := (blk_cell bM9 1).trans rfl
          have n0 := (blk_cell bN9 0).trans rfl
          have n1 := (blk_cell bN9 1).trans rfl
          have y0 := blk_frozen bN9 0
          have y1 := blk_frozen bN9 1
          go_upto_region 10 with fail
          have bNF : ((WE.setCell ⟨N, 0, none⟩ (.slice A8 p.a.length c8)).setCell ⟨N, 1, none⟩ (.slice B8 p.b.length d8)).heap[N]? = some (.cells #[.slice A8 p.a.length c8, .slice B8 p.b.length d8] 25 (0, 0)) := Id.set2_blk _ _ bN9
          have HLF : Aside0 (IsL ((WE.setCell ⟨N, 0, none⟩ (.slice A8 p.a.length c8)).setCell ⟨N, 1, none⟩ (.slice B8 p.b.length d8)) p.a A8 c8) := ⟨IsL.set2 bN9 HRE.out.la⟩
          have HRF : Aside0 (IsL ((WE.setCell ⟨N, 0, none⟩ (.slice A8 p.a.length c8)).setCell ⟨N, 1, none⟩ (.slice B8 p.b.length d8)) p.b B8 d8) := ⟨IsL.set2 bN9 HRE.out.lb⟩
          have HFF : Aside0 (IsL ((WE.setCell ⟨N, 0, none⟩ (.slice A8 p.a.length c8)).setCell ⟨N, 1, none⟩ (.slice B8 p.b.length d8)) p.c Af cf) := ⟨IsL.set2 bN9 HRE.out.lc⟩
          have HLoF : Aside0 (IsL ((WE.setCell ⟨N, 0, none⟩ (.slice A8 p.a.length c8)).setCell ⟨N, 1, none⟩ (.slice B8 p.b.length d8)) st.c Ao co) := ⟨IsL.set2 bN9 HRE.out.lo⟩
          have HRTF : Aside0 ((Kd.int .i64).C ((WE.setCell ⟨N, 0, none⟩ (.slice A8 p.a.length c8)).setCell ⟨N, 1, none⟩ (.slice B8 p.b.length d8)) (some ad) ts.length ts) := ⟨ints_set2 bN9 HRE.out.rt⟩
          have HBF : Aside0 (Below w.heap.size w ((WE.setCell ⟨N, 0, none⟩ (.slice A8 p.a.length c8)).setCell ⟨N, 1, none⟩ (.slice B8 p.b.length d8))) := ⟨Id.set2_below HRE.out.bel hNw _ _⟩
          clear e0 e1 n0 n1 y0 y1 bM9 bN9 HRE
          generalize (WE.setCell ⟨N, 0, none⟩ (.slice A8 p.a.length c8)).setCell ⟨N, 1, none⟩ (.slice B8 p.b.length d8) = WF at bNF HLF HRF HFF HLoF HRTF HBF ⊢
          go_wp2_with (go_at_call 71; refine (putAll_any Ao Af co cf st.c p.c _ HBO.out.kc.sorted (by omega) HLoF.out HFF.out).mono ?_; rintro e w10 ⟨A10, c10, rfl, ho10, hb10⟩; have HO10 := Aside0.mk ho10; have bN10 := blk_below bNF hb10; have HL10 := Aside0.mk (HLF.out.below hb10); have HR10 := Aside0.mk (HRF.out.below hb10); have HRT10 := Aside0.mk (Kd.C_below HRTF.out hb10); have HB10 := Aside0.mk (below_then HBF.out HBF.out.size hb10); clear ho10 hb10)
          go_roundw
          case rel => exact ⟨k + 1, _, A8, B8, _, _, c8, d8, by omega, by go_num, rfl, ⟨by rw [HT.out, HP.out]; exact ⟨bN10, rfl, rfl, HL10.out, HR10.out, ⟨A10, c10, rfl, HO10.out⟩, HB10.out⟩⟩, HRT10⟩
          case measure => simp [intOf]; omega
      · have hke : k = ts.length := by omega
        subst hke
        have HE2 := Aside0.mk (show all3 (not3 mode) a b c (ts.take ts.length) = all3 (not3 mode) a b c ts by rw [List.take_length])
        have HLo2 : Aside0 (IsL wr (all3 (not3 mode) a b c ts).c Ao co) := ⟨by have h := HLo.out; rwa [HE2.out] at h⟩
        have HKC2 : Aside0 (∀ x ∈ (all3 (not3 mode) a b c ts).c, IsOk x) := ⟨by have h := HBO.out.kc.all; rwa [HE2.out] at h⟩
        have hle := Aside0.mk (show (all3 (not3 mode) a b c (ts.take ts.length)).c.length = (all3 (not3 mode) a b c ts).c.length by rw [List.take_length])
        rw [hle.out]
        go_wp2_with (go_at_call 70; refine (few_any Ao co (all3 (not3 mode) a b c ts).c _ (fun x hx => isOk_big (HKC2.out x hx)) HLo2.out).mono ?_; rintro e w10 ⟨v10, rfl, hs10, hb10⟩; have HS10 := Aside0.mk hs10; have HB10 := Aside0.mk (below_then HBel.out HBel.out.size hb10); clear hs10 hb10)
        go_ret2
        exact ⟨v10, by rw [HE.out]; rfl, by rw [HE.out]; exact Kd.S_lower HS10.out HBel.out.size, HB10.out⟩

set_option maxHeartbeats 8000000 in
set_option maxRecDepth 100000 in
theorem eachOf_any (mode : Int) (A B C : Option Addr) (ca cb cc : Nat) (a b c : List Occ) (w : World) (hA : IsL w a A ca) (hB : IsL w b B cb) (hC : IsL w c C cc) :
    Calls Tryz.prog 61 #[.int .i64 mode, .slice A a.length ca, .slice B b.length cb, .slice C c.length cc, .func (.func 51) #[] #[]] w fun e w' => ToldOut w w' (ofN each3 mode a b c) e := by
  have hf := spanFits_any mode none none A B C 0 0 ca cb cc [] [] a b c w (IsL.nil _) (IsL.nil _) hA hB hC
  cases hq : fits5 mode [] [] a b c with
  | false =>
    have HE := Aside0.mk (show ofN each3 mode a b c = ([], false) by unfold ofN; rw [hq]; rfl)
    rw [hq] at hf
    clear hq
    go_enter Tryz.func61, Tryz.ntmps61
    go_wp2_with (go_at_call 43; refine hf.mono ?_; rintro e w2 ⟨rfl, hb2⟩; have HB2 := Aside0.mk hb2; clear hb2)
    go_ret2
    exact ⟨.slice none 0 0, by rw [HE.out]; rfl, by rw [HE.out]; exact Kd.S_nil _ _ _ _ _, HB2.out⟩
  | true =>
    have HE := Aside0.mk (show ofN each3 mode a b c = told (all3 (each3 mode) a b c (tms (a ++ (b ++ c)))).c by unfold ofN; rw [hq]; rfl)
    rw [hq] at hf
    obtain ⟨hm, _, _, ⟨ha, na⟩, ⟨hb, nb⟩, ⟨hcc, nc⟩⟩ := fits5_iff.1 hq
    clear hq
    have hfl : ([a, b, c] : List (List Occ)).flatten = a ++ (b ++ c) := by simp
    have htm : Lib.compact ((tos [a, b, c]).mergeSort Lays.leb) = tms (a ++ (b ++ c)) := by
      have := times_tms (ls := [a, b, c]) (by rw [hfl]; intro o ho; rcases List.mem_append.1 ho with h | h; exact ha.all o h; rcases List.mem_append.1 h with h | h; exact hb.all o h; exact hcc.all o h)
      rw [this, hfl]
    have hfn : ([a, b, c] : List (List Occ)).flatten.length ≤ 1048576 := by rw [hfl, List.length_append, List.length_append]; omega
    have HTM := Aside0.mk htm
    have HFN := Aside0.mk hfn
    have HA := Aside0.mk hA
    have HB := Aside0.mk hB
    have HC := Aside0.mk hC
    have HKA := Aside0.mk ha
    have HKB := Aside0.mk hb
    have HKC := Aside0.mk hcc
    have HASC := Aside0.mk (asc_tms (a ++ (b ++ c)))
    have HSTEP := Aside0.mk (each3_step hm)
    clear hfl htm hfn hA hB hC ha hb hcc
    go_enter Tryz.func61, Tryz.ntmps61
    go_upto_region 5 with (go_at_call 43; refine hf.mono ?_; rintro e w2 ⟨rfl, hb2⟩; have HB2 := Aside0.mk hb2; clear hb2)
    have bN0 := blk_new w2 (.cells #[.slice none 0 0, .slice none 0 0] 25)
    have HW1 := Aside0.mk (below_then HB2.out HB2.out.size (below_alloc (Below.refl _ _) (.cells #[.slice none 0 0, .slice none 0 0] 25)))
    obtain ⟨N, hN⟩ : ∃ N, N = w2.heap.size := ⟨_, rfl⟩
    have hNw : w.heap.size ≤ N := by rw [hN]; exact HB2.out.size
    rw [← hN] at bN0 ⊢
    generalize w2.alloc (.cells #[.slice none 0 0, .slice none 0 0] 25) = W1 at bN0 HW1 ⊢
    clear hN HB2
    have bg := blk_new W1 (.cells #[.slice A a.length ca, .slice B b.length cb, .slice C c.length cc] 23)
    have HW2 := Aside0.mk (below_then HW1.out HW1.out.size (below_alloc (Below.refl _ _) (.cells #[.slice A a.length ca, .slice B b.length cb, .slice C c.length cc] 23)))
    have hts := times_any (some ⟨W1.heap.size, 0, none⟩) 3 [a, b, c] _ HFN.out (three_L bg (HA.out.below HW2.out) (HB.out.below HW2.out) (HC.out.below HW2.out))
    rw [HTM.out] at hts
    have bN1 := blk_alloc bN0 (.cells #[.slice A a.length ca, .slice B b.length cb, .slice C c.length cc] 23)
    have htl : (tms (a ++ (b ++ c))).length ≤ 2000 := by unfold tms; exact Nat.le_trans (List.length_filter_le _ _) (by simp)
    generalize htd : tms (a ++ (b ++ c)) = ts at *
    have HTD := Aside0.mk htd
    clear htd
    go_wp2_with (go_at_call 98; refine hts.mono ?_; rintro e w3 ⟨At, ct, rfl, hrt, hb3⟩; have bN3 := blk_below bN1 hb3; have HB3 := Aside0.mk (below_then HW2.out HW2.out.size hb3); have HRT := Aside0.mk hrt; clear hrt hb3)
    have HM : Aside0 (SpanMem w w3 N (all3 (each3 mode) a b c (ts.take 0)) (.slice none 0 0) none none 0 0 0 0) := ⟨⟨bN3, rfl, rfl, IsL.nil _, IsL.nil _, ⟨none, 0, rfl, IsL.nil _⟩, HB3.out⟩⟩
    clear bN0 bN1 bN3 bg hts hf
    go_loopw [13, 31] (fun vo vi wr => ∃ (k : Nat) (v : Value) (Al Ar : Option Addr) (nl nr cl cr : Nat), k ≤ ts.length ∧ vi = .int .i64 k ∧ v = vo ∧ Aside0 (SpanMem w wr N (all3 (each3 mode) a b c (ts.take k)) v Al Ar nl nr cl cr) ∧ Aside0 ((Kd.int .i64).C wr At ts.length ts)) (fun _ vi _ => ts.length - (intOf vi).toNat)
    case atStart => exact ⟨0, _, _, _, _, _, _, _, Nat.zero_le _, rfl, rfl, HM, HRT⟩
    case round =>
      clear HM HRT
      obtain ⟨k, vo, Al, Ar, nl, nr, cl, cr, hk, rfl, rfl, HM, HRT⟩ := hrel
      have HBO := Aside0.mk (all3_ok HSTEP.out HKA.out HKB.out HKC.out na nb nc HASC.out k hk)
      have bN := HM.out.bN
      have hNs := blk_lt bN
      have hn1 := HM.out.nl
      have hn2 := HM.out.nr
      subst hn1
      subst hn2
      obtain ⟨Ao, co, hvo, hLo⟩ := HM.out.out
      subst hvo
      have HLa := Aside0.mk HM.out.la
      have HLb := Aside0.mk HM.out.lb
      have HLo := Aside0.mk hLo
      have HBel := Aside0.mk HM.out.bel
      clear HM hLo
      by_cases hlt : k < ts.length
      · obtain ⟨ad, rfl, hcell⟩ := at1 HRT.out k hlt
        have HT := Aside0.mk (all3_take (stp := each3 mode) (a := a) (b := b) (c := c) hlt)
        obtain ⟨hNX, hl1, hl2⟩ := all3Ok_step HSTEP.out HKA.out HKB.out HKC.out na nb nc HASC.out hlt HBO.out
        generalize ts.getD k 0 = t at hcell HT hNX hl1 hl2
        generalize hst : all3 (each3 mode) a b c (ts.take k) = st at *
        have HST := Aside0.mk hst
        have HKa := Aside0.mk (show AreOk (atT a t) from HKA.out.filter _)
        have HKb := Aside0.mk (show AreOk (atT b t) from HKB.out.filter _)
        have HKc := Aside0.mk (show AreOk (atT c t) from HKC.out.filter _)
        have hcl := HSTEP.out.lc HBO.out.ka HBO.out.kb HKa.out HKb.out HKc.out (by omega)
        have hol := HBO.out.lc
        have hs2 := sumAt_mono (l := b) HASC.out k
        have hs3 := sumAt_mono (l := c) HASC.out k
        have hf1 : (atT a t).length ≤ a.length := List.length_filter_le _ _
        have hf2 : (atT b t).length ≤ b.length := List.length_filter_le _ _
        have hf3 : (atT c t).length ≤ c.length := List.length_filter_le _ _
        obtain ⟨p, hp⟩ : ∃ p, p = each3 mode st.a st.b (atT a t) (atT b t) (atT c t) := ⟨_, rfl⟩
        rw [← hp] at hcl
        have HCALL := Aside0.mk (fun (X Y Z : Option Addr) (cx cy cz : Nat) (w' : World) (h1 : IsL w' st.a Al cl) (h2 : IsL w' st.b Ar cr) (h3 : IsL w' (atT a t) X cx) (h4 : IsL w' (atT b t) Y cy) (h5 : IsL w' (atT c t) Z cz) => (by rw [hp]; exact each_any mode hm Al Ar X Y Z cl cr cx cy cz st.a st.b (atT a t) (atT c t) (atT b t) w' HBO.out.ka HBO.out.kb HKa.out.all HKb.out.all (by omega) (by omega) (by omega) h1 h2 h3 h5 h4 : Calls Tryz.prog 51 #[.agg #[.slice Al st.a.length cl, .slice Ar st.b.length cr], .int .i64 mode, .slice X (atT a t).length cx, .slice Y (atT b t).length cy, .slice Z (atT c t).length cz] w' fun e w'' => SeqOut w' w'' p.a p.b p.c e))
        have HP := Aside0.mk (show all3Step (each3 mode) a b c st t = ⟨p.a, p.b, putAll st.c p.c⟩ by rw [hp]; rfl)
        have HCa := Aside0.mk (HA.out.below HBel.out)
        have HCb := Aside0.mk (HB.out.below HBel.out)
        have HCc := Aside0.mk (HC.out.below HBel.out)
        clear hst hNX hp
        go_upto_region 8 with fail
        have F : ∀ w', Below wr.heap.size wr w' → w'.cell? ⟨N, 0, none⟩ = some (.slice Al st.a.length cl) ∧ w'.cell? ⟨N, 1, none⟩ = some (.slice Ar st.b.length cr) :=
          fun w' h => ⟨pw_cell_below h ((blk_cell bN 0).trans rfl), pw_cell_below h ((blk_cell bN 1).trans rfl)⟩
        go_region_held3 (fun w' => w'.cell? ⟨N, 0, none⟩ = some (.slice Al st.a.length cl) ∧ w'.cell? ⟨N, 1, none⟩ = some (.slice Ar st.b.length cr))
          (first | (with_reducible exact F _ (Below.refl _ _)) | (with_reducible exact F _ (below_drew (Below.refl _ _))) | (with_reducible exact F _ HB5) | (with_reducible exact F _ HB6) | (with_reducible exact F _ HB7) | (with_reducible exact F _ HB8) | (with_reducible exact F _ (below_alloc HB8 _)) | (with_reducible exact F _ (below_alloc HB7 _)) | (with_reducible exact F _ (below_alloc HB6 _)) | (with_reducible exact F _ (below_alloc HB5 _)) | (with_reducible exact F _ (below_alloc (below_drew (Below.refl _ _)) _)) | (with_reducible exact F _ (below_drew (below_alloc (Below.refl _ _) _))) | (with_reducible exact ⟨j0 _ _, j1 _ _⟩) | (with_reducible exact ⟨jj0 _ _ _, jj1 _ _ _⟩))
          (first
            | (have hh := HXc7.out; clear hh; go_at_call 51; refine (HCALL.out X Y Z cx cy cz _ (HLa.out.below HB7) (HLb.out.below HB7) HXa7.out HXb7.out HXc7.out).mono ?_; rintro e w8 ⟨A8, c8, B8, d8, Af, cf, rfl, hl8, hr8, hf8, hb⟩; have HB8 : Below wr.heap.size wr w8 := below_then HB7 HB7.size hb; have HL8 := Aside0.mk hl8; have HR8 := Aside0.mk hr8; have HF8 := Aside0.mk hf8; have bN8 := blk_below bN HB8; (try have bM8 := blk_below bM7 hb); (try have j0 := far2 bN8 hNM (i := 0) rfl); (try have j1 := far2 bN8 hNM (i := 1) rfl); (try have m0 := (blk_cell bM8 0).trans rfl); (try have m1 := (blk_cell bM8 1).trans rfl); (try have g0 := blk_frozen bM8 0); (try have g1 := blk_frozen bM8 1); have hN8 : N ≠ w8.heap.size := Nat.ne_of_lt (blk_lt bN8); have jj0 : ∀ ob u0 u1, (((w8.alloc ob).setCell ⟨w8.heap.size, 0, none⟩ u0).setCell ⟨w8.heap.size, 1, none⟩ u1).cell? ⟨N, 0, none⟩ = some (.slice Al st.a.length cl) := fun ob u0 u1 => far2 (blk_alloc bN8 ob) hN8 (i := 0) rfl u0 u1; have jj1 : ∀ ob u0 u1, (((w8.alloc ob).setCell ⟨w8.heap.size, 0, none⟩ u0).setCell ⟨w8.heap.size, 1, none⟩ u1).cell? ⟨N, 1, none⟩ = some (.slice Ar st.b.length cr) := fun ob u0 u1 => far2 (blk_alloc bN8 ob) hN8 (i := 1) rfl u0 u1; clear hl8 hr8 hf8 hb)
            | (have hh := HXc7.out; clear hh; go_at_call 51; refine (HCALL.out X Y Z cx cy cz _ (HLa.out.below (below_alloc HB7 _)) (HLb.out.below (below_alloc HB7 _)) (HXa7.out.below (below_alloc (Below.refl _ _) _)) (HXb7.out.below (below_alloc (Below.refl _ _) _)) (HXc7.out.below (below_alloc (Below.refl _ _) _))).mono ?_; rintro e w8 ⟨A8, c8, B8, d8, Af, cf, rfl, hl8, hr8, hf8, hb⟩; have hBa : Below wr.heap.size wr (w7.alloc (.cells #[.slice none 0 0, .slice none 0 0] 25)) := below_alloc HB7 _; have HB8 : Below wr.heap.size wr w8 := below_then hBa hBa.size hb; have HL8 := Aside0.mk hl8; have HR8 := Aside0.mk hr8; have HF8 := Aside0.mk hf8; have bN8 := blk_below bN HB8; have hNM : N ≠ w7.heap.size := Nat.ne_of_lt (blk_lt (blk_below bN HB7)); have hMw : w.heap.size ≤ w7.heap.size := Nat.le_trans HBel.out.size HB7.size; have bM8 := blk_below (blk_new w7 (.cells #[.slice none 0 0, .slice none 0 0] 25)) hb; have j0 := far2 bN8 hNM (i := 0) rfl; have j1 := far2 bN8 hNM (i := 1) rfl; have m0 := (blk_cell bM8 0).trans rfl; have m1 := (blk_cell bM8 1).trans rfl; have g0 := blk_frozen bM8 0; have g1 := blk_frozen bM8 1; have hN8 : N ≠ w8.heap.size := Nat.ne_of_lt (blk_lt bN8); have jj0 : ∀ ob u0 u1, (((w8.alloc ob).setCell ⟨w8.heap.size, 0, none⟩ u0).setCell ⟨w8.heap.size, 1, none⟩ u1).cell? ⟨N, 0, none⟩ = some (.slice Al st.a.length cl) := fun ob u0 u1 => far2 (blk_alloc bN8 ob) hN8 (i := 0) rfl u0 u1; have jj1 : ∀ ob u0 u1, (((w8.alloc ob).setCell ⟨w8.heap.size, 0, none⟩ u0).setCell ⟨w8.heap.size, 1, none⟩ u1).cell? ⟨N, 1, none⟩ = some (.slice Ar st.b.length cr) := fun ob u0 u1 => far2 (blk_alloc bN8 ob) hN8 (i := 1) rfl u0 u1; clear hl8 hr8 hf8 hb)
            | (have hh := HXb6.out; clear hh; go_at_call 99; refine (at_any C cc c t _ (by omega) (HCc.out.below HB6)).mono ?_; rintro e w7 ⟨Z, cz, rfl, hx, hb⟩; have HB7 : Below wr.heap.size wr w7 := below_then HB6 HB6.size hb; have HXa7 := Aside0.mk (HXa6.out.below hb); have HXb7 := Aside0.mk (HXb6.out.below hb); have HXc7 := Aside0.mk hx; (try have bM7 := blk_below bM6 hb); clear hx hb)
            | (have hh := HXb6.out; clear hh; go_at_call 99; refine (at_any C cc c t _ (by omega) (HCc.out.below (below_alloc HB6 _))).mono ?_; rintro e w7 ⟨Z, cz, rfl, hx, hb⟩; have hBa : Below wr.heap.size wr (w6.alloc (.cells #[.slice none 0 0, .slice none 0 0] 25)) := below_alloc HB6 _; have HB7 : Below wr.heap.size wr w7 := below_then hBa hBa.size hb; have HXa7 := Aside0.mk ((HXa6.out.below (below_alloc (Below.refl _ _) _)).below hb); have HXb7 := Aside0.mk ((HXb6.out.below (below_alloc (Below.refl _ _) _)).below hb); have HXc7 := Aside0.mk hx; have bM7 : w7.heap[w6.heap.size]? = some (.cells #[.slice none 0 0, .slice none 0 0] 25 (0, 0)) := blk_below (blk_new w6 (.cells #[.slice none 0 0, .slice none 0 0] 25)) hb; have hNM : N ≠ w6.heap.size := Nat.ne_of_lt (blk_lt (blk_below bN HB6)); have hMw : w.heap.size ≤ w6.heap.size := Nat.le_trans HBel.out.size HB6.size; clear hx hb)
            | (have hh := HXa5.out; clear hh; go_at_call 99; refine (at_any B cb b t _ (by omega) (HCb.out.below HB5)).mono ?_; rintro e w6 ⟨Y, cy, rfl, hx, hb⟩; have HB6 : Below wr.heap.size wr w6 := below_then HB5 HB5.size hb; have HXa6 := Aside0.mk (HXa5.out.below hb); have HXb6 := Aside0.mk hx; (try have bM6 := blk_below bM5 hb); clear hx hb)
            | (have hh := HXa5.out; clear hh; go_at_call 99; refine (at_any B cb b t _ (by omega) (HCb.out.below (below_alloc HB5 _))).mono ?_; rintro e w6 ⟨Y, cy, rfl, hx, hb⟩; have hBa : Below wr.heap.size wr (w5.alloc (.cells #[.slice none 0 0, .slice none 0 0] 25)) := below_alloc HB5 _; have HB6 : Below wr.heap.size wr w6 := below_then hBa hBa.size hb; have HXa6 := Aside0.mk ((HXa5.out.below (below_alloc (Below.refl _ _) _)).below hb); have HXb6 := Aside0.mk hx; have bM6 : w6.heap[w5.heap.size]? = some (.cells #[.slice none 0 0, .slice none 0 0] 25 (0, 0)) := blk_below (blk_new w5 (.cells #[.slice none 0 0, .slice none 0 0] 25)) hb; have hNM : N ≠ w5.heap.size := Nat.ne_of_lt (blk_lt (blk_below bN HB5)); have hMw : w.heap.size ≤ w5.heap.size := Nat.le_trans HBel.out.size HB5.size; clear hx hb)
            | (go_at_call 99; refine (at_any A ca a t _ (by omega) (HCa.out.below (below_drew (Below.refl _ _)))).mono ?_; rintro e w5 ⟨X, cx, rfl, hx, hb⟩; have HB5 : Below wr.heap.size wr w5 := keepD hb; have HXa5 := Aside0.mk hx; clear hx hb)
            | (go_at_call 99; refine (at_any A ca a t _ (by omega) (HCa.out.below (below_alloc (below_drew (Below.refl _ _)) _))).mono ?_; rintro e w5 ⟨X, cx, rfl, hx, hb⟩; have hBa : Below wr.heap.size wr (wr.drew.alloc (.cells #[.slice none 0 0, .slice none 0 0] 25)) := below_alloc (below_drew (Below.refl _ _)) _; have HB5 : Below wr.heap.size wr w5 := below_then hBa hBa.size hb; have HXa5 := Aside0.mk hx; have bM5 : w5.heap[wr.heap.size]? = some (.cells #[.slice none 0 0, .slice none 0 0] 25 (0, 0)) := blk_below (blk_new wr.drew (.cells #[.slice none 0 0, .slice none 0 0] 25)) hb; have hNM : N ≠ wr.heap.size := Nat.ne_of_lt hNs; have hMw : w.heap.size ≤ wr.heap.size := HBel.out.size; clear hx hb))
        all_goals
          first
            | (have hre : RegOut w ((w8.setCell ⟨wr.heap.size, 0, none⟩ (.slice A8 p.a.length c8)).setCell ⟨wr.heap.size, 1, none⟩ (.slice B8 p.b.length d8)) N wr.heap.size p st Al cl Ar cr A8 c8 B8 d8 Af cf Ao co (some ad) ts := regOut bM8 bN8 hNM hMw HBel.out HB8 HL8.out HR8.out HF8.out HLo.out HRT.out; obtain ⟨M, hM⟩ : ∃ M, M = wr.heap.size := ⟨_, rfl⟩; rw [← hM] at hre ⊢; have HRE := Aside0.mk hre; clear hre hM bM8 bN8; generalize ((w8.setCell ⟨M, 0, none⟩ (.slice A8 p.a.length c8)).setCell ⟨M, 1, none⟩ (.slice B8 p.b.length d8)) = WE at HRE ⊢)
            | (have hre : RegOut w ((w8.setCell ⟨w5.heap.size, 0, none⟩ (.slice A8 p.a.length c8)).setCell ⟨w5.heap.size, 1, none⟩ (.slice B8 p.b.length d8)) N w5.heap.size p st Al cl Ar cr A8 c8 B8 d8 Af cf Ao co (some ad) ts := regOut bM8 bN8 hNM hMw HBel.out HB8 HL8.out HR8.out HF8.out HLo.out HRT.out; obtain ⟨M, hM⟩ : ∃ M, M = w5.heap.size := ⟨_, rfl⟩; rw [← hM] at hre ⊢; have HRE := Aside0.mk hre; clear hre hM bM8 bN8; generalize ((w8.setCell ⟨M, 0, none⟩ (.slice A8 p.a.length c8)).setCell ⟨M, 1, none⟩ (.slice B8 p.b.length d8)) = WE at HRE ⊢)
            | (have hre : RegOut w ((w8.setCell ⟨w6.heap.size, 0, none⟩ (.slice A8 p.a.length c8)).setCell ⟨w6.heap.size, 1, none⟩ (.slice B8 p.b.length d8)) N w6.heap.size p st Al cl Ar cr A8 c8 B8 d8 Af cf Ao co (some ad) ts := regOut bM8 bN8 hNM hMw HBel.out HB8 HL8.out HR8.out HF8.out HLo.out HRT.out; obtain ⟨M, hM⟩ : ∃ M, M = w6.heap.size := ⟨_, rfl⟩; rw [← hM] at hre ⊢; have HRE := Aside0.mk hre; clear hre hM bM8 bN8; generalize ((w8.setCell ⟨M, 0, none⟩ (.slice A8 p.a.length c8)).setCell ⟨M, 1, none⟩ (.slice B8 p.b.length d8)) = WE at HRE ⊢)
            | (have hre : RegOut w ((w8.setCell ⟨w7.heap.size, 0, none⟩ (.slice A8 p.a.length c8)).setCell ⟨w7.heap.size, 1, none⟩ (.slice B8 p.b.length d8)) N w7.heap.size p st Al cl Ar cr A8 c8 B8 d8 Af cf Ao co (some ad) ts := regOut bM8 bN8 hNM hMw HBel.out HB8 HL8.out HR8.out HF8.out HLo.out HRT.out; obtain ⟨M, hM⟩ : ∃ M, M = w7.heap.size := ⟨_, rfl⟩; rw [← hM] at hre ⊢; have HRE := Aside0.mk hre; clear hre hM bM8 bN8; generalize ((w8.setCell ⟨M, 0, none⟩ (.slice A8 p.a.length c8)).setCell ⟨M, 1, none⟩ (.slice B8 p.b.length d8)) = WE at HRE ⊢)
            | (have hre : RegOut w (w8.alloc (.cells #[.slice A8 p.a.length c8, .slice B8 p.b.length d8] 25)) N w8.heap.size p st Al cl Ar cr A8 c8 B8 d8 Af cf Ao co (some ad) ts := regOutA bN8 HBel.out HB8 HL8.out HR8.out HF8.out HLo.out HRT.out; obtain ⟨M, hM⟩ : ∃ M, M = w8.heap.size := ⟨_, rfl⟩; rw [← hM] at hre ⊢; have HRE := Aside0.mk hre; clear hre hM bN8; generalize w8.alloc (.cells #[.slice A8 p.a.length c8, .slice B8 p.b.length d8] 25) = WE at HRE ⊢)
          clear F
          have bM9 := HRE.out.bM
          have bN9 := HRE.out.bN
          have e0 := (blk_cell bM9 0).trans rfl
          have e1 := (blk_cell bM9 1).trans rfl
          have n0 := (blk_cell bN9 0).trans rfl
          have n1 := (blk_cell bN9 1).trans rfl
          have y0 := blk_frozen bN9 0
          have y1 := blk_frozen bN9 1
          go_upto_region 10 with fail
          have bNF : ((WE.setCell ⟨N, 0, none⟩ (.slice A8 p.a.length c8)).setCell ⟨N, 1, none⟩ (.slice B8 p.b.length d8)).heap[N]? = some (.cells #[.slice A8 p.a.length c8, .slice B8 p.b.length d8] 25 (0, 0)) := Id.set2_blk _ _ bN9
          have HLF : Aside0 (IsL ((WE.setCell ⟨N, 0, none⟩ (.slice A8 p.a.length c8)).setCell ⟨N, 1, none⟩ (.slice B8 p.b.length d8)) p.a A8 c8) := ⟨IsL.set2 bN9 HRE.out.la⟩
          have HRF : Aside0 (IsL ((WE.setCell ⟨N, 0, none⟩ (.slice A8 p.a.length c8)).setCell ⟨N, 1, none⟩ (.slice B8 p.b.length d8)) p.b B8 d8) := ⟨IsL.set2 bN9 HRE.out.lb⟩
          have HFF : Aside0 (IsL ((WE.setCell ⟨N, 0, none⟩ (.slice A8 p.a.length c8)).setCell ⟨N, 1, none⟩ (.slice B8 p.b.length d8)) p.c Af cf) := ⟨IsL.set2 bN9 HRE.out.lc⟩
          have HLoF : Aside0 (IsL ((WE.setCell ⟨N, 0, none⟩ (.slice A8 p.a.length c8)).setCell ⟨N, 1, none⟩ (.slice B8 p.b.length d8)) st.c Ao co) := ⟨IsL.set2 bN9 HRE.out.lo⟩
          have HRTF : Aside0 ((Kd.int .i64).C ((WE.setCell ⟨N, 0, none⟩ (.slice A8 p.a.length c8)).setCell ⟨N, 1, none⟩ (.slice B8 p.b.length d8)) (some ad) ts.length ts) := ⟨ints_set2 bN9 HRE.out.rt⟩
          have HBF : Aside0 (Below w.heap.size w ((WE.setCell ⟨N, 0, none⟩ (.slice A8 p.a.length c8)).setCell ⟨N, 1, none⟩ (.slice B8 p.b.length d8))) := ⟨Id.set2_below HRE.out.bel hNw _ _⟩
          clear e0 e1 n0 n1 y0 y1 bM9 bN9 HRE
          generalize (WE.setCell ⟨N, 0, none⟩ (.slice A8 p.a.length c8)).setCell ⟨N, 1, none⟩ (.slice B8 p.b.length d8) = WF at bNF HLF HRF HFF HLoF HRTF HBF ⊢
          go_wp2_with (go_at_call 71; refine (putAll_any Ao Af co cf st.c p.c _ HBO.out.kc.sorted (by omega) HLoF.out HFF.out).mono ?_; rintro e w10 ⟨A10, c10, rfl, ho10, hb10⟩; have HO10 := Aside0.mk ho10; have bN10 := blk_below bNF hb10; have HL10 := Aside0.mk (HLF.out.below hb10); have HR10 := Aside0.mk (HRF.out.below hb10); have HRT10 := Aside0.mk (Kd.C_below HRTF.out hb10); have HB10 := Aside0.mk (below_then HBF.out HBF.out.size hb10); clear ho10 hb10)
          go_roundw
          case rel => exact ⟨k + 1, _, A8, B8, _, _, c8, d8, by omega, by go_num, rfl, ⟨by rw [HT.out, HP.out]; exact ⟨bN10, rfl, rfl, HL10.out, HR10.out, ⟨A10, c10, rfl, HO10.out⟩, HB10.out⟩⟩, HRT10⟩
          case measure => simp [intOf]; omega
      · have hke : k = ts.length := by omega
        subst hke
        have HE2 := Aside0.mk (show all3 (each3 mode) a b c (ts.take ts.length) = all3 (each3 mode) a b c ts by rw [List.take_length])
        have HLo2 : Aside0 (IsL wr (all3 (each3 mode) a b c ts).c Ao co) := ⟨by have h := HLo.out; rwa [HE2.out] at h⟩
        have HKC2 : Aside0 (∀ x ∈ (all3 (each3 mode) a b c ts).c, IsOk x) := ⟨by have h := HBO.out.kc.all; rwa [HE2.out] at h⟩
        have hle := Aside0.mk (show (all3 (each3 mode) a b c (ts.take ts.length)).c.length = (all3 (each3 mode) a b c ts).c.length by rw [List.take_length])
        rw [hle.out]
        go_wp2_with (go_at_call 70; refine (few_any Ao co (all3 (each3 mode) a b c ts).c _ (fun x hx => isOk_big (HKC2.out x hx)) HLo2.out).mono ?_; rintro e w10 ⟨v10, rfl, hs10, hb10⟩; have HS10 := Aside0.mk hs10; have HB10 := Aside0.mk (below_then HBel.out HBel.out.size hb10); clear hs10 hb10)
        go_ret2
        exact ⟨v10, by rw [HE.out]; rfl, by rw [HE.out]; exact Kd.S_lower HS10.out HBel.out.size, HB10.out⟩

theorem nOf_any (mode : Int) (A B C : Option Addr) (ca cb cc : Nat) (a b c : List Occ) (w : World) (hA : IsL w a A ca) (hB : IsL w b B cb) (hC : IsL w c C cc) :
    Calls Tryz.prog 28 #[.int .i64 mode, .slice A a.length ca, .slice B b.length cb, .slice C c.length cc] w fun e w' => ToldOut w w' (ofN not3 mode a b c) e := by
  have hc := notOf_any mode A B C ca cb cc a b c w hA hB hC
  go_enter Tryz.func28, Tryz.ntmps28
  go_wp2_with (go_at_call 61; refine hc.mono ?_; rintro e w2 ⟨v, rfl, hs, hb⟩; have HS := Aside0.mk hs; have HB := Aside0.mk hb; clear hs hb)
  go_ret2
  exact ⟨v, rfl, HS.out, HB.out⟩
theorem eOf_any (mode : Int) (A B C : Option Addr) (ca cb cc : Nat) (a b c : List Occ) (w : World) (hA : IsL w a A ca) (hB : IsL w b B cb) (hC : IsL w c C cc) :
    Calls Tryz.prog 23 #[.int .i64 mode, .slice A a.length ca, .slice B b.length cb, .slice C c.length cc] w fun e w' => ToldOut w w' (ofN each3 mode a b c) e := by
  have hc := eachOf_any mode A B C ca cb cc a b c w hA hB hC
  go_enter Tryz.func23, Tryz.ntmps23
  go_wp2_with (go_at_call 61; refine hc.mono ?_; rintro e w2 ⟨v, rfl, hs, hb⟩; have HS := Aside0.mk hs; have HB := Aside0.mk hb; clear hs hb)
  go_ret2
  exact ⟨v, rfl, HS.out, HB.out⟩
end Go.Proofs.YtccenpmaooailaaGreat.Gb
