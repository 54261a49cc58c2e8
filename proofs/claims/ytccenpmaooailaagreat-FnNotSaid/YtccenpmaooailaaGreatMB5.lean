
import Derived.Test.YtccenpmaooailaaGreatMB3
import Derived.OrdersHeld
import Derived.Deep.RegionHeld3
import Derived.Test.YtccenpmaooailaaGreatMB4
/- All points in time: the program's pairs. -/
set_option linter.unusedVariables false
set_option linter.unusedSimpArgs false
namespace Go.Proofs.YtccenpmaooailaaGreat.Il
open Go.RowKit Go.Proofs.YtccenpmaooailaaGreatW.PrintWords Go.Proofs.YtccenpmaooailaaGreat.Wd Go.Proofs.YtccenpmaooailaaGreat.Pu Go.Proofs.YtccenpmaooailaaGreat.Pv Go.Proofs.YtccenpmaooailaaGreat.Ca Go.Proofs.YtccenpmaooailaaGreat.Cb Go.Proofs.YtccenpmaooailaaGreat.Cc Go.Proofs.YtccenpmaooailaaGreat.Cp Go.Proofs.YtccenpmaooailaaGreat.Cd Go.Proofs.YtccenpmaooailaaGreat.Ci Go.Proofs.YtccenpmaooailaaGreat.Ce Go.Proofs.YtccenpmaooailaaGreat.Cf Go.Proofs.YtccenpmaooailaaGreat.Cg Go.Proofs.YtccenpmaooailaaGreat.Ia Go.Proofs.YtccenpmaooailaaGreat.Ib Go.Proofs.YtccenpmaooailaaGreat.Ic Go.Proofs.YtccenpmaooailaaGreat.Id Go.Proofs.YtccenpmaooailaaGreat.Ie Go.Proofs.YtccenpmaooailaaGreat.If Go.Proofs.YtccenpmaooailaaGreat.Ig Go.Proofs.YtccenpmaooailaaGreat.Ih Go.Proofs.YtccenpmaooailaaGreat.Ij Go.Proofs.YtccenpmaooailaaGreat.Ik

theorem two_L {w : World} {g : Nat} {t : TypeId} {a b : List Occ} {A B : Option Addr} {ca cb : Nat} (h : w.heap[g]? = some (.cells #[.slice A a.length ca, .slice B b.length cb] t (0, 0))) (ha : IsL w a A ca) (hb : IsL w b B cb) : kL.C w (some ⟨g, 0, none⟩) 2 [a, b] := by
  refine ⟨rfl, by decide, fun _ => ⟨_, rfl, fun j p hj => ?_⟩⟩
  have hs : kL.sz = 1 := rfl
  rcases j with _ | _ | j
  · obtain rfl : a = p := by simpa using hj
    refine ⟨[.slice A a.length ca], rfl, ⟨A, ca, rfl, ha.cap, ha.rd⟩, fun i u hi => ?_⟩
    rw [add_plain, blk_cell h]
    rcases i with _ | i
    · simpa [hs] using hi
    · simp at hi
  · obtain rfl : b = p := by simpa using hj
    refine ⟨[.slice B b.length cb], rfl, ⟨B, cb, rfl, hb.cap, hb.rd⟩, fun i u hi => ?_⟩
    rw [add_plain, blk_cell h]
    rcases i with _ | i
    · simpa [hs] using hi
    · simp at hi
  · simp at hj
theorem IsL.set2 {w : World} {g : Nat} {A B A' : Option Addr} {n m c d n' c' : Nat} {u : Value} {t : TypeId} (h : w.heap[g]? = some (.cells #[.slice A n c, .slice B m d] t (0, 0))) {x : List Occ} {X : Option Addr} {cx : Nat} (hx : IsL w x X cx) : IsL (Id.set2 w g (.slice A' n' c') u) x X cx := by
  have h1 : (w.setCell ⟨g, 0, none⟩ (.slice A' n' c')).heap[g]? = some (.cells #[.slice A' n' c', .slice B m d] t (0, 0)) := blk_put h 0 _ rfl
  exact IsL.away (ni_two h1) (keep_set _ _ _ _) (IsL.away (ni_two h) (keep_set _ _ _ _) hx)
theorem ints_set2 {w : World} {g : Nat} {A B A' : Option Addr} {n m c d n' c' : Nat} {u : Value} {t : TypeId} (h : w.heap[g]? = some (.cells #[.slice A n c, .slice B m d] t (0, 0))) {x : List Int} {X : Option Addr} {k : Nat} (hx : (Kd.int .i64).C w X k x) : (Kd.int .i64).C (Id.set2 w g (.slice A' n' c') u) X k x := by
  have h1 : (w.setCell ⟨g, 0, none⟩ (.slice A' n' c')).heap[g]? = some (.cells #[.slice A' n' c', .slice B m d] t (0, 0)) := blk_put h 0 _ rfl
  exact ints_far (ni_two h1) (keep_set _ _ _ _) (ints_far (ni_two h) (keep_set _ _ _ _) hx)
structure BothMem (w wr : World) (N : Nat) (st : P3) (vo : Value) (Al Ar : Option Addr) (nl nr cl cr : Nat) : Prop where
  bN : wr.heap[N]? = some (.cells #[.slice Al nl cl, .slice Ar nr cr] 78 (0, 0))
  nl : nl = st.a.length
  nr : nr = st.b.length
  la : IsL wr st.a Al cl
  lb : IsL wr st.b Ar cr
  out : ∃ Ao co, vo = .slice Ao st.c.length co ∧ IsL wr st.c Ao co
  bel : Below w.heap.size w wr
def ofI (stp : Int → List Occ → List Occ → List Occ → List Occ → P3) (mode : Int) (a b : List Occ) : List Occ × Bool :=
  if fits mode [] [] a b then told (both (stp mode) a b (tms (a ++ b))).c else ([], false)

set_option maxHeartbeats 4000000 in
set_option maxRecDepth 100000 in
theorem seqOf_any (mode : Int) (A B : Option Addr) (ca cb : Nat) (a b : List Occ) (w : World) (hA : IsL w a A ca) (hB : IsL w b B cb) :
    Calls Tryz.prog 67 #[.int .i64 mode, .slice A a.length ca, .slice B b.length cb, .func (.func 68) #[] #[]] w fun e w' => ToldOut w w' (ofI seq3 mode a b) e := by
  have hf := pairFits_any mode none none A B 0 0 ca cb [] [] a b w (IsL.nil _) (IsL.nil _) hA hB
  cases hq : fits mode [] [] a b with
  | false =>
    have HE := Aside0.mk (show ofI seq3 mode a b = ([], false) by unfold ofI; rw [hq]; rfl)
    rw [hq] at hf
    clear hq
    go_enter Tryz.func67, Tryz.ntmps67
    go_wp2_with (go_at_call 109; refine hf.mono ?_; rintro e w2 ⟨rfl, hb2⟩; have HB2 := Aside0.mk hb2; clear hb2)
    go_ret2
    exact ⟨.slice none 0 0, by rw [HE.out]; rfl, by rw [HE.out]; exact Kd.S_nil _ _ _ _ _, HB2.out⟩
  | true =>
    have HE := Aside0.mk (show ofI seq3 mode a b = told (both (seq3 mode) a b (tms (a ++ b))).c by unfold ofI; rw [hq]; rfl)
    rw [hq] at hf
    obtain ⟨hm, _, _, ⟨ha, na⟩, ⟨hb, nb⟩⟩ := fits_iff.1 hq
    clear hq
    have hfl : ([a, b] : List (List Occ)).flatten = a ++ b := by simp
    have htm : Lib.compact ((tos [a, b]).mergeSort Lays.leb) = tms (a ++ b) := by
      have := times_tms (ls := [a, b]) (by rw [hfl]; intro o ho; rcases List.mem_append.1 ho with h | h; exact ha.all o h; exact hb.all o h)
      rw [this, hfl]
    have hfn : ([a, b] : List (List Occ)).flatten.length ≤ 1048576 := by rw [hfl, List.length_append]; omega
    have HTM := Aside0.mk htm
    have HFN := Aside0.mk hfn
    have HA := Aside0.mk hA
    have HB := Aside0.mk hB
    have HKA := Aside0.mk ha
    have HKB := Aside0.mk hb
    have HASC := Aside0.mk (asc_tms (a ++ b))
    have HSTEP := Aside0.mk (seq3_step hm)
    clear hfl htm hfn hA hB ha hb
    go_enter Tryz.func67, Tryz.ntmps67
    go_upto_region 5 with (go_at_call 109; refine hf.mono ?_; rintro e w2 ⟨rfl, hb2⟩; have HB2 := Aside0.mk hb2; clear hb2)
    have bN0 := blk_new w2 (.cells #[.slice none 0 0, .slice none 0 0] 78)
    have HW1 := Aside0.mk (below_then HB2.out HB2.out.size (below_alloc (Below.refl _ _) (.cells #[.slice none 0 0, .slice none 0 0] 78)))
    obtain ⟨N, hN⟩ : ∃ N, N = w2.heap.size := ⟨_, rfl⟩
    have hNw : w.heap.size ≤ N := by rw [hN]; exact HB2.out.size
    rw [← hN] at bN0 ⊢
    generalize w2.alloc (.cells #[.slice none 0 0, .slice none 0 0] 78) = W1 at bN0 HW1 ⊢
    clear hN HB2
    have bg := blk_new W1 (.cells #[.slice A a.length ca, .slice B b.length cb] 23)
    have HW2 := Aside0.mk (below_then HW1.out HW1.out.size (below_alloc (Below.refl _ _) (.cells #[.slice A a.length ca, .slice B b.length cb] 23)))
    have hts := times_any (some ⟨W1.heap.size, 0, none⟩) 2 [a, b] _ HFN.out (two_L bg (HA.out.below HW2.out) (HB.out.below HW2.out))
    rw [HTM.out] at hts
    have bN1 := blk_alloc bN0 (.cells #[.slice A a.length ca, .slice B b.length cb] 23)
    have htl : (tms (a ++ b)).length ≤ 2000 := by unfold tms; exact Nat.le_trans (List.length_filter_le _ _) (by simp)
    generalize htd : tms (a ++ b) = ts at *
    have HTD := Aside0.mk htd
    clear htd
    go_wp2_with (go_at_call 98; refine hts.mono ?_; rintro e w3 ⟨At, ct, rfl, hrt, hb3⟩; have bN3 := blk_below bN1 hb3; have HB3 := Aside0.mk (below_then HW2.out HW2.out.size hb3); have HRT := Aside0.mk hrt; clear hrt hb3)
    have hk0 : tms [] = [] := rfl
    clear hk0
    have HM : Aside0 (BothMem w w3 N (both (seq3 mode) a b (ts.take 0)) (.slice none 0 0) none none 0 0 0 0) := ⟨⟨bN3, rfl, rfl, IsL.nil _, IsL.nil _, ⟨none, 0, rfl, IsL.nil _⟩, HB3.out⟩⟩
    clear bN0 bN1 bN3 bg hts hf
    go_loopw [11, 27] (fun vo vi wr => ∃ (k : Nat) (v : Value) (Al Ar : Option Addr) (nl nr cl cr : Nat), k ≤ ts.length ∧ vi = .int .i64 k ∧ v = vo ∧ Aside0 (BothMem w wr N (both (seq3 mode) a b (ts.take k)) v Al Ar nl nr cl cr) ∧ Aside0 ((Kd.int .i64).C wr At ts.length ts)) (fun _ vi _ => ts.length - (intOf vi).toNat)
    case atStart => exact ⟨0, _, _, _, _, _, _, _, Nat.zero_le _, rfl, rfl, HM, HRT⟩
    case round =>
      clear HM HRT
      obtain ⟨k, vo, Al, Ar, nl, nr, cl, cr, hk, rfl, rfl, HM, HRT⟩ := hrel
      have HBO := Aside0.mk (both_ok HSTEP.out HKA.out HKB.out na nb HASC.out k hk)
      have bN := HM.out.bN
      have hNs := blk_lt bN
      have hn1 := HM.out.nl
      have hn2 := HM.out.nr
      subst hn1
      subst hn2
      obtain ⟨Ao, co, hvo, hLo⟩ := HM.out.out
      subst hvo
      have HLa := Aside0.mk HM.out.la
      have HLb := Aside0.mk HM.out.lb
      have HLo := Aside0.mk hLo
      have HBel := Aside0.mk HM.out.bel
      clear HM hLo
      by_cases hlt : k < ts.length
      · obtain ⟨ad, rfl, hcell⟩ := at1 HRT.out k hlt
        have HT := Aside0.mk (both_take (stp := seq3 mode) (a := a) (b := b) hlt)
        obtain ⟨hNX, hl1, hl2⟩ := bothOk_step HSTEP.out HKA.out HKB.out na nb HASC.out hlt HBO.out
        generalize ts.getD k 0 = t at hcell HT hNX hl1 hl2
        have HX := Aside0.mk hNX
        generalize hst : both (seq3 mode) a b (ts.take k) = st at *
        have HST := Aside0.mk hst
        have HKa := Aside0.mk (show AreOk (atT a t) from HKA.out.filter _)
        have HKb := Aside0.mk (show AreOk (atT b t) from HKB.out.filter _)
        have HSA := Aside0.mk (HSTEP.out.ok HBO.out.ka HBO.out.kb HKa.out HKb.out (by omega) (by omega))
        have hcl := HSTEP.out.lc HBO.out.ka HBO.out.kb HKa.out HKb.out hl1 hl2
        have hol := HBO.out.lc
        have hs1 := sumAt_mono (l := a) HASC.out k
        have hs2 := sumAt_mono (l := b) HASC.out k
        have hf1 : (atT a t).length ≤ a.length := List.length_filter_le _ _
        have hf2 : (atT b t).length ≤ b.length := List.length_filter_le _ _
        have HCA := Aside0.mk (HA.out.below HBel.out)
        have HCB := Aside0.mk (HB.out.below HBel.out)
        clear hst hNX
        go_upto_region 8 with fail
        have F : ∀ w', Below wr.heap.size wr w' → w'.cell? ⟨N, 0, none⟩ = some (.slice Al st.a.length cl) ∧ w'.cell? ⟨N, 1, none⟩ = some (.slice Ar st.b.length cr) :=
          fun w' h => ⟨pw_cell_below h ((blk_cell bN 0).trans rfl), pw_cell_below h ((blk_cell bN 1).trans rfl)⟩
        go_region_held3 (fun w' => w'.cell? ⟨N, 0, none⟩ = some (.slice Al st.a.length cl) ∧ w'.cell? ⟨N, 1, none⟩ = some (.slice Ar st.b.length cr))
          (first | (with_reducible exact F _ (Below.refl _ _)) | (with_reducible exact F _ (below_drew (Below.refl _ _))) | (with_reducible exact F _ HB5) | (with_reducible exact F _ HB6) | (with_reducible exact F _ HB7) | (with_reducible exact F _ (below_alloc HB7 _)) | (with_reducible exact F _ (below_alloc HB6 _)) | (with_reducible exact F _ (below_alloc HB5 _)) | (with_reducible exact F _ (below_alloc (below_drew (Below.refl _ _)) _)) | (with_reducible exact F _ (below_drew (below_alloc (Below.refl _ _) _))) | (with_reducible exact ⟨j0 _ _, j1 _ _⟩) | (with_reducible exact ⟨jj0 _ _ _, jj1 _ _ _⟩))
          (first
            | (go_at_call 68; refine (seq_any mode hm Al Ar X Y cl cr cx cy st.a st.b (atT a t) (atT b t) _ HBO.out.ka HKa.out.all HKb.out.all (by omega) (by omega) (HLa.out.below HB6) (HLb.out.below HB6) HX6.out HY6.out).mono ?_; rintro e w7 ⟨A7, c7, B7, d7, Af, cf, rfl, hl7, hr7, hf7, hb7⟩; have HL7 := Aside0.mk (show IsL w7 (seq3 mode st.a st.b (atT a t) (atT b t)).a A7 c7 from hl7); have HR7 := Aside0.mk (show IsL w7 (seq3 mode st.a st.b (atT a t) (atT b t)).b B7 d7 from hr7); have HF7 := Aside0.mk (show IsL w7 (seq3 mode st.a st.b (atT a t) (atT b t)).c Af cf from hf7); have HB7 : Below wr.heap.size wr w7 := below_then HB6 HB6.size hb7; have bN7 := blk_below bN HB7; (try (have bM7 := blk_below bM6 hb7; have m0 := (blk_cell bM7 0).trans rfl; have m1 := (blk_cell bM7 1).trans rfl; have g0 := blk_frozen bM7 0; have g1 := blk_frozen bM7 1; have j0 : ∀ u0 u1, ((w7.setCell ⟨w5.heap.size, 0, none⟩ u0).setCell ⟨w5.heap.size, 1, none⟩ u1).cell? ⟨N, 0, none⟩ = some (.slice Al st.a.length cl) := fun u0 u1 => (blk_cell (blk_far (blk_far bN7 (p := ⟨w5.heap.size, 0, none⟩) hNM u0) (p := ⟨w5.heap.size, 1, none⟩) hNM u1) 0).trans rfl; have j1 : ∀ u0 u1, ((w7.setCell ⟨w5.heap.size, 0, none⟩ u0).setCell ⟨w5.heap.size, 1, none⟩ u1).cell? ⟨N, 1, none⟩ = some (.slice Ar st.b.length cr) := fun u0 u1 => (blk_cell (blk_far (blk_far bN7 (p := ⟨w5.heap.size, 0, none⟩) hNM u0) (p := ⟨w5.heap.size, 1, none⟩) hNM u1) 1).trans rfl)); (try (have bM7 := blk_below (blk_below bM5 hb65) hb7; have m0 := (blk_cell bM7 0).trans rfl; have m1 := (blk_cell bM7 1).trans rfl; have g0 := blk_frozen bM7 0; have g1 := blk_frozen bM7 1; have j0 : ∀ u0 u1, ((w7.setCell ⟨wr.heap.size, 0, none⟩ u0).setCell ⟨wr.heap.size, 1, none⟩ u1).cell? ⟨N, 0, none⟩ = some (.slice Al st.a.length cl) := fun u0 u1 => (blk_cell (blk_far (blk_far bN7 (p := ⟨wr.heap.size, 0, none⟩) hNM u0) (p := ⟨wr.heap.size, 1, none⟩) hNM u1) 0).trans rfl; have j1 : ∀ u0 u1, ((w7.setCell ⟨wr.heap.size, 0, none⟩ u0).setCell ⟨wr.heap.size, 1, none⟩ u1).cell? ⟨N, 1, none⟩ = some (.slice Ar st.b.length cr) := fun u0 u1 => (blk_cell (blk_far (blk_far bN7 (p := ⟨wr.heap.size, 0, none⟩) hNM u0) (p := ⟨wr.heap.size, 1, none⟩) hNM u1) 1).trans rfl)); have hN8 : N ≠ w7.heap.size := Nat.ne_of_lt (blk_lt bN7); have jj0 : ∀ ob u0 u1, (((w7.alloc ob).setCell ⟨w7.heap.size, 0, none⟩ u0).setCell ⟨w7.heap.size, 1, none⟩ u1).cell? ⟨N, 0, none⟩ = some (.slice Al st.a.length cl) := fun ob u0 u1 => (blk_cell (blk_far (blk_far (blk_alloc bN7 ob) (p := ⟨w7.heap.size, 0, none⟩) hN8 u0) (p := ⟨w7.heap.size, 1, none⟩) hN8 u1) 0).trans rfl; have jj1 : ∀ ob u0 u1, (((w7.alloc ob).setCell ⟨w7.heap.size, 0, none⟩ u0).setCell ⟨w7.heap.size, 1, none⟩ u1).cell? ⟨N, 1, none⟩ = some (.slice Ar st.b.length cr) := fun ob u0 u1 => (blk_cell (blk_far (blk_far (blk_alloc bN7 ob) (p := ⟨w7.heap.size, 0, none⟩) hN8 u0) (p := ⟨w7.heap.size, 1, none⟩) hN8 u1) 1).trans rfl; clear hl7 hr7 hf7 hb7)
            | (go_at_call 68; refine (seq_any mode hm Al Ar X Y cl cr cx cy st.a st.b (atT a t) (atT b t) _ HBO.out.ka HKa.out.all HKb.out.all (by omega) (by omega) (HLa.out.below (below_alloc HB6 _)) (HLb.out.below (below_alloc HB6 _)) (HX6.out.below (below_alloc (Below.refl _ _) _)) (HY6.out.below (below_alloc (Below.refl _ _) _))).mono ?_; rintro e w7 ⟨A7, c7, B7, d7, Af, cf, rfl, hl7, hr7, hf7, hb7⟩; have HL7 := Aside0.mk (show IsL w7 (seq3 mode st.a st.b (atT a t) (atT b t)).a A7 c7 from hl7); have HR7 := Aside0.mk (show IsL w7 (seq3 mode st.a st.b (atT a t) (atT b t)).b B7 d7 from hr7); have HF7 := Aside0.mk (show IsL w7 (seq3 mode st.a st.b (atT a t) (atT b t)).c Af cf from hf7); have hB6a : Below wr.heap.size wr (w6.alloc (.cells #[.slice none 0 0, .slice none 0 0] 78)) := below_alloc HB6 _; have HB7 : Below wr.heap.size wr w7 := below_then hB6a hB6a.size hb7; have bN7 := blk_below bN HB7; have hNM : N ≠ w6.heap.size := Nat.ne_of_lt (blk_lt (blk_below bN HB6)); have hMw : w.heap.size ≤ w6.heap.size := Nat.le_trans HBel.out.size HB6.size; have bM7 := blk_below (blk_new w6 (.cells #[.slice none 0 0, .slice none 0 0] 78)) hb7; have m0 := (blk_cell bM7 0).trans rfl; have m1 := (blk_cell bM7 1).trans rfl; have g0 := blk_frozen bM7 0; have g1 := blk_frozen bM7 1; have j0 : ∀ u0 u1, ((w7.setCell ⟨w6.heap.size, 0, none⟩ u0).setCell ⟨w6.heap.size, 1, none⟩ u1).cell? ⟨N, 0, none⟩ = some (.slice Al st.a.length cl) := fun u0 u1 => (blk_cell (blk_far (blk_far bN7 (p := ⟨w6.heap.size, 0, none⟩) hNM u0) (p := ⟨w6.heap.size, 1, none⟩) hNM u1) 0).trans rfl; have j1 : ∀ u0 u1, ((w7.setCell ⟨w6.heap.size, 0, none⟩ u0).setCell ⟨w6.heap.size, 1, none⟩ u1).cell? ⟨N, 1, none⟩ = some (.slice Ar st.b.length cr) := fun u0 u1 => (blk_cell (blk_far (blk_far bN7 (p := ⟨w6.heap.size, 0, none⟩) hNM u0) (p := ⟨w6.heap.size, 1, none⟩) hNM u1) 1).trans rfl; have hN8 : N ≠ w7.heap.size := Nat.ne_of_lt (blk_lt bN7); have jj0 : ∀ ob u0 u1, (((w7.alloc ob).setCell ⟨w7.heap.size, 0, none⟩ u0).setCell ⟨w7.heap.size, 1, none⟩ u1).cell? ⟨N, 0, none⟩ = some (.slice Al st.a.length cl) := fun ob u0 u1 => (blk_cell (blk_far (blk_far (blk_alloc bN7 ob) (p := ⟨w7.heap.size, 0, none⟩) hN8 u0) (p := ⟨w7.heap.size, 1, none⟩) hN8 u1) 0).trans rfl; have jj1 : ∀ ob u0 u1, (((w7.alloc ob).setCell ⟨w7.heap.size, 0, none⟩ u0).setCell ⟨w7.heap.size, 1, none⟩ u1).cell? ⟨N, 1, none⟩ = some (.slice Ar st.b.length cr) := fun ob u0 u1 => (blk_cell (blk_far (blk_far (blk_alloc bN7 ob) (p := ⟨w7.heap.size, 0, none⟩) hN8 u0) (p := ⟨w7.heap.size, 1, none⟩) hN8 u1) 1).trans rfl; clear hl7 hr7 hf7 hb7)
            | (go_at_call 99; refine (at_any B cb b t _ (by omega) (HCB.out.below HB5)).mono ?_; rintro e w6 ⟨Y, cy, rfl, hx, hb6⟩; have HB6 : Below wr.heap.size wr w6 := below_then HB5 HB5.size hb6; have hb65 := hb6; have HX6 := Aside0.mk (HX5.out.below hb6); have HY6 := Aside0.mk hx; clear hx hb6)
            | (go_at_call 99; refine (at_any B cb b t _ (by omega) (HCB.out.below (below_alloc HB5 _))).mono ?_; rintro e w6 ⟨Y, cy, rfl, hx, hb6⟩; have hB5a : Below wr.heap.size wr (w5.alloc (.cells #[.slice none 0 0, .slice none 0 0] 78)) := below_alloc HB5 _; have HB6 : Below wr.heap.size wr w6 := below_then hB5a hB5a.size hb6; have hNM : N ≠ w5.heap.size := Nat.ne_of_lt (blk_lt (blk_below bN HB5)); have hMw : w.heap.size ≤ w5.heap.size := Nat.le_trans HBel.out.size HB5.size; have bM6 := blk_below (blk_new w5 (.cells #[.slice none 0 0, .slice none 0 0] 78)) hb6; have HX6 := Aside0.mk ((HX5.out.below (below_alloc (Below.refl _ _) _)).below hb6); have HY6 := Aside0.mk hx; clear hx hb6)
            | (go_at_call 99; refine (at_any A ca a t _ (by omega) (HCA.out.below HB5)).mono ?_; rintro e w6 ⟨X, cx, rfl, hx, hb6⟩; have HB6 : Below wr.heap.size wr w6 := below_then HB5 HB5.size hb6; have hb65 := hb6; have HY6 := Aside0.mk (HY5.out.below hb6); have HX6 := Aside0.mk hx; clear hx hb6)
            | (go_at_call 99; refine (at_any A ca a t _ (by omega) (HCA.out.below (below_alloc HB5 _))).mono ?_; rintro e w6 ⟨X, cx, rfl, hx, hb6⟩; have hB5a : Below wr.heap.size wr (w5.alloc (.cells #[.slice none 0 0, .slice none 0 0] 78)) := below_alloc HB5 _; have HB6 : Below wr.heap.size wr w6 := below_then hB5a hB5a.size hb6; have hNM : N ≠ w5.heap.size := Nat.ne_of_lt (blk_lt (blk_below bN HB5)); have hMw : w.heap.size ≤ w5.heap.size := Nat.le_trans HBel.out.size HB5.size; have bM6 := blk_below (blk_new w5 (.cells #[.slice none 0 0, .slice none 0 0] 78)) hb6; have HY6 := Aside0.mk ((HY5.out.below (below_alloc (Below.refl _ _) _)).below hb6); have HX6 := Aside0.mk hx; clear hx hb6)
            | (go_at_call 99; refine (at_any A ca a t _ (by omega) (HCA.out.below (below_drew (Below.refl _ _)))).mono ?_; rintro e w5 ⟨X, cx, rfl, hx, hb5⟩; have HB5 : Below wr.heap.size wr w5 := keepD hb5; have HX5 := Aside0.mk hx; clear hx hb5)
            | (go_at_call 99; refine (at_any A ca a t _ (by omega) (HCA.out.below (below_alloc (below_drew (Below.refl _ _)) _))).mono ?_; rintro e w5 ⟨X, cx, rfl, hx, hb5⟩; have hB5a : Below wr.heap.size wr (wr.drew.alloc (.cells #[.slice none 0 0, .slice none 0 0] 78)) := below_alloc (below_drew (Below.refl _ _)) _; have HB5 : Below wr.heap.size wr w5 := below_then hB5a hB5a.size hb5; have hNM : N ≠ wr.heap.size := by { omega }; have hMw : w.heap.size ≤ wr.heap.size := HBel.out.size; have bM5 : w5.heap[wr.heap.size]? = some (.cells #[.slice none 0 0, .slice none 0 0] 78 (0, 0)) := blk_below (blk_new wr.drew (.cells #[.slice none 0 0, .slice none 0 0] 78)) hb5; have HX5 := Aside0.mk hx; clear hx hb5)
            | (go_at_call 99; refine (at_any B cb b t _ (by omega) (HCB.out.below (below_drew (Below.refl _ _)))).mono ?_; rintro e w5 ⟨Y, cy, rfl, hx, hb5⟩; have HB5 : Below wr.heap.size wr w5 := keepD hb5; have HY5 := Aside0.mk hx; clear hx hb5)
            | (go_at_call 99; refine (at_any B cb b t _ (by omega) (HCB.out.below (below_alloc (below_drew (Below.refl _ _)) _))).mono ?_; rintro e w5 ⟨Y, cy, rfl, hx, hb5⟩; have hB5a : Below wr.heap.size wr (wr.drew.alloc (.cells #[.slice none 0 0, .slice none 0 0] 78)) := below_alloc (below_drew (Below.refl _ _)) _; have HB5 : Below wr.heap.size wr w5 := below_then hB5a hB5a.size hb5; have hNM : N ≠ wr.heap.size := by { omega }; have hMw : w.heap.size ≤ wr.heap.size := HBel.out.size; have bM5 : w5.heap[wr.heap.size]? = some (.cells #[.slice none 0 0, .slice none 0 0] 78 (0, 0)) := blk_below (blk_new wr.drew (.cells #[.slice none 0 0, .slice none 0 0] 78)) hb5; have HY5 := Aside0.mk hx; clear hx hb5))
        all_goals
          first
            | (have bM9 : ((w7.setCell ⟨w6.heap.size, 0, none⟩ (.slice A7 (seqI mode st.a (atT a t) (atT b t)).1.length c7)).setCell ⟨w6.heap.size, 1, none⟩ (.slice B7 st.b.length d7)).heap[w6.heap.size]? = some (.cells #[.slice A7 (seqI mode st.a (atT a t) (atT b t)).1.length c7, .slice B7 st.b.length d7] 78 (0, 0)) := set2_blk _ _ bM7; have bN9 : ((w7.setCell ⟨w6.heap.size, 0, none⟩ (.slice A7 (seqI mode st.a (atT a t) (atT b t)).1.length c7)).setCell ⟨w6.heap.size, 1, none⟩ (.slice B7 st.b.length d7)).heap[N]? = some (.cells #[.slice Al st.a.length cl, .slice Ar st.b.length cr] 78 (0, 0)) := blk_far (blk_far bN7 (p := ⟨w6.heap.size, 0, none⟩) hNM _) (p := ⟨w6.heap.size, 1, none⟩) hNM _; have hNM9 : N ≠ w6.heap.size := hNM; have HL9 : Aside0 (IsL ((w7.setCell ⟨w6.heap.size, 0, none⟩ (.slice A7 (seqI mode st.a (atT a t) (atT b t)).1.length c7)).setCell ⟨w6.heap.size, 1, none⟩ (.slice B7 st.b.length d7)) (seq3 mode st.a st.b (atT a t) (atT b t)).a A7 c7) := ⟨IsL.set2 bM7 HL7.out⟩; have HR9 : Aside0 (IsL ((w7.setCell ⟨w6.heap.size, 0, none⟩ (.slice A7 (seqI mode st.a (atT a t) (atT b t)).1.length c7)).setCell ⟨w6.heap.size, 1, none⟩ (.slice B7 st.b.length d7)) (seq3 mode st.a st.b (atT a t) (atT b t)).b B7 d7) := ⟨IsL.set2 bM7 HR7.out⟩; have HF9 : Aside0 (IsL ((w7.setCell ⟨w6.heap.size, 0, none⟩ (.slice A7 (seqI mode st.a (atT a t) (atT b t)).1.length c7)).setCell ⟨w6.heap.size, 1, none⟩ (.slice B7 st.b.length d7)) (seq3 mode st.a st.b (atT a t) (atT b t)).c Af cf) := ⟨IsL.set2 bM7 HF7.out⟩; have HLo9 : Aside0 (IsL ((w7.setCell ⟨w6.heap.size, 0, none⟩ (.slice A7 (seqI mode st.a (atT a t) (atT b t)).1.length c7)).setCell ⟨w6.heap.size, 1, none⟩ (.slice B7 st.b.length d7)) st.c Ao co) := ⟨IsL.set2 bM7 (HLo.out.below HB7)⟩; have HRT9 : Aside0 ((Kd.int .i64).C ((w7.setCell ⟨w6.heap.size, 0, none⟩ (.slice A7 (seqI mode st.a (atT a t) (atT b t)).1.length c7)).setCell ⟨w6.heap.size, 1, none⟩ (.slice B7 st.b.length d7)) (some ad) ts.length ts) := ⟨ints_set2 bM7 (Kd.C_below HRT.out HB7)⟩; have HBE : Aside0 (Below w.heap.size w ((w7.setCell ⟨w6.heap.size, 0, none⟩ (.slice A7 (seqI mode st.a (atT a t) (atT b t)).1.length c7)).setCell ⟨w6.heap.size, 1, none⟩ (.slice B7 st.b.length d7))) := ⟨set2_below (below_then HBel.out HBel.out.size HB7) hMw _ _⟩; generalize ((w7.setCell ⟨w6.heap.size, 0, none⟩ (.slice A7 (seqI mode st.a (atT a t) (atT b t)).1.length c7)).setCell ⟨w6.heap.size, 1, none⟩ (.slice B7 st.b.length d7)) = WE at bM9 bN9 HL9 HR9 HF9 HLo9 HRT9 HBE ⊢)
            | (have bM9 : ((w7.setCell ⟨w5.heap.size, 0, none⟩ (.slice A7 (seqI mode st.a (atT a t) (atT b t)).1.length c7)).setCell ⟨w5.heap.size, 1, none⟩ (.slice B7 st.b.length d7)).heap[w5.heap.size]? = some (.cells #[.slice A7 (seqI mode st.a (atT a t) (atT b t)).1.length c7, .slice B7 st.b.length d7] 78 (0, 0)) := set2_blk _ _ bM7; have bN9 : ((w7.setCell ⟨w5.heap.size, 0, none⟩ (.slice A7 (seqI mode st.a (atT a t) (atT b t)).1.length c7)).setCell ⟨w5.heap.size, 1, none⟩ (.slice B7 st.b.length d7)).heap[N]? = some (.cells #[.slice Al st.a.length cl, .slice Ar st.b.length cr] 78 (0, 0)) := blk_far (blk_far bN7 (p := ⟨w5.heap.size, 0, none⟩) hNM _) (p := ⟨w5.heap.size, 1, none⟩) hNM _; have hNM9 : N ≠ w5.heap.size := hNM; have HL9 : Aside0 (IsL ((w7.setCell ⟨w5.heap.size, 0, none⟩ (.slice A7 (seqI mode st.a (atT a t) (atT b t)).1.length c7)).setCell ⟨w5.heap.size, 1, none⟩ (.slice B7 st.b.length d7)) (seq3 mode st.a st.b (atT a t) (atT b t)).a A7 c7) := ⟨IsL.set2 bM7 HL7.out⟩; have HR9 : Aside0 (IsL ((w7.setCell ⟨w5.heap.size, 0, none⟩ (.slice A7 (seqI mode st.a (atT a t) (atT b t)).1.length c7)).setCell ⟨w5.heap.size, 1, none⟩ (.slice B7 st.b.length d7)) (seq3 mode st.a st.b (atT a t) (atT b t)).b B7 d7) := ⟨IsL.set2 bM7 HR7.out⟩; have HF9 : Aside0 (IsL ((w7.setCell ⟨w5.heap.size, 0, none⟩ (.slice A7 (seqI mode st.a (atT a t) (atT b t)).1.length c7)).setCell ⟨w5.heap.size, 1, none⟩ (.slice B7 st.b.length d7)) (seq3 mode st.a st.b (atT a t) (atT b t)).c Af cf) := ⟨IsL.set2 bM7 HF7.out⟩; have HLo9 : Aside0 (IsL ((w7.setCell ⟨w5.heap.size, 0, none⟩ (.slice A7 (seqI mode st.a (atT a t) (atT b t)).1.length c7)).setCell ⟨w5.heap.size, 1, none⟩ (.slice B7 st.b.length d7)) st.c Ao co) := ⟨IsL.set2 bM7 (HLo.out.below HB7)⟩; have HRT9 : Aside0 ((Kd.int .i64).C ((w7.setCell ⟨w5.heap.size, 0, none⟩ (.slice A7 (seqI mode st.a (atT a t) (atT b t)).1.length c7)).setCell ⟨w5.heap.size, 1, none⟩ (.slice B7 st.b.length d7)) (some ad) ts.length ts) := ⟨ints_set2 bM7 (Kd.C_below HRT.out HB7)⟩; have HBE : Aside0 (Below w.heap.size w ((w7.setCell ⟨w5.heap.size, 0, none⟩ (.slice A7 (seqI mode st.a (atT a t) (atT b t)).1.length c7)).setCell ⟨w5.heap.size, 1, none⟩ (.slice B7 st.b.length d7))) := ⟨set2_below (below_then HBel.out HBel.out.size HB7) hMw _ _⟩; generalize ((w7.setCell ⟨w5.heap.size, 0, none⟩ (.slice A7 (seqI mode st.a (atT a t) (atT b t)).1.length c7)).setCell ⟨w5.heap.size, 1, none⟩ (.slice B7 st.b.length d7)) = WE at bM9 bN9 HL9 HR9 HF9 HLo9 HRT9 HBE ⊢)
            | (have bM9 : ((w7.setCell ⟨wr.heap.size, 0, none⟩ (.slice A7 (seqI mode st.a (atT a t) (atT b t)).1.length c7)).setCell ⟨wr.heap.size, 1, none⟩ (.slice B7 st.b.length d7)).heap[wr.heap.size]? = some (.cells #[.slice A7 (seqI mode st.a (atT a t) (atT b t)).1.length c7, .slice B7 st.b.length d7] 78 (0, 0)) := set2_blk _ _ bM7; have bN9 : ((w7.setCell ⟨wr.heap.size, 0, none⟩ (.slice A7 (seqI mode st.a (atT a t) (atT b t)).1.length c7)).setCell ⟨wr.heap.size, 1, none⟩ (.slice B7 st.b.length d7)).heap[N]? = some (.cells #[.slice Al st.a.length cl, .slice Ar st.b.length cr] 78 (0, 0)) := blk_far (blk_far bN7 (p := ⟨wr.heap.size, 0, none⟩) hNM _) (p := ⟨wr.heap.size, 1, none⟩) hNM _; have hNM9 : N ≠ wr.heap.size := hNM; have HL9 : Aside0 (IsL ((w7.setCell ⟨wr.heap.size, 0, none⟩ (.slice A7 (seqI mode st.a (atT a t) (atT b t)).1.length c7)).setCell ⟨wr.heap.size, 1, none⟩ (.slice B7 st.b.length d7)) (seq3 mode st.a st.b (atT a t) (atT b t)).a A7 c7) := ⟨IsL.set2 bM7 HL7.out⟩; have HR9 : Aside0 (IsL ((w7.setCell ⟨wr.heap.size, 0, none⟩ (.slice A7 (seqI mode st.a (atT a t) (atT b t)).1.length c7)).setCell ⟨wr.heap.size, 1, none⟩ (.slice B7 st.b.length d7)) (seq3 mode st.a st.b (atT a t) (atT b t)).b B7 d7) := ⟨IsL.set2 bM7 HR7.out⟩; have HF9 : Aside0 (IsL ((w7.setCell ⟨wr.heap.size, 0, none⟩ (.slice A7 (seqI mode st.a (atT a t) (atT b t)).1.length c7)).setCell ⟨wr.heap.size, 1, none⟩ (.slice B7 st.b.length d7)) (seq3 mode st.a st.b (atT a t) (atT b t)).c Af cf) := ⟨IsL.set2 bM7 HF7.out⟩; have HLo9 : Aside0 (IsL ((w7.setCell ⟨wr.heap.size, 0, none⟩ (.slice A7 (seqI mode st.a (atT a t) (atT b t)).1.length c7)).setCell ⟨wr.heap.size, 1, none⟩ (.slice B7 st.b.length d7)) st.c Ao co) := ⟨IsL.set2 bM7 (HLo.out.below HB7)⟩; have HRT9 : Aside0 ((Kd.int .i64).C ((w7.setCell ⟨wr.heap.size, 0, none⟩ (.slice A7 (seqI mode st.a (atT a t) (atT b t)).1.length c7)).setCell ⟨wr.heap.size, 1, none⟩ (.slice B7 st.b.length d7)) (some ad) ts.length ts) := ⟨ints_set2 bM7 (Kd.C_below HRT.out HB7)⟩; have HBE : Aside0 (Below w.heap.size w ((w7.setCell ⟨wr.heap.size, 0, none⟩ (.slice A7 (seqI mode st.a (atT a t) (atT b t)).1.length c7)).setCell ⟨wr.heap.size, 1, none⟩ (.slice B7 st.b.length d7))) := ⟨set2_below (below_then HBel.out HBel.out.size HB7) hMw _ _⟩; generalize ((w7.setCell ⟨wr.heap.size, 0, none⟩ (.slice A7 (seqI mode st.a (atT a t) (atT b t)).1.length c7)).setCell ⟨wr.heap.size, 1, none⟩ (.slice B7 st.b.length d7)) = WE at bM9 bN9 HL9 HR9 HF9 HLo9 HRT9 HBE ⊢)
            | (have bM9 := blk_new w7 (.cells #[.slice A7 (seqI mode st.a (atT a t) (atT b t)).1.length c7, .slice B7 st.b.length d7] 78); have bN9 := blk_alloc bN7 (.cells #[.slice A7 (seqI mode st.a (atT a t) (atT b t)).1.length c7, .slice B7 st.b.length d7] 78); have hNM9 : N ≠ w7.heap.size := hN8; have hbE := below_alloc (Below.refl w7.heap.size w7) (.cells #[.slice A7 (seqI mode st.a (atT a t) (atT b t)).1.length c7, .slice B7 st.b.length d7] 78); have HL9 := Aside0.mk (HL7.out.below hbE); have HR9 := Aside0.mk (HR7.out.below hbE); have HF9 := Aside0.mk (HF7.out.below hbE); have HLo9 := Aside0.mk (HLo.out.below (below_then HB7 HB7.size hbE)); have HRT9 := Aside0.mk (Kd.C_below HRT.out (below_then HB7 HB7.size hbE)); have HBE := Aside0.mk (below_then HBel.out HBel.out.size (below_then HB7 HB7.size hbE)); clear hbE; generalize (w7.alloc (.cells #[.slice A7 (seqI mode st.a (atT a t) (atT b t)).1.length c7, .slice B7 st.b.length d7] 78)) = WE at bM9 bN9 HL9 HR9 HF9 HLo9 HRT9 HBE ⊢)
          clear F
          have e0 := (blk_cell bM9 0).trans rfl
          have e1 := (blk_cell bM9 1).trans rfl
          have n0 := (blk_cell bN9 0).trans rfl
          have n1 := (blk_cell bN9 1).trans rfl
          have y0 := blk_frozen bN9 0
          have y1 := blk_frozen bN9 1
          go_upto_region 10 with fail
          have bNF : ((WE.setCell ⟨N, 0, none⟩ (.slice A7 (seqI mode st.a (atT a t) (atT b t)).1.length c7)).setCell ⟨N, 1, none⟩ (.slice B7 st.b.length d7)).heap[N]? = some (.cells #[.slice A7 (seqI mode st.a (atT a t) (atT b t)).1.length c7, .slice B7 st.b.length d7] 78 (0, 0)) := set2_blk _ _ bN9
          have HLF : Aside0 (IsL ((WE.setCell ⟨N, 0, none⟩ (.slice A7 (seqI mode st.a (atT a t) (atT b t)).1.length c7)).setCell ⟨N, 1, none⟩ (.slice B7 st.b.length d7)) (seq3 mode st.a st.b (atT a t) (atT b t)).a A7 c7) := ⟨IsL.set2 bN9 HL9.out⟩
          have HRF : Aside0 (IsL ((WE.setCell ⟨N, 0, none⟩ (.slice A7 (seqI mode st.a (atT a t) (atT b t)).1.length c7)).setCell ⟨N, 1, none⟩ (.slice B7 st.b.length d7)) (seq3 mode st.a st.b (atT a t) (atT b t)).b B7 d7) := ⟨IsL.set2 bN9 HR9.out⟩
          have HFF : Aside0 (IsL ((WE.setCell ⟨N, 0, none⟩ (.slice A7 (seqI mode st.a (atT a t) (atT b t)).1.length c7)).setCell ⟨N, 1, none⟩ (.slice B7 st.b.length d7)) (seq3 mode st.a st.b (atT a t) (atT b t)).c Af cf) := ⟨IsL.set2 bN9 HF9.out⟩
          have HLoF : Aside0 (IsL ((WE.setCell ⟨N, 0, none⟩ (.slice A7 (seqI mode st.a (atT a t) (atT b t)).1.length c7)).setCell ⟨N, 1, none⟩ (.slice B7 st.b.length d7)) st.c Ao co) := ⟨IsL.set2 bN9 HLo9.out⟩
          have HRTF : Aside0 ((Kd.int .i64).C ((WE.setCell ⟨N, 0, none⟩ (.slice A7 (seqI mode st.a (atT a t) (atT b t)).1.length c7)).setCell ⟨N, 1, none⟩ (.slice B7 st.b.length d7)) (some ad) ts.length ts) := ⟨ints_set2 bN9 HRT9.out⟩
          have HBF : Aside0 (Below w.heap.size w ((WE.setCell ⟨N, 0, none⟩ (.slice A7 (seqI mode st.a (atT a t) (atT b t)).1.length c7)).setCell ⟨N, 1, none⟩ (.slice B7 st.b.length d7))) := ⟨set2_below HBE.out hNw _ _⟩
          clear e0 e1 n0 n1 y0 y1 bM9 bN9 hNM9 HL9 HR9 HF9 HLo9 HRT9 HBE
          generalize (WE.setCell ⟨N, 0, none⟩ (.slice A7 (seqI mode st.a (atT a t) (atT b t)).1.length c7)).setCell ⟨N, 1, none⟩ (.slice B7 st.b.length d7) = WF at bNF HLF HRF HFF HLoF HRTF HBF ⊢
          go_wp2_with (go_at_call 71; refine (putAll_any Ao Af co cf st.c (seq3 mode st.a st.b (atT a t) (atT b t)).c _ HBO.out.kc.sorted (by omega) HLoF.out HFF.out).mono ?_; rintro e w10 ⟨A10, c10, rfl, ho10, hb10⟩; have HO10 := Aside0.mk ho10; have bN10 := blk_below bNF hb10; have HL10 := Aside0.mk (HLF.out.below hb10); have HR10 := Aside0.mk (HRF.out.below hb10); have HRT10 := Aside0.mk (Kd.C_below HRTF.out hb10); have HB10 := Aside0.mk (below_then HBF.out HBF.out.size hb10); clear ho10 hb10)
          go_roundw
          case rel => exact ⟨k + 1, _, A7, B7, _, _, c7, d7, by omega, by go_num, rfl, ⟨by rw [HT.out]; exact ⟨bN10, rfl, rfl, HL10.out, HR10.out, ⟨A10, c10, rfl, HO10.out⟩, HB10.out⟩⟩, HRT10⟩
          case measure => simp [intOf]; omega
      · have hke : k = ts.length := by omega
        subst hke
        have HE2 := Aside0.mk (show both (seq3 mode) a b (ts.take ts.length) = both (seq3 mode) a b ts by rw [List.take_length])
        have HLo2 : Aside0 (IsL wr (both (seq3 mode) a b ts).c Ao co) := ⟨by have h := HLo.out; rwa [HE2.out] at h⟩
        have HKC : Aside0 (∀ x ∈ (both (seq3 mode) a b ts).c, IsOk x) := ⟨by have h := HBO.out.kc.all; rwa [HE2.out] at h⟩
        go_wp2_with (go_at_call 70; refine (few_any Ao co (both (seq3 mode) a b ts).c _ (fun x hx => isOk_big (HKC.out x hx)) HLo2.out).mono ?_; rintro e w10 ⟨v10, rfl, hs10, hb10⟩; have HS10 := Aside0.mk hs10; have HB10 := Aside0.mk (below_then HBel.out HBel.out.size hb10); clear hs10 hb10)
        go_ret2
        exact ⟨v10, by rw [HE.out]; rfl, by rw [HE.out]; exact Kd.S_lower HS10.out HBel.out.size, HB10.out⟩
end Go.Proofs.YtccenpmaooailaaGreat.Il

/- All points in time: the program's pairs. -/
set_option linter.unusedVariables false
set_option linter.unusedSimpArgs false
namespace Go.Proofs.YtccenpmaooailaaGreat.Im
open Go.RowKit Go.Proofs.YtccenpmaooailaaGreatW.PrintWords Go.Proofs.YtccenpmaooailaaGreat.Wd Go.Proofs.YtccenpmaooailaaGreat.Pu Go.Proofs.YtccenpmaooailaaGreat.Pv Go.Proofs.YtccenpmaooailaaGreat.Ca Go.Proofs.YtccenpmaooailaaGreat.Cb Go.Proofs.YtccenpmaooailaaGreat.Cc Go.Proofs.YtccenpmaooailaaGreat.Cp Go.Proofs.YtccenpmaooailaaGreat.Cd Go.Proofs.YtccenpmaooailaaGreat.Ci Go.Proofs.YtccenpmaooailaaGreat.Ce Go.Proofs.YtccenpmaooailaaGreat.Cf Go.Proofs.YtccenpmaooailaaGreat.Cg Go.Proofs.YtccenpmaooailaaGreat.Ia Go.Proofs.YtccenpmaooailaaGreat.Ib Go.Proofs.YtccenpmaooailaaGreat.Ic Go.Proofs.YtccenpmaooailaaGreat.Id Go.Proofs.YtccenpmaooailaaGreat.Ie Go.Proofs.YtccenpmaooailaaGreat.If Go.Proofs.YtccenpmaooailaaGreat.Ig Go.Proofs.YtccenpmaooailaaGreat.Ih Go.Proofs.YtccenpmaooailaaGreat.Ij Go.Proofs.YtccenpmaooailaaGreat.Ik Go.Proofs.YtccenpmaooailaaGreat.Il


end Go.Proofs.YtccenpmaooailaaGreat.Im

/- SeqOf, AndOf, OrOf: the program's. -/
set_option linter.unusedVariables false
set_option linter.unusedSimpArgs false
namespace Go.Proofs.YtccenpmaooailaaGreat.In
open Go.RowKit Go.Proofs.YtccenpmaooailaaGreatW.PrintWords Go.Proofs.YtccenpmaooailaaGreat.Wd Go.Proofs.YtccenpmaooailaaGreat.Pu Go.Proofs.YtccenpmaooailaaGreat.Pv Go.Proofs.YtccenpmaooailaaGreat.Ca Go.Proofs.YtccenpmaooailaaGreat.Cb Go.Proofs.YtccenpmaooailaaGreat.Cc Go.Proofs.YtccenpmaooailaaGreat.Cp Go.Proofs.YtccenpmaooailaaGreat.Cd Go.Proofs.YtccenpmaooailaaGreat.Ci Go.Proofs.YtccenpmaooailaaGreat.Ce Go.Proofs.YtccenpmaooailaaGreat.Cf Go.Proofs.YtccenpmaooailaaGreat.Cg Go.Proofs.YtccenpmaooailaaGreat.Ia Go.Proofs.YtccenpmaooailaaGreat.Ib Go.Proofs.YtccenpmaooailaaGreat.Ic Go.Proofs.YtccenpmaooailaaGreat.Id Go.Proofs.YtccenpmaooailaaGreat.Ie Go.Proofs.YtccenpmaooailaaGreat.If Go.Proofs.YtccenpmaooailaaGreat.Ig Go.Proofs.YtccenpmaooailaaGreat.Ih Go.Proofs.YtccenpmaooailaaGreat.Ij Go.Proofs.YtccenpmaooailaaGreat.Ik Go.Proofs.YtccenpmaooailaaGreat.Il Go.Proofs.YtccenpmaooailaaGreat.Im

theorem sOf_any (mode : Int) (A B : Option Addr) (ca cb : Nat) (a b : List Occ) (w : World) (hA : IsL w a A ca) (hB : IsL w b B cb) :
    Calls Tryz.prog 30 #[.int .i64 mode, .slice A a.length ca, .slice B b.length cb] w fun e w' => ToldOut w w' (ofI seq3 mode a b) e := by
  have hc := seqOf_any mode A B ca cb a b w hA hB
  go_enter Tryz.func30, Tryz.ntmps30
  go_wp2_with (go_at_call 67; refine hc.mono ?_; rintro e w2 ⟨v, rfl, hs, hb⟩; have HS := Aside0.mk hs; have HB := Aside0.mk hb; clear hs hb)
  go_ret2
  exact ⟨v, rfl, HS.out, HB.out⟩
end Go.Proofs.YtccenpmaooailaaGreat.In

/- A drawn region in which the world's condition is asked only till its last operations come up. -/
set_option linter.unusedVariables false
set_option linter.unusedSimpArgs false
namespace Go.Proofs.YtccenpmaooailaaGreat.Za
open Go

section
variable {P : Program} {ops : Array Oper} {Q : Exit → Act → World → Prop} {md : Region.Mode} {S : World → Prop} {T : List Nat}
/-- any order; behind an operation outside T the world meets S -/
def Walk (P : Program) (md : Region.Mode) (ops : Array Oper) (Q : Exit → Act → World → Prop) (S : World → Prop) (T : List Nat) : Nat → Array Bool → Act → World → Prop
  | 0 => fun listed a w => Region.ready md ops listed = [] ∧ Q .normal a w
  | n + 1 => fun listed a w => (Region.ready md ops listed = [] → Q .normal a w) ∧ ∀ i, i ∈ Region.ready md ops listed → wpOp P ops Q i (fun a' w' => (i ∉ T → S w') ∧ Walk P md ops Q S T n (listed.setIfInBounds i true) a' w') a w
theorem Walk.any : ∀ {n : Nat} {listed : Array Bool} {a : Act} {w : World}, Walk P md ops Q S T n listed a w → wpAny P md ops Q n listed a w
  | 0, _, _, _, h => h
  | _ + 1, _, _, _, h => ⟨h.1, fun i hi => wpOp_mono (fun _ _ g => Walk.any g.2) (h.2 i hi)⟩
/-- what is listed leans on what is listed -/
def Closed (md : Region.Mode) (ops : Array Oper) (listed : Array Bool) : Prop := ∀ j oj, ops[j]? = some oj → listed.getD j false = true → ∀ e, e ∈ oj.after → Region.binds md e = true → listed.getD e.on false = true
def closedB (md : Region.Mode) (ops : Array Oper) (listed : Array Bool) : Bool := (List.range ops.size).all fun j => !listed.getD j false || (match ops[j]? with | some oj => oj.after.all fun e => !Region.binds md e || listed.getD e.on false | none => true)
theorem closedB_spec {listed : Array Bool} (h : closedB md ops listed = true) : Closed md ops listed := fun j oj hj hl e he hb => by
  have hlt : j < ops.size := (Array.getElem?_eq_some_iff.1 hj).1
  have h2 := List.all_eq_true.1 h j (List.mem_range.2 hlt)
  rw [hl, hj] at h2
  simp only [Bool.not_true, Bool.false_or] at h2
  have h3 := Array.all_eq_true_iff_forall_mem.1 h2 e he
  simpa [hb] using h3
def waits (md : Region.Mode) (ops : Array Oper) : Nat → Nat → Nat → Bool
  | 0, _, _ => false
  | f + 1, j, i => match ops[j]? with
    | some oj => oj.after.any fun e => Region.binds md e && (e.on == i || waits md ops f e.on i)
    | none => false
theorem waits_spec {listed : Array Bool} {i : Nat} (hc : Closed md ops listed) : ∀ (f j : Nat) (oj : Oper), ops[j]? = some oj → (∀ e, e ∈ oj.after → Region.binds md e = true → listed.getD e.on false = true) → waits md ops f j i = true → listed.getD i false = true
  | 0, _, _, _, _, h => by simp [waits] at h
  | f + 1, j, oj, hj, hall, h => by
    unfold waits at h
    rw [hj] at h
    simp only [Array.any_eq_true] at h
    obtain ⟨k, hk, h3⟩ := h
    simp only [Bool.and_eq_true, Bool.or_eq_true, beq_iff_eq] at h3
    obtain ⟨hb, h4⟩ := h3
    have hl := hall _ (Array.getElem_mem hk) hb
    rcases h4 with h4 | h4
    · rw [← h4]; exact hl
    · cases hx : ops[(oj.after[k]).on]? with
      | none =>
        cases f with
        | zero => simp [waits] at h4
        | succ f => unfold waits at h4; rw [hx] at h4; simp at h4
      | some ox => exact waits_spec hc f _ ox hx (hc _ ox hx hl) h4
theorem Closed.set {listed : Array Bool} {j : Nat} (hc : Closed md ops listed) (hj : j ∈ Region.ready md ops listed) : Closed md ops (listed.setIfInBounds j true) := by
  obtain ⟨_, oj, hoj, hall⟩ := mem_ready.1 hj
  intro k ok hk hl e he hb
  by_cases hjk : j = k
  · subst hjk
    have : ok = oj := Option.some.inj (hk.symm.trans hoj)
    subst this
    exact getD_set_true (hall e he hb)
  · rw [getD_set_ne false hjk] at hl
    exact getD_set_true (hc k ok hk hl e he hb)
theorem un_both {listed : Array Bool} {i : Nat} (h : listed.getD i true = false) : listed.getD i false = false := by
  rcases Nat.lt_or_ge i listed.size with h' | h'
  · simp [h'] at h ⊢; exact h
  · simp [Array.getElem?_eq_none h'] at h
theorem Walk.first {i : Nat} {o : Oper} {v : Value} (hi : ops[i]? = some o) (hs : Region.noSelect ops = true) (hiT : i ∉ T)
    (hT : ∀ j, j ∈ T → waits md ops ops.size j i = true) (hQ : ∀ c a w, Q (.panic c) (a.put o.dst v) w → Q (.panic c) a w) :
    ∀ {n : Nat} {listed : Array Bool} {a : Act} {w : World}, Closed md ops listed → (∀ j oj, ops[j]? = some oj → j ≠ i → listed.getD j true = false → (∀ e ∈ oj.after, Region.binds md e = true → e.on ≠ i) → o.apart ops oj = true) → i ∈ Region.ready md ops listed →
      YieldsIf P ops S o v a → S w → Walk P md ops Q S T n (listed.setIfInBounds i true) (a.put o.dst v) w → Walk P md ops Q S T (n + 1) listed a w := by
  have hsel := Region.noSelect_spec hs
  intro n
  induction n with
  | zero =>
    intro listed a w _ _ hr hy hS H
    refine ⟨fun h => (by rw [h] at hr; cases hr), fun j hj => ?_⟩
    by_cases hji : j = i
    · rw [hji]
      exact hy.wpOp hi hS ⟨fun _ => hS, H⟩
    · have := ready_mono hj hji
      rw [H.1] at this
      cases this
  | succ n ih =>
    intro listed a w hcl hfree hr hy hS H
    refine ⟨fun h => (by rw [h] at hr; cases hr), fun j hj => ?_⟩
    by_cases hji : j = i
    · subst hji
      exact hy.wpOp hi hS ⟨fun _ => hS, H⟩
    · obtain ⟨hjun, oj, hoj, hall⟩ := mem_ready.1 hj
      have hnot : ∀ e ∈ oj.after, Region.binds md e = true → e.on ≠ i := fun e he hb heq => by
        have h1 := hall e he hb
        have h0 := (mem_ready.1 hr).1
        rw [heq] at h1
        rcases Nat.lt_or_ge i listed.size with h' | h'
        · simp [h'] at h0 h1; rw [h0] at h1; cases h1
        · simp [Array.getElem?_eq_none h'] at h1
      have hjT : j ∉ T := fun h => by
        have h5 := waits_spec hcl _ j oj hoj hall (hT j h)
        rw [un_both (mem_ready.1 hr).1] at h5
        cases h5
      have h2 := wpOp_putIf hoj (hfree j oj hoj hji hjun hnot) (fun cs b => hsel i o cs b hi) (fun cs b => hsel j oj cs b hoj) hQ hy (H.2 j (ready_mono hj hji))
      refine wpOp_mono (fun a' w' h3 => ⟨fun _ => h3.2.1 hjT, ih (listed := listed.setIfInBounds j true) (hcl.set hj) (fun k ok hk hki hun hno => ?_) (ready_mono hr (Ne.symm hji)) h3.1 (h3.2.1 hjT) ?_⟩) h2
      · refine hfree k ok hk hki ?_ hno
        by_cases hjk : j = k
        · subst hjk; exact hjun
        · rw [getD_set_ne true hjk] at hun; exact hun
      · rw [Array.setIfInBounds_comm _ _ hji]
        exact h3.2.2
/-- what yields in whatever world may be taken first, too -/
theorem Walk.pure {i : Nat} {o : Oper} {v : Value} (hi : ops[i]? = some o) (hs : Region.noSelect ops = true) (hiT : i ∈ T) (hQ : ∀ c a w, Q (.panic c) (a.put o.dst v) w → Q (.panic c) a w) :
    ∀ {n : Nat} {listed : Array Bool} {a : Act} {w : World}, (∀ j oj, ops[j]? = some oj → j ≠ i → listed.getD j true = false → (∀ e ∈ oj.after, Region.binds md e = true → e.on ≠ i) → o.apart ops oj = true) → i ∈ Region.ready md ops listed →
      YieldsIf P ops (fun _ => True) o v a → Walk P md ops Q S T n (listed.setIfInBounds i true) (a.put o.dst v) w → Walk P md ops Q S T (n + 1) listed a w := by
  have hsel := Region.noSelect_spec hs
  intro n
  induction n with
  | zero =>
    intro listed a w _ hr hy H
    refine ⟨fun h => (by rw [h] at hr; cases hr), fun j hj => ?_⟩
    by_cases hji : j = i
    · rw [hji]
      exact hy.wpOp hi trivial ⟨fun h => absurd hiT h, H⟩
    · have := ready_mono hj hji
      rw [H.1] at this
      cases this
  | succ n ih =>
    intro listed a w hfree hr hy H
    refine ⟨fun h => (by rw [h] at hr; cases hr), fun j hj => ?_⟩
    by_cases hji : j = i
    · subst hji
      exact hy.wpOp hi trivial ⟨fun h => absurd hiT h, H⟩
    · obtain ⟨hjun, oj, hoj, hall⟩ := mem_ready.1 hj
      have hnot : ∀ e ∈ oj.after, Region.binds md e = true → e.on ≠ i := fun e he hb heq => by
        have h1 := hall e he hb
        have h0 := (mem_ready.1 hr).1
        rw [heq] at h1
        rcases Nat.lt_or_ge i listed.size with h' | h'
        · simp [h'] at h0 h1; rw [h0] at h1; cases h1
        · simp [Array.getElem?_eq_none h'] at h1
      have h2 := wpOp_putIf hoj (hfree j oj hoj hji hjun hnot) (fun cs b => hsel i o cs b hi) (fun cs b => hsel j oj cs b hoj) hQ hy (H.2 j (ready_mono hj hji))
      refine wpOp_mono (fun a' w' h3 => ⟨h3.2.1, ih (listed := listed.setIfInBounds j true) (fun k ok hk hki hun hno => ?_) (ready_mono hr (Ne.symm hji)) h3.1 ?_⟩) h2
      · refine hfree k ok hk hki ?_ hno
        by_cases hjk : j = k
        · subst hjk; exact hjun
        · rw [getD_set_ne true hjk] at hun; exact hun
      · rw [Array.setIfInBounds_comm _ _ hji]
        exact h3.2.2
/-- none of T comes up before number i -/
def later (md : Region.Mode) (ops : Array Oper) (T : List Nat) (listed : Array Bool) (i : Nat) : Bool :=
  closedB md ops listed && !T.contains i && T.all fun j => waits md ops ops.size j i
theorem later_spec {i : Nat} {listed : Array Bool} (h : later md ops T listed i = true) : Closed md ops listed ∧ i ∉ T ∧ ∀ j, j ∈ T → waits md ops ops.size j i = true := by
  unfold later at h
  simp only [Bool.and_eq_true] at h
  exact ⟨closedB_spec h.1.1, fun hi => by simp [hi] at h, fun j hj => List.all_eq_true.1 h.2 j hj⟩
theorem Walk.take (i : Nat) {o : Oper} {v : Value} {n : Nat} {listed : Array Bool} {a : Act} {w : World} (hi : ops[i]? = some o) (hs : Region.noSelect ops = true) (hf : Region.free md ops listed i = true) (hr : (Region.ready md ops listed).contains i = true) (hT : later md ops T listed i = true)
    (hQ : ∀ c a w, Q (.panic c) (a.put o.dst v) w → Q (.panic c) a w) (hy : YieldsIf P ops S o v a) (hS : S w) (h : Walk P md ops Q S T n (listed.setIfInBounds i true) (a.put o.dst v) w) : Walk P md ops Q S T (n + 1) listed a w :=
  Walk.first hi hs (later_spec hT).2.1 (later_spec hT).2.2 hQ (later_spec hT).1 (Region.free_spec hi hf) (by simpa using hr) hy hS h
theorem Walk.next (i : Nat) {o : Oper} {n : Nat} {listed : Array Bool} {a : Act} {w : World} (hr : Region.ready md ops listed = [i]) (ho : ops[i]? = some o)
    (h : ∀ K' : Act → World → Prop, Shut (∀ a w, ((i ∉ T → S w) ∧ Walk P md ops Q S T n (listed.setIfInBounds i true) a w) → K' a w) → if Region.wanted o (yielded ops a.tmps) = true then Oper.wp P o a w K' Q else K' (a.put o.dst undef) w) : Walk P md ops Q S T (n + 1) listed a w := by
  refine ⟨fun h0 => (by rw [hr] at h0; cases h0), fun j hj => ?_⟩
  rw [hr, List.mem_singleton] at hj
  subst hj
  exact wpOp_step ho (fun K' hK => h K' (fun a w g => hK a w g))
theorem Walk.done {n : Nat} {listed : Array Bool} {a : Act} {w : World} (hr : Region.ready md ops listed = []) (h : Q .normal a w) : Walk P md ops Q S T n listed a w := by
  cases n with
  | zero => exact ⟨hr, h⟩
  | succ n => exact ⟨fun _ => h, fun i hi => by rw [hr] at hi; cases hi⟩
theorem region_walk {id : Nat} {a : Act} {w : World} (hm : P.follows .mixedOrders = true) (h : Walk P .any ops Q S T ops.size (Array.replicate ops.size false) a w.drew) : (Code.region id ops true).wp P Q a w :=
  wp_region_any hm (Walk.any h)
end
end Go.Proofs.YtccenpmaooailaaGreat.Za
namespace Go.Proofs.YtccenpmaooailaaGreat.Za
open Go
section
variable {P : Program} {l : List Oper} {Q : Exit → Act → World → Prop} {md : Region.Mode} {S : World → Prop} {T : List Nat}
theorem takeL (i : Nat) {o : Oper} {v : Value} {n : Nat} {listed : Array Bool} {a : Act} {w : World} (hi : l[i]? = some o) (hs : Region.noSelect l.toArray = true) (hf : Region.free md l.toArray listed i = true) (hr : (Region.ready md l.toArray listed).contains i = true) (hT : later md l.toArray T listed i = true)
    (hQ : ∀ c a w, Q (.panic c) (a.put o.dst v) w → Q (.panic c) a w) (hy : YieldsIf P l.toArray S o v a) (hS : S w) (h : Walk P md l.toArray Q S T n (listed.setIfInBounds i true) (a.put o.dst v) w) : Walk P md l.toArray Q S T (n + 1) listed a w :=
  Walk.take i (by simpa using hi) hs hf hr hT hQ hy hS h
theorem pureL (i : Nat) {o : Oper} {v : Value} {n : Nat} {listed : Array Bool} {a : Act} {w : World} (hi : l[i]? = some o) (hs : Region.noSelect l.toArray = true) (hf : Region.free md l.toArray listed i = true) (hr : (Region.ready md l.toArray listed).contains i = true) (hT : T.contains i = true)
    (hQ : ∀ c a w, Q (.panic c) (a.put o.dst v) w → Q (.panic c) a w) (hy : YieldsIf P l.toArray (fun _ => True) o v a) (h : Walk P md l.toArray Q S T n (listed.setIfInBounds i true) (a.put o.dst v) w) : Walk P md l.toArray Q S T (n + 1) listed a w :=
  Walk.pure (by simpa using hi) hs (by simpa using hT) hQ (Region.free_spec (by simpa using hi) hf) (by simpa using hr) hy h
theorem nextL (i : Nat) {o : Oper} {n : Nat} {listed : Array Bool} {a : Act} {w : World} (hr : Region.ready md l.toArray listed = [i]) (ho : l[i]? = some o)
    (h : ∀ K' : Act → World → Prop, Shut (∀ a w, ((i ∉ T → S w) ∧ Walk P md l.toArray Q S T n (listed.setIfInBounds i true) a w) → K' a w) → if Region.wanted o (yielded l.toArray a.tmps) = true then Oper.wp P o a w K' Q else K' (a.put o.dst undef) w) : Walk P md l.toArray Q S T (n + 1) listed a w :=
  Walk.next i hr (by simpa using ho) h
theorem regionL {id : Nat} {a : Act} {w : World} (S : World → Prop) (T : List Nat) (hm : P.follows .mixedOrders = true) (h : Walk P .any l.toArray Q S T l.length (Array.replicate l.length false) a w.drew) : (Code.region id l.toArray true).wp P Q a w :=
  region_walk (S := S) (T := T) hm (by simpa using h)
end
end Go.Proofs.YtccenpmaooailaaGreat.Za

/- A sequence or a conjunction of what is right: the reference's. -/
set_option linter.unusedVariables false
set_option linter.unusedSimpArgs false
namespace Go.Proofs.YtccenpmaooailaaGreat.Yn
open Go.RowKit Go.Proofs.YtccenpmaooailaaGreatW.PrintWords Go.Proofs.YtccenpmaooailaaGreat.Wd Go.Proofs.YtccenpmaooailaaGreat.Pu Go.Proofs.YtccenpmaooailaaGreat.Pv Go.Proofs.YtccenpmaooailaaGreat.Ca Go.Proofs.YtccenpmaooailaaGreat.Cb Go.Proofs.YtccenpmaooailaaGreat.Cc Go.Proofs.YtccenpmaooailaaGreat.Cp Go.Proofs.YtccenpmaooailaaGreat.Cd Go.Proofs.YtccenpmaooailaaGreat.Ci Go.Proofs.YtccenpmaooailaaGreat.Ce Go.Proofs.YtccenpmaooailaaGreat.Cf Go.Proofs.YtccenpmaooailaaGreat.Cg Go.Proofs.YtccenpmaooailaaGreat.Sc Go.Proofs.YtccenpmaooailaaGreat.Se Go.Proofs.YtccenpmaooailaaGreat.Sh Go.Proofs.YtccenpmaooailaaGreat.Si Go.Proofs.YtccenpmaooailaaGreat.Sp Go.Proofs.YtccenpmaooailaaGreat.Ia Go.Proofs.YtccenpmaooailaaGreat.Ib Go.Proofs.YtccenpmaooailaaGreat.Ic Go.Proofs.YtccenpmaooailaaGreat.Id Go.Proofs.YtccenpmaooailaaGreat.Ie Go.Proofs.YtccenpmaooailaaGreat.If Go.Proofs.YtccenpmaooailaaGreat.Ig Go.Proofs.YtccenpmaooailaaGreat.Ih Go.Proofs.YtccenpmaooailaaGreat.Ij Go.Proofs.YtccenpmaooailaaGreat.Ik Go.Proofs.YtccenpmaooailaaGreat.Ra Go.Proofs.YtccenpmaooailaaGreat.Rb Go.Proofs.YtccenpmaooailaaGreat.Rc Go.Proofs.YtccenpmaooailaaGreat.Rd Go.Proofs.YtccenpmaooailaaGreat.Re Go.Proofs.YtccenpmaooailaaGreat.Sj Go.Proofs.YtccenpmaooailaaGreat.Ya Go.Proofs.YtccenpmaooailaaGreat.Yd Go.Proofs.YtccenpmaooailaaGreat.Yf Go.Proofs.YtccenpmaooailaaGreat.Yg Go.Proofs.YtccenpmaooailaaGreat.Ih Go.Proofs.YtccenpmaooailaaGreat.Yh Go.Proofs.YtccenpmaooailaaGreat.Yi Go.Proofs.YtccenpmaooailaaGreat.Sg Go.Proofs.YtccenpmaooailaaGreat.Sf Go.Proofs.YtccenpmaooailaaGreat.Yj Go.Proofs.YtccenpmaooailaaGreat.Ig Go.Proofs.YtccenpmaooailaaGreat.Yk Go.Proofs.YtccenpmaooailaaGreat.Ik Go.Proofs.YtccenpmaooailaaGreat.Yl Go.Proofs.YtccenpmaooailaaGreat.Ij Go.Proofs.YtccenpmaooailaaGreat.Ym Go.Proofs.YtccenpmaooailaaGreat.Il

variable {Wz : World}
theorem Nq.low {u v : Value} {n : Nat} (h : ∀ k, own u k → n ≤ k) (g : ∀ k, own v k → k < n) : Nq u v := fun k h1 h2 => by have := h k h1; have := g k h2; omega
theorem Core.and {w wr w2 w4 : World} {base bo P : Nat} {S : Nat → Prop} {Al Ar : Option Addr} {cl cr : Nat} {vo : Value} {st p : P3} {mode : Int} {xa xb : List Occ} {cells : Array Value} {e : Ending} (h : Core Wz w wr base bo S (.slice Al st.a.length cl) (.slice Ar st.b.length cr) vo st.a st.b st.c) (hb : Below wr.heap.size wr w2)
    (g : AndSOut Wz w2 w4 base (fun k => own (.slice Al st.a.length cl) k ∨ own (.slice Ar st.b.length cr) k) (andS mode st.a st.b xa xb) e) (hp : p = and3 mode st.a st.b xa xb) (heq : andI mode st.a st.b xa xb = andS mode st.a st.b xa xb)
    (hP : wr.heap[P]? = some (.cells cells 78 (0, 0))) (hz : Wz.heap.size ≤ base) (hPz : Wz.heap.size ≤ P) (hPw : w.heap.size ≤ P) :
    ∃ A1 c1 A2 c2 U cu, e = .returned (.tuple #[.agg #[.slice A1 p.a.length c1, .slice A2 p.b.length c2], .slice U p.c.length cu]) ∧ Fr (fun k => own (.slice Al st.a.length cl) k ∨ own (.slice Ar st.b.length cr) k) w2 w4 ∧ (w4.heap[P]? = some (.cells cells 78 (0, 0))) ∧ ∀ u0 u1, Mid Wz w wr (Id.set2 w4 P u0 u1) base bo S (.slice A1 p.a.length c1) (.slice A2 p.b.length c2) vo (.slice U p.c.length cu) p.a p.b st.c p.c := by
  obtain ⟨vL, vR, vO, rfl, g⟩ := g
  have e3 : and3 mode st.a st.b xa xb = ⟨(andS mode st.a st.b xa xb).own, (andS mode st.a st.b xa xb).oth, (andS mode st.a st.b xa xb).out⟩ := by unfold and3; rw [heq]
  rw [e3] at hp
  subst hp
  obtain ⟨A1, c1, rfl⟩ := Xw.slice g.rX
  obtain ⟨A2, c2, rfl⟩ := Xw.slice g.rY
  obtain ⟨U, cu, rfl⟩ := Xw.slice g.rO
  have hfr := g.fr
  have hP2 := blk_below hP hb
  have hP4 := fr_blk hfr hP2 (fun hh => hh.elim (nt (Xw.below h.rX hb) hP2) (nt (Xw.below h.rY hb) hP2))
  have hP5 := fun u0 => blk_set hP4 0 u0
  have s2 := hb.size
  have sw := h.fr.size
  have lo := Xw.lt h.rO
  have bU := Xw.base g.rO
  have ntx : NotInt w2 (fun k => own (.slice Al st.a.length cl) k ∨ own (.slice Ar st.b.length cr) k) := fun k hk hl => hk.elim (fun hk => Xw.typed (Xw.below h.rX hb) k hk hl) (fun hk => Xw.typed (Xw.below h.rY hb) k hk hl)
  have rO4 := Xw.keep (Xw.below h.rO hb) hfr (fun k hk hh => hh.elim (fun h1 => h.nXO k h1 hk) (fun h1 => h.nYO k h1 hk)) ntx
  refine ⟨A1, c1, A2, c2, U, cu, rfl, hfr, hP4, fun u0 u1 => ?_⟩
  have ee : ∀ {b : Nat} {v : Value} {l : List Occ}, Xw Wz w4 b v l → Xw Wz (Id.set2 w4 P u0 u1) b v l := fun hh => Xw.set (Xw.set hh hP4 (by decide) 0 u0) (hP5 u0) (by decide) 1 u1
  have hS : ∀ k, (own (.slice Al st.a.length cl) k ∨ own (.slice Ar st.b.length cr) k) → S k ∨ w.heap.size ≤ k := fun k hk => hk.elim (h.atX k) (h.atY k)
  refine ⟨(g.bel.setCell (p := ⟨P, 0, none⟩) hPz _).setCell (p := ⟨P, 1, none⟩) hPz _, ee g.rX, ee g.rY, ee rO4, ee (Kd.R_lower g.rO (by omega)), g.nXY, ?_, ?_, Nq.low (n := wr.heap.size) (fun k hk => by have := bU k hk; omega) lo, ?_, ?_, ?_⟩
  · intro k h1 h2
    rcases g.atX k h1 with h3 | h3
    · exact h3.elim (fun h3 => h.nXO k h3 h2) (fun h3 => h.nYO k h3 h2)
    · have := lo k h2; omega
  · intro k h1 h2
    rcases g.atY k h1 with h3 | h3
    · exact h3.elim (fun h3 => h.nXO k h3 h2) (fun h3 => h.nYO k h3 h2)
    · have := lo k h2; omega
  · exact Fr.set (Fr.set (Fr.trans h.fr (Fr.trans (S := fun k => own (.slice Al st.a.length cl) k ∨ own (.slice Ar st.b.length cr) k) (T := fun k => own (.slice Al st.a.length cl) k ∨ own (.slice Ar st.b.length cr) k) (Fr.of_below hb) hfr (fun k hk _ => hk)) (fun k h1 h2 => by rcases hS k h1 with h3 | h3; exact h3; omega)) (fun hh => absurd hh (by omega))) (fun hh => absurd hh (by omega))
  · intro k h1
    rcases g.atX k h1 with h3 | h3
    · exact hS k h3
    · exact .inr (by omega)
  · intro k h1
    rcases g.atY k h1 with h3 | h3
    · exact hS k h3
    · exact .inr (by omega)
/-- a row of times keeps where blocks without times change -/
theorem ri_keep {w w' : World} {base : Nat} {v : Value} {xs : List Int} {S : Nat → Prop} (h : (Kd.int .i64).R 3 w base (fun _ => True) v xs) (hf : Fr S w w') (hs : NotInt w S) : (Kd.int .i64).R 3 w' base (fun _ => True) v xs :=
  Kd.R_mono (Kd.R_step (R_split (ok' := fun k => ¬ S k) h (fun k hk hS => by
    obtain ⟨c1, h1⟩ := Kd.R_typed h k hk
    obtain ⟨c2, t, ht, h2⟩ := hs k hS (Kd.R_lt h k hk)
    rw [h1] at h2
    injection h2 with h2
    injection h2 with _ h2 _
    exact ht h2.symm) (fun k q cells _ _ _ hq => by simp [Kd.int, Kd.scalar] at hq)) (fun k hk hlt => hf.block k hlt hk)) (fun _ _ => trivial)
/-- what a fresh row of elements that came in says -/
theorem fx_read {w2 W : World} {base : Nat} {X : Option Addr} {n c : Nat} {l : List Occ} {S : Nat → Prop} (h : (Kd.fixed kO Wz).R 43 w2 base (fun _ => True) (.slice X n c) l) (hf : Fr S w2 W) (hn : ∀ k, own (.slice X n c) k → ¬ S k) : n = l.length ∧ n ≤ c ∧ (Kd.fixed kO Wz).C W X l.length l := by
  have h2 : (Kd.fixed kO Wz).R 43 W base (fun _ => True) (.slice X n c) l := Kd.R_mono (Kd.R_step (R_split (ok' := fun k => ¬ S k) h hn (fun k q cells _ _ _ hq => by simp [Kd.fixed] at hq)) (fun k hk hlt => hf.block k hlt hk)) (fun _ _ => trivial)
  exact Kd.R_reads' h2
theorem fx_isL {W : World} {X : Option Addr} {c : Nat} {l : List Occ} (hW : Below Wz.heap.size Wz W) (h : l.length ≤ c) (hC : (Kd.fixed kO Wz).C W X l.length l) : IsL W l X c := ⟨h, C_fixed hC hW⟩
theorem Core.below {w wr wr2 : World} {base bo : Nat} {S : Nat → Prop} {vx vy vo : Value} {sx sy so : List Occ} (h : Core Wz w wr base bo S vx vy vo sx sy so) (hb : Below wr.heap.size wr wr2) : Core Wz w wr2 base bo S vx vy vo sx sy so :=
  ⟨below_then h.bel h.bel.size hb, Xw.below h.rX hb, Xw.below h.rY hb, Xw.below h.rO hb, h.nXY, h.nXO, h.nYO, Fr.trans (T := S) h.fr (Fr.of_below hb) (fun k hk _ => hk), h.atX, h.atY⟩
theorem two_nt {w wr w2 : World} {base bo : Nat} {S : Nat → Prop} {vx vy vo : Value} {sx sy so : List Occ} (h : Core Wz w wr base bo S vx vy vo sx sy so) (hb : Below wr.heap.size wr w2) : NotInt w2 (fun k => own vx k ∨ own vy k) :=
  fun k hk hl => hk.elim (fun hk => Xw.typed (Xw.below h.rX hb) k hk hl) (fun hk => Xw.typed (Xw.below h.rY hb) k hk hl)
theorem both_no {w wr w2 : World} {base bo : Nat} {S : Nat → Prop} {vx vy vo : Value} {sx sy so : List Occ} (h : Core Wz w wr base bo S vx vy vo sx sy so) {X : Option Addr} {n c : Nat} {l : List Occ} (hx : (Kd.fixed kO Wz).R 43 w2 wr.heap.size (fun _ => True) (.slice X n c) l) : ∀ k, own (.slice X n c) k → ¬ (own vx k ∨ own vy k) := fun k hk hh => by
  have h1 := Kd.R_base hx k hk
  rcases hh with hh | hh
  · have := Xw.lt h.rX k hh; omega
  · have := Xw.lt h.rY k hh; omega
theorem both_rd {w wr w2 W : World} {base bo : Nat} {S : Nat → Prop} {vx vy vo : Value} {sx sy so : List Occ} (h : Core Wz w wr base bo S vx vy vo sx sy so) (hb : Below wr.heap.size wr w2) {X : Option Addr} {n c : Nat} {l : List Occ} (hx : (Kd.fixed kO Wz).R 43 w2 wr.heap.size (fun _ => True) (.slice X n c) l) (hf : Fr (fun k => own vx k ∨ own vy k) w2 W) (hz : Wz.heap.size ≤ base := by exact Nat.le_refl _) : IsL W l X c := by
  obtain ⟨h1, h2, h3⟩ := fx_read hx hf (both_no h hx)
  exact fx_isL (Fr.bel (below_then h.bel h.bel.size hb) hf (fun k hk => by
    rcases hk with hk | hk
    · have := Xw.base h.rX k hk; omega
    · have := Xw.base h.rY k hk; omega)) (by omega) h3
theorem sumAt_le' {ts : List Int} {l : List Occ} (h : Asc ts) (k : Nat) : sumAt l (ts.take k) ≤ l.length := sumAt_le (List.Pairwise.sublist (List.take_sublist _ _) h)
def SBothOut (w w' : World) (l : List Occ) (e : Ending) : Prop := ∃ A c, e = .returned (.slice A l.length c) ∧ IsL w' l A c ∧ Below w.heap.size w w'

end Go.Proofs.YtccenpmaooailaaGreat.Yn

/- A sequence or a conjunction of what is right: the reference's, the walk. -/
set_option linter.unusedVariables false
set_option linter.unusedSimpArgs false
namespace Go.Proofs.YtccenpmaooailaaGreat.Yo
open Go.RowKit Go.Proofs.YtccenpmaooailaaGreatW.PrintWords Go.Proofs.YtccenpmaooailaaGreat.Wd Go.Proofs.YtccenpmaooailaaGreat.Pu Go.Proofs.YtccenpmaooailaaGreat.Pv Go.Proofs.YtccenpmaooailaaGreat.Ca Go.Proofs.YtccenpmaooailaaGreat.Cb Go.Proofs.YtccenpmaooailaaGreat.Cc Go.Proofs.YtccenpmaooailaaGreat.Cp Go.Proofs.YtccenpmaooailaaGreat.Cd Go.Proofs.YtccenpmaooailaaGreat.Ci Go.Proofs.YtccenpmaooailaaGreat.Ce Go.Proofs.YtccenpmaooailaaGreat.Cf Go.Proofs.YtccenpmaooailaaGreat.Cg Go.Proofs.YtccenpmaooailaaGreat.Sc Go.Proofs.YtccenpmaooailaaGreat.Se Go.Proofs.YtccenpmaooailaaGreat.Sh Go.Proofs.YtccenpmaooailaaGreat.Si Go.Proofs.YtccenpmaooailaaGreat.Sp Go.Proofs.YtccenpmaooailaaGreat.Ia Go.Proofs.YtccenpmaooailaaGreat.Ib Go.Proofs.YtccenpmaooailaaGreat.Ic Go.Proofs.YtccenpmaooailaaGreat.Id Go.Proofs.YtccenpmaooailaaGreat.Ie Go.Proofs.YtccenpmaooailaaGreat.If Go.Proofs.YtccenpmaooailaaGreat.Ig Go.Proofs.YtccenpmaooailaaGreat.Ih Go.Proofs.YtccenpmaooailaaGreat.Ij Go.Proofs.YtccenpmaooailaaGreat.Ik Go.Proofs.YtccenpmaooailaaGreat.Ra Go.Proofs.YtccenpmaooailaaGreat.Rb Go.Proofs.YtccenpmaooailaaGreat.Rc Go.Proofs.YtccenpmaooailaaGreat.Rd Go.Proofs.YtccenpmaooailaaGreat.Re Go.Proofs.YtccenpmaooailaaGreat.Sj Go.Proofs.YtccenpmaooailaaGreat.Ya Go.Proofs.YtccenpmaooailaaGreat.Yd Go.Proofs.YtccenpmaooailaaGreat.Yf Go.Proofs.YtccenpmaooailaaGreat.Yg Go.Proofs.YtccenpmaooailaaGreat.Ih Go.Proofs.YtccenpmaooailaaGreat.Yh Go.Proofs.YtccenpmaooailaaGreat.Yi Go.Proofs.YtccenpmaooailaaGreat.Sg Go.Proofs.YtccenpmaooailaaGreat.Sf Go.Proofs.YtccenpmaooailaaGreat.Yj Go.Proofs.YtccenpmaooailaaGreat.Ig Go.Proofs.YtccenpmaooailaaGreat.Yk Go.Proofs.YtccenpmaooailaaGreat.Ik Go.Proofs.YtccenpmaooailaaGreat.Yl Go.Proofs.YtccenpmaooailaaGreat.Ij Go.Proofs.YtccenpmaooailaaGreat.Ym Go.Proofs.YtccenpmaooailaaGreat.Il Go.Proofs.YtccenpmaooailaaGreat.Yn

end Go.Proofs.YtccenpmaooailaaGreat.Yo

/- SeqOf and AndOf: the reference's. -/
set_option linter.unusedVariables false
set_option linter.unusedSimpArgs false
namespace Go.Proofs.YtccenpmaooailaaGreat.Yq
open Go.RowKit Go.Proofs.YtccenpmaooailaaGreatW.PrintWords Go.Proofs.YtccenpmaooailaaGreat.Wd Go.Proofs.YtccenpmaooailaaGreat.Pu Go.Proofs.YtccenpmaooailaaGreat.Pv Go.Proofs.YtccenpmaooailaaGreat.Ca Go.Proofs.YtccenpmaooailaaGreat.Cb Go.Proofs.YtccenpmaooailaaGreat.Cc Go.Proofs.YtccenpmaooailaaGreat.Cp Go.Proofs.YtccenpmaooailaaGreat.Cd Go.Proofs.YtccenpmaooailaaGreat.Ci Go.Proofs.YtccenpmaooailaaGreat.Ce Go.Proofs.YtccenpmaooailaaGreat.Cf Go.Proofs.YtccenpmaooailaaGreat.Cg Go.Proofs.YtccenpmaooailaaGreat.Sc Go.Proofs.YtccenpmaooailaaGreat.Se Go.Proofs.YtccenpmaooailaaGreat.Sh Go.Proofs.YtccenpmaooailaaGreat.Si Go.Proofs.YtccenpmaooailaaGreat.Sp Go.Proofs.YtccenpmaooailaaGreat.Ia Go.Proofs.YtccenpmaooailaaGreat.Ib Go.Proofs.YtccenpmaooailaaGreat.Ic Go.Proofs.YtccenpmaooailaaGreat.Id Go.Proofs.YtccenpmaooailaaGreat.Ie Go.Proofs.YtccenpmaooailaaGreat.If Go.Proofs.YtccenpmaooailaaGreat.Ig Go.Proofs.YtccenpmaooailaaGreat.Ih Go.Proofs.YtccenpmaooailaaGreat.Ij Go.Proofs.YtccenpmaooailaaGreat.Ik Go.Proofs.YtccenpmaooailaaGreat.Ra Go.Proofs.YtccenpmaooailaaGreat.Rb Go.Proofs.YtccenpmaooailaaGreat.Rc Go.Proofs.YtccenpmaooailaaGreat.Rd Go.Proofs.YtccenpmaooailaaGreat.Re Go.Proofs.YtccenpmaooailaaGreat.Sj Go.Proofs.YtccenpmaooailaaGreat.Ya Go.Proofs.YtccenpmaooailaaGreat.Yd Go.Proofs.YtccenpmaooailaaGreat.Yf Go.Proofs.YtccenpmaooailaaGreat.Yg Go.Proofs.YtccenpmaooailaaGreat.Ih Go.Proofs.YtccenpmaooailaaGreat.Yh Go.Proofs.YtccenpmaooailaaGreat.Yi Go.Proofs.YtccenpmaooailaaGreat.Sg Go.Proofs.YtccenpmaooailaaGreat.Sf Go.Proofs.YtccenpmaooailaaGreat.Yj Go.Proofs.YtccenpmaooailaaGreat.Ig Go.Proofs.YtccenpmaooailaaGreat.Yk Go.Proofs.YtccenpmaooailaaGreat.Ik Go.Proofs.YtccenpmaooailaaGreat.Yl Go.Proofs.YtccenpmaooailaaGreat.Ij Go.Proofs.YtccenpmaooailaaGreat.Ym Go.Proofs.YtccenpmaooailaaGreat.Il Go.Proofs.YtccenpmaooailaaGreat.Yn Go.Proofs.YtccenpmaooailaaGreat.Yo Go.Proofs.YtccenpmaooailaaGreat.In

def SToldOut (w w' : World) (p : List Occ × Bool) (e : Ending) : Prop := ∃ v, e = .returned (.tuple #[v, .bool p.2]) ∧ Rw w' w.heap.size v p.1 ∧ Below w.heap.size w w'
theorem told_nil (w : World) : SToldOut w (w.alloc (.cells #[] 43)) ([], false) (.returned (.tuple #[.slice (some ⟨w.heap.size, 0, none⟩) 0 0, .bool false])) := ⟨_, rfl, R_empty kO (blk_new _ _) (Nat.le_refl _), below_alloc (Below.refl _ _) _⟩
theorem SToldOut.lower {w w1 w' : World} {p : List Occ × Bool} {e : Ending} (h : SToldOut w1 w' p e) (hb : Below w.heap.size w w1) : SToldOut w w' p e := by
  obtain ⟨v, rfl, hr, h2⟩ := h
  exact ⟨v, rfl, Kd.R_lower hr hb.size, below_then hb hb.size h2⟩
set_option maxRecDepth 100000 in
theorem sToldR_any (A : Option Addr) (c : Nat) (l : List Occ) (w : World) (hi : ∀ x ∈ l, x.f2.length ≤ 1048576) (hL : IsL w l A c) :
    Calls Tryz.prog 62 #[.slice A l.length c] w fun e w' => SToldOut w w' (told l) e := by
  by_cases h : l.length > 40
  · have d1 : decide ((l.length : Int) > 40) = true := decide_eq_true (by omega)
    have HE := Aside0.mk (show told l = ([], false) by unfold told; rw [if_pos h])
    go_enter Tryz.func62, Tryz.ntmps62
    go_wp2
    go_ret2
    rw [HE.out]
    exact told_nil w
  · have d1 : decide ((l.length : Int) > 40) = false := decide_eq_false (by omega)
    have HE := Aside0.mk (show told l = (l, true) by unfold told; rw [if_neg h])
    go_enter Tryz.func62, Tryz.ntmps62
    go_wp2_with (go_at_call 50; refine (list_any A c l _ (by omega) hi hL).mono ?_; rintro e w2 ⟨v, rfl, hv, hb⟩; have HV := Aside0.mk hv; have HB := Aside0.mk hb; clear hv hb)
    go_ret2
    rw [HE.out]
    exact ⟨v, rfl, HV.out, HB.out⟩
end Go.Proofs.YtccenpmaooailaaGreat.Yq
