/- A conjunction at one point in time: the walk. -/
import Derived.Test.YtjeojdbfpncnkaaId
set_option linter.unusedVariables false
set_option linter.unusedSimpArgs false
namespace Go.Proofs.Ytjeojdbfpncnkaa.Ie
open Go.RowKit Go.Proofs.YtjeojdbfpncnkaaW.PrintWords Go.Proofs.Ytjeojdbfpncnkaa.Wd Go.Proofs.Ytjeojdbfpncnkaa.Pu Go.Proofs.Ytjeojdbfpncnkaa.Pv Go.Proofs.Ytjeojdbfpncnkaa.Ca Go.Proofs.Ytjeojdbfpncnkaa.Cc Go.Proofs.Ytjeojdbfpncnkaa.Cp Go.Proofs.Ytjeojdbfpncnkaa.Cd Go.Proofs.Ytjeojdbfpncnkaa.Ci Go.Proofs.Ytjeojdbfpncnkaa.Ce Go.Proofs.Ytjeojdbfpncnkaa.Cf Go.Proofs.Ytjeojdbfpncnkaa.Cg Go.Proofs.Ytjeojdbfpncnkaa.Ia Go.Proofs.Ytjeojdbfpncnkaa.Ib Go.Proofs.Ytjeojdbfpncnkaa.Ic Go.Proofs.Ytjeojdbfpncnkaa.Id

theorem pair_set {w : World} {P : Nat} {A B : Option Addr} {n m c d : Nat} {t : TypeId} (h : w.heap[P]? = some (.cells #[.slice A n c, .slice B m d] t (0, 0))) (A' : Option Addr) (n' c' : Nat) :
    (w.setCell ⟨P, 0, none⟩ (.slice A' n' c')).heap[P]? = some (.cells #[.slice A' n' c', .slice B m d] t (0, 0)) ∧ (w.setCell ⟨P, 1, none⟩ (.slice A' n' c')).heap[P]? = some (.cells #[.slice A n c, .slice A' n' c'] t (0, 0)) :=
  ⟨blk_put h 0 _ rfl, blk_put h 1 _ rfl⟩
def AndOut (w w' : World) (st : Sides) (e : Ending) : Prop :=
  ∃ Al cl Ar cr Ao co, e = .returned (.tuple #[.agg #[.slice Al st.own.length cl, .slice Ar st.oth.length cr], .slice Ao st.out.length co]) ∧ IsL w' st.own Al cl ∧ IsL w' st.oth Ar cr ∧ IsL w' st.out Ao co ∧ Below w.heap.size w w'
theorem andLen_mono {st : Sides} {a b c a' b' c' : Nat} (h : AndLen st a b c) (h1 : a ≤ a') (h2 : b ≤ b') (h3 : c ≤ c') : AndLen st a' b' c' := ⟨h.ok, by have := h.own; omega, by have := h.oth; omega, by have := h.out; omega⟩
theorem andLen_flip {st : Sides} {a b c : Nat} (h : AndLen st a b c) : AndLen (flip st) b a c := ⟨h.ok.flip, h.oth, h.own, h.out⟩

set_option maxHeartbeats 4000000 in
set_option maxRecDepth 100000 in
theorem and_any (mode : Int) (hm : 0 ≤ mode ∧ mode ≤ 4) (A B C D : Option Addr) (ca cb cc cd : Nat) (l r left right : List Occ) (w : World) (hl : AreOk l) (hr : AreOk r) (hle : ∀ o ∈ left, IsOk o) (hri : ∀ o ∈ right, IsOk o)
    (n1 : l.length + left.length ≤ 500) (n2 : r.length + right.length ≤ 500) (hL : IsL w l A ca) (hR : IsL w r B cb) (hE : IsL w left C cc) (hI : IsL w right D cd) :
    Calls Try.prog 45 #[.agg #[.slice A l.length ca, .slice B r.length cb], .int .i64 mode, .slice C left.length cc, .slice D right.length cd] w fun e w' => AndOut w w' (andI mode l r left right) e := by
  have hb0 : Below w.heap.size w ((w.alloc (.cells #[.slice A l.length ca, .slice B r.length cb] 35)).alloc (.cells #[.slice none 0 0, .slice none 0 0] 35)) := below_alloc (below_alloc (Below.refl _ _) _) _
  have HM : Aside0 (AndMem w ((w.alloc (.cells #[.slice A l.length ca, .slice B r.length cb] 35)).alloc (.cells #[.slice none 0 0, .slice none 0 0] 35)) ⟨l, r, []⟩ (.slice none 0 0) A B l.length r.length ca cb) :=
    ⟨⟨blk_alloc (blk_new _ _) _, by have := blk_new (w.alloc (.cells #[.slice A l.length ca, .slice B r.length cb] 35)) (.cells #[.slice none 0 0, .slice none 0 0] 35); simpa using this, rfl, rfl, hL.below hb0, hR.below hb0, ⟨none, 0, rfl, IsL.nil _⟩, hb0⟩⟩
  have LENS : Aside0 (AndLen ⟨l, r, []⟩ (l.length + 0) r.length (0 + 0 * 500)) := ⟨⟨⟨hl, hr, AreOk.nil⟩, Nat.le_refl _, Nat.le_refl _, Nat.le_refl _⟩⟩
  have HLE := Aside0.mk hE
  have HRI := Aside0.mk hI
  have HOKL := Aside0.mk hle
  have HOKR := Aside0.mk hri
  clear hL hR hE hI hle hri hb0 hl hr
  go_enter Try.func45, Try.ntmps45
  go_wp2
  go_loopw [10, 21] (fun vo vi wr => ∃ (k : Nat) (st : Sides) (v : Value) (Al Ar : Option Addr) (nl nr cl cr : Nat), k ≤ left.length ∧ vi = .int .i64 k ∧ v = vo ∧ Aside0 (st = (left.take k).foldl (andStep mode) (⟨l, r, []⟩)) ∧ Aside0 (AndLen st (l.length + k) r.length (0 + k * 500)) ∧ Aside0 (AndMem w wr st v Al Ar nl nr cl cr)) (fun _ vi _ => left.length - (intOf vi).toNat)
  case atStart => exact ⟨0, _, _, _, _, _, _, _, _, Nat.zero_le _, rfl, rfl, ⟨by simp⟩, LENS, HM⟩
  case round =>
    clear HM LENS
    obtain ⟨k, st, vo, Al, Ar, nl, nr, cl, cr, hk, rfl, rfl, HST, HLN, HM⟩ := hrel
    have hP := HM.out.bP
    have hR := HM.out.bR
    have hPs := blk_lt hP
    have hRs := blk_lt hR
    have hn1 : nl = st.own.length := HM.out.nl
    have hn2 : nr = st.oth.length := HM.out.nr
    subst hn1
    subst hn2
    have hOwn : IsL wr st.own Al cl := HM.out.own
    have hOth : IsL wr st.oth Ar cr := HM.out.oth
    obtain ⟨Ao, co, hvo, hLo⟩ := HM.out.out
    have hvo2 : vo = .slice Ao st.out.length co := hvo
    have hLo2 : IsL wr st.out Ao co := hLo
    subst hvo2
    have HLo := Aside0.mk hLo2
    have HBel := Aside0.mk HM.out.bel
    clear hLo hLo2 hvo HM
    by_cases hlt : k < left.length
    · obtain ⟨ad', A3, c3, e3, pa, pb, pc, pl, pC⟩ := atO (HLE.out.below HBel.out).rd k hlt
      cases e3
      have hIy : IsO wr (left.getD k zO) A3 c3 := ⟨pl, pC⟩
      have hy := HOKL.out _ (getD_mem (l := left) (i := k) hlt)
      have hT := foldl_take (andStep mode) (⟨l, r, []⟩) left k hlt
      rw [← HST.out] at hT
      generalize left.getD k zO = y at pa pb pc hIy hy hT
      have HT := Aside0.mk hT
      have HY := Aside0.mk hy
      have HN2 := Aside0.mk (andLen_step (mode := mode) HLN.out hy)
      clear pl pC hy hT
      have hb3 := box3 wr (.int .i64 y.f0) (.int .i64 y.f1) (.slice A3 y.f2.length c3) 25
      have bY : (wr.alloc (.cells #[.int .i64 y.f0, .int .i64 y.f1, .slice A3 y.f2.length c3] 25)).heap[wr.heap.size]? = some (.cells #[.int .i64 y.f0, .int .i64 y.f1, .slice A3 y.f2.length c3] 25 (0, 0)) := blk_new _ _
      have HIy := Aside0.mk (hIy.below hb3.1)
      have HLo2 := Aside0.mk (HLo.out.below hb3.1)
      have HOw2 := Aside0.mk (hOwn.below hb3.1)
      have HOt2 := Aside0.mk (hOth.below hb3.1)
      have HB2 := Aside0.mk (below_then HBel.out HBel.out.size hb3.1)
      have bP2 := blk_alloc hP (.cells #[.int .i64 y.f0, .int .i64 y.f1, .slice A3 y.f2.length c3] 25)
      have bR2 := blk_alloc hR (.cells #[.int .i64 y.f0, .int .i64 y.f1, .slice A3 y.f2.length c3] 25)
      have HSO := Aside0.mk HLN.out.ok
      have hown5 := HLN.out.own
      have hoth5 := HLN.out.oth
      have hout5 := HLN.out.out
      have hcl := len_combine mode y st.oth
      have hgl := len_gone mode y st.oth
      have hgs := gone_sub (mode := mode) (o := y) HSO.out.oth.sorted
      have p0 := (blk_cell hP 0).trans rfl
      have p1 := (blk_cell hP 1).trans rfl
      have hne : w.heap.size ≠ wr.heap.size := by omega
      clear hIy hb3 hP hR hOwn hOth
      go_wp2_with (first
        | (go_at_call 87; refine (store_any mode y A3 c3 Al cl st.own _ _ (IsO.away (ni_two bP4) (keep_set _ _ _ _) (HIy.out.below HB4.out)) HSO.out.own.sorted (by omega) (IsL.away (ni_two bP4) (keep_set _ _ _ _) (HOw2.out.below HB4.out))).mono ?_; rintro e w5 ⟨A5, c5, rfl, hs5, hb5⟩; have bP5 := blk_below (pair_set bP4 A4 (without st.oth (combine mode y st.oth).2).length c4).2 hb5; have bR5 := blk_below (blk_far bR4 (p := ⟨w.heap.size, 1, none⟩) (by simp) (.slice A4 (without st.oth (combine mode y st.oth).2).length c4)) hb5; have z5 := blk_frozen bP5 0; have q5 := (blk_cell bP5 0).trans rfl; have HS5 := Aside0.mk hs5; have HB5 := Aside0.mk hb5; have HT5 := Aside0.mk ((IsL.away (ni_two bP4) (keep_set _ _ 1 (.slice A4 (without st.oth (combine mode y st.oth).2).length c4)) HT4.out).below hb5); have HO5 := Aside0.mk ((IsL.away (ni_two bP4) (keep_set _ _ 1 (.slice A4 (without st.oth (combine mode y st.oth).2).length c4)) HO4.out).below hb5); clear hs5 hb5)
        | (go_at_call 86; refine (without_any Ar Ag cr cg st.oth (combine mode y st.oth).2 _ hgs (by omega) (by omega) (HOt2.out.below HB3.out) HG3.out).mono ?_; rintro e w4 ⟨A4, c4, rfl, ht4, hb4⟩; have bP4 := blk_below bP3 hb4; have bR4 := blk_below bR3 hb4; have bY4 := blk_below bY3 hb4; have z4 := blk_frozen bP4 1; have q0 := (blk_cell bP4 0).trans rfl; have qj := (blk_cell bP4 1).trans rfl; have x0 := (blk_cell bY4 0).trans rfl; have x1 := (blk_cell bY4 1).trans rfl; have x2 := (blk_cell bY4 2).trans rfl; have HB4 := Aside0.mk (below_then HB3.out HB3.out.size hb4); have HT4 := Aside0.mk ht4; have HO4 := Aside0.mk (HO3.out.below hb4); clear ht4 hb4)
        | (go_at_call 60; refine (putAll_any Ao Af co cf st.out (combine mode y st.oth).1 _ HSO.out.out.sorted (by omega) (HLo2.out.below HB1.out) HF.out).mono ?_; rintro e w3 ⟨A6, c6, rfl, ho3, hb3⟩; have bP3 := blk_below bP1 hb3; have bR3 := blk_below bR1 hb3; have bY3 := blk_below bY1 hb3; have q3 := (blk_cell bP3 1).trans rfl; have HB3 := Aside0.mk (below_then HB1.out HB1.out.size hb3); have HO3 := Aside0.mk ho3; have HG3 := Aside0.mk (HG.out.below hb3); clear ho3 hb3)
        | (go_at_call 85; refine (combine_any mode hm y A3 c3 Ar cr st.oth _ HIy.out HY.out HSO.out.oth.all (by omega) HOt2.out).mono ?_; rintro e w1 ⟨Af, cf, Ag, cg, rfl, hf, hg, hb1⟩; have bP1 := blk_below bP2 hb1; have bR1 := blk_below bR2 hb1; have bY1 := blk_below bY hb1; have HB1 := Aside0.mk hb1; have HF := Aside0.mk hf; have HG := Aside0.mk hg; clear hf hg hb1))
      go_roundw
      case rel =>
        have hA : (((combine mode y st.oth).1.length : Int) == 0) = decide ((combine mode y st.oth).1.length = 0) := by rw [Bool.eq_iff_iff]; simp
        have hOw : stow mode st.own y (((combine mode y st.oth).1.length : Int) == 0) = (andStep mode st y).own := by rw [hA]; rfl
        rw [hOw] at HS5
        rw [hOw]
        refine ⟨k + 1, andStep mode st y, _, _, _, _, _, _, _, by omega, by go_num, rfl, ⟨HT.out.symm⟩, ⟨andLen_mono HN2.out (by omega) (by omega) (by omega)⟩, ⟨⟨(pair_set bP5 A5 _ c5).1, blk_far bR5 (by simp) _, rfl, rfl, ?_, ?_, ⟨A6, c6, rfl, IsL.away (ni_two bP5) (keep_set _ _ _ _) HO5.out⟩, ?_⟩⟩⟩
        · exact IsL.away (ni_two bP5) (keep_set _ _ _ _) HS5.out
        · exact IsL.away (ni_two bP5) (keep_set _ _ _ _) HT5.out
        · exact (below_then ((below_then HB2.out HB2.out.size HB4.out).setCell (p := ⟨w.heap.size, 1, none⟩) (Nat.le_refl _) _) ((below_then HB2.out HB2.out.size HB4.out).setCell (p := ⟨w.heap.size, 1, none⟩) (Nat.le_refl _) _).size HB5.out).setCell (p := ⟨w.heap.size, 0, none⟩) (Nat.le_refl _) _
      case measure => simp [intOf]; omega
    · have hke : k = left.length := by omega
      subst hke
      have hF := HST.out
      rw [List.take_length] at hF
      have HM : Aside0 (AndMem w wr (flip (flip st)) (.slice Ao st.out.length co) Al Ar st.own.length st.oth.length cl cr) := ⟨⟨hP, hR, rfl, rfl, hOwn, hOth, ⟨Ao, co, rfl, HLo.out⟩, HBel.out⟩⟩
      have HFL := Aside0.mk hF
      have HL1 := Aside0.mk HLN.out
      have LENS : Aside0 (AndLen (flip st) (r.length + 0) (l.length + left.length) (left.length * 500 + 0 * 500)) := ⟨andLen_mono (andLen_flip HLN.out) (by omega) (by omega) (by omega)⟩
      clear hP hR hOwn hOth HLo HBel HST HLN hF hPs hRs
      go_wp2
      go_loopw [10, 53] (fun vo vi wr => ∃ (k : Nat) (st2 : Sides) (v : Value) (Al Ar : Option Addr) (nl nr cl cr : Nat), k ≤ right.length ∧ vi = .int .i64 k ∧ v = vo ∧ Aside0 (st2 = (right.take k).foldl (andStep mode) (flip st)) ∧ Aside0 (AndLen st2 (r.length + k) (l.length + left.length) (left.length * 500 + k * 500)) ∧ Aside0 (AndMem w wr (flip st2) v Al Ar nl nr cl cr)) (fun _ vi _ => right.length - (intOf vi).toNat)
      case atStart => exact ⟨0, _, _, _, _, _, _, _, _, Nat.zero_le _, rfl, rfl, ⟨by simp⟩, LENS, HM⟩
      case round =>
        clear HM LENS
        obtain ⟨k, st2, vo, Al, Ar, nl, nr, cl, cr, hk, rfl, rfl, HST, HLN, HM⟩ := hrel
        have hP := HM.out.bP
        have hR := HM.out.bR
        have hPs := blk_lt hP
        have hRs := blk_lt hR
        have hn1 : nl = st2.oth.length := HM.out.nl
        have hn2 : nr = st2.own.length := HM.out.nr
        subst hn1
        subst hn2
        have hOwn : IsL wr st2.oth Al cl := HM.out.own
        have hOth : IsL wr st2.own Ar cr := HM.out.oth
        obtain ⟨Ao, co, hvo, hLo⟩ := HM.out.out
        have hvo2 : vo = .slice Ao st2.out.length co := hvo
        have hLo2 : IsL wr st2.out Ao co := hLo
        subst hvo2
        have HLo := Aside0.mk hLo2
        have HBel := Aside0.mk HM.out.bel
        clear hLo hLo2 hvo HM
        by_cases hlt : k < right.length
        · obtain ⟨ad', A3, c3, e3, pa, pb, pc, pl, pC⟩ := atO (HRI.out.below HBel.out).rd k hlt
          cases e3
          have hIy : IsO wr (right.getD k zO) A3 c3 := ⟨pl, pC⟩
          have hy := HOKR.out _ (getD_mem (l := right) (i := k) hlt)
          have hT := foldl_take (andStep mode) (flip st) right k hlt
          rw [← HST.out] at hT
          generalize right.getD k zO = y at pa pb pc hIy hy hT
          have HT := Aside0.mk hT
          have HY := Aside0.mk hy
          have HN2 := Aside0.mk (andLen_step (mode := mode) HLN.out hy)
          clear pl pC hy hT
          have hb3 := box3 wr (.int .i64 y.f0) (.int .i64 y.f1) (.slice A3 y.f2.length c3) 25
          have bY : (wr.alloc (.cells #[.int .i64 y.f0, .int .i64 y.f1, .slice A3 y.f2.length c3] 25)).heap[wr.heap.size]? = some (.cells #[.int .i64 y.f0, .int .i64 y.f1, .slice A3 y.f2.length c3] 25 (0, 0)) := blk_new _ _
          have HIy := Aside0.mk (hIy.below hb3.1)
          have HLo2 := Aside0.mk (HLo.out.below hb3.1)
          have HOw2 := Aside0.mk (hOwn.below hb3.1)
          have HOt2 := Aside0.mk (hOth.below hb3.1)
          have HB2 := Aside0.mk (below_then HBel.out HBel.out.size hb3.1)
          have bP2 := blk_alloc hP (.cells #[.int .i64 y.f0, .int .i64 y.f1, .slice A3 y.f2.length c3] 25)
          have bR2 := blk_alloc hR (.cells #[.int .i64 y.f0, .int .i64 y.f1, .slice A3 y.f2.length c3] 25)
          have HSO := Aside0.mk HLN.out.ok
          have hown5 := HLN.out.own
          have hoth5 := HLN.out.oth
          have hout5 := HLN.out.out
          have hcl := len_combine mode y st2.oth
          have hgl := len_gone mode y st2.oth
          have hgs := gone_sub (mode := mode) (o := y) HSO.out.oth.sorted
          have p0 := (blk_cell hP 0).trans rfl
          have p1 := (blk_cell hP 1).trans rfl
          have hne : w.heap.size ≠ wr.heap.size := by omega
          clear hIy hb3 hP hR hOwn hOth
          go_wp2_with (first
            | (go_at_call 87; refine (store_any mode y A3 c3 Ar cr st2.own _ _ (IsO.away (ni_two bP4) (keep_set _ _ _ _) (HIy.out.below HB4.out)) HSO.out.own.sorted (by omega) (IsL.away (ni_two bP4) (keep_set _ _ _ _) (HOt2.out.below HB4.out))).mono ?_; rintro e w5 ⟨A5, c5, rfl, hs5, hb5⟩; have bP5 := blk_below (pair_set bP4 A4 (without st2.oth (combine mode y st2.oth).2).length c4).1 hb5; have bR5 := blk_below (blk_far bR4 (p := ⟨w.heap.size, 0, none⟩) (by simp) (.slice A4 (without st2.oth (combine mode y st2.oth).2).length c4)) hb5; have z5 := blk_frozen bP5 1; have q5 := (blk_cell bP5 1).trans rfl; have HS5 := Aside0.mk hs5; have HB5 := Aside0.mk hb5; have HT5 := Aside0.mk ((IsL.away (ni_two bP4) (keep_set _ _ 0 (.slice A4 (without st2.oth (combine mode y st2.oth).2).length c4)) HT4.out).below hb5); have HO5 := Aside0.mk ((IsL.away (ni_two bP4) (keep_set _ _ 0 (.slice A4 (without st2.oth (combine mode y st2.oth).2).length c4)) HO4.out).below hb5); clear hs5 hb5)
            | (go_at_call 86; refine (without_any Al Ag cl cg st2.oth (combine mode y st2.oth).2 _ hgs (by omega) (by omega) (HOw2.out.below HB3.out) HG3.out).mono ?_; rintro e w4 ⟨A4, c4, rfl, ht4, hb4⟩; have bP4 := blk_below bP3 hb4; have bR4 := blk_below bR3 hb4; have bY4 := blk_below bY3 hb4; have z4 := blk_frozen bP4 0; have q0 := (blk_cell bP4 1).trans rfl; have qj := (blk_cell bP4 0).trans rfl; have x0 := (blk_cell bY4 0).trans rfl; have x1 := (blk_cell bY4 1).trans rfl; have x2 := (blk_cell bY4 2).trans rfl; have HB4 := Aside0.mk (below_then HB3.out HB3.out.size hb4); have HT4 := Aside0.mk ht4; have HO4 := Aside0.mk (HO3.out.below hb4); clear ht4 hb4)
            | (go_at_call 60; refine (putAll_any Ao Af co cf st2.out (combine mode y st2.oth).1 _ HSO.out.out.sorted (by omega) (HLo2.out.below HB1.out) HF.out).mono ?_; rintro e w3 ⟨A6, c6, rfl, ho3, hb3⟩; have bP3 := blk_below bP1 hb3; have bR3 := blk_below bR1 hb3; have bY3 := blk_below bY1 hb3; have q3 := (blk_cell bP3 0).trans rfl; have HB3 := Aside0.mk (below_then HB1.out HB1.out.size hb3); have HO3 := Aside0.mk ho3; have HG3 := Aside0.mk (HG.out.below hb3); clear ho3 hb3)
            | (go_at_call 85; refine (combine_any mode hm y A3 c3 Al cl st2.oth _ HIy.out HY.out HSO.out.oth.all (by omega) HOw2.out).mono ?_; rintro e w1 ⟨Af, cf, Ag, cg, rfl, hf, hg, hb1⟩; have bP1 := blk_below bP2 hb1; have bR1 := blk_below bR2 hb1; have bY1 := blk_below bY hb1; have HB1 := Aside0.mk hb1; have HF := Aside0.mk hf; have HG := Aside0.mk hg; clear hf hg hb1))
          go_roundw
          case rel =>
            have hA : (((combine mode y st2.oth).1.length : Int) == 0) = decide ((combine mode y st2.oth).1.length = 0) := by rw [Bool.eq_iff_iff]; simp
            have hOw : stow mode st2.own y (((combine mode y st2.oth).1.length : Int) == 0) = (andStep mode st2 y).own := by rw [hA]; rfl
            rw [hOw] at HS5
            rw [hOw]
            refine ⟨k + 1, andStep mode st2 y, _, _, _, _, _, _, _, by omega, by go_num, rfl, ⟨HT.out.symm⟩, ⟨andLen_mono HN2.out (by omega) (by omega) (by omega)⟩, ⟨⟨(pair_set bP5 A5 _ c5).2, blk_far bR5 (by simp) _, rfl, rfl, ?_, ?_, ⟨A6, c6, rfl, IsL.away (ni_two bP5) (keep_set _ _ _ _) HO5.out⟩, ?_⟩⟩⟩
            · exact IsL.away (ni_two bP5) (keep_set _ _ _ _) HT5.out
            · exact IsL.away (ni_two bP5) (keep_set _ _ _ _) HS5.out
            · exact (below_then ((below_then HB2.out HB2.out.size HB4.out).setCell (p := ⟨w.heap.size, 0, none⟩) (Nat.le_refl _) _) ((below_then HB2.out HB2.out.size HB4.out).setCell (p := ⟨w.heap.size, 0, none⟩) (Nat.le_refl _) _).size HB5.out).setCell (p := ⟨w.heap.size, 1, none⟩) (Nat.le_refl _) _
          case measure => simp [intOf]; omega
        · have hke : k = right.length := by omega
          subst hke
          have hF := HST.out
          rw [List.take_length] at hF
          have hG : andI mode l r left right = flip st2 := by unfold andI; rw [hF, HFL.out]
          have p0 := (blk_cell hP 0).trans rfl
          have p1 := (blk_cell hP 1).trans rfl
          have r0 := (blk_cell hR 0).trans rfl
          have r1 := (blk_cell hR 1).trans rfl
          have f0 := blk_frozen hR 0
          have f1 := blk_frozen hR 1
          have hne : w.heap.size ≠ w.heap.size + 1 := by omega
          have HG := Aside0.mk hG
          clear hG hF
          go_wp2
          have hB2 := set2_below (G := w.heap.size + 1) HBel.out (by omega) (.slice Al st2.oth.length cl) (.slice Ar st2.own.length cr)
          refine bodyPost_ret (results_ct rfl _ _ (w.heap.size + 1) 35 #[.slice Al st2.oth.length cl, .slice Ar st2.own.length cr] (0, 0) _ rfl (set2_blk _ _ hR) Try.underlying35 rfl (by kernel_rfl)) rfl ?_
          rw [HG.out]
          have hk1 := keep_set wr (w.heap.size + 1) 0 (.slice Al st2.oth.length cl)
          have hR1 : (wr.setCell ⟨w.heap.size + 1, 0, none⟩ (.slice Al st2.oth.length cl)).heap[w.heap.size + 1]? = some (.cells #[.slice Al st2.oth.length cl, .slice none 0 0] 35 (0, 0)) := blk_put hR 0 _ rfl
          have hk2 := keep_set (wr.setCell ⟨w.heap.size + 1, 0, none⟩ (.slice Al st2.oth.length cl)) (w.heap.size + 1) 1 (.slice Ar st2.own.length cr)
          have G : ∀ {x : List Occ} {X : Option Addr} {cx : Nat}, IsL wr x X cx → IsL (set2 wr (w.heap.size + 1) (.slice Al st2.oth.length cl) (.slice Ar st2.own.length cr)) x X cx := fun h => IsL.away (ni_two hR1) hk2 (IsL.away (ni_two hR) hk1 h)
          exact ⟨Al, cl, Ar, cr, Ao, co, rfl, G hOwn, G hOth, G HLo.out, hB2⟩
end Go.Proofs.Ytjeojdbfpncnkaa.Ie
