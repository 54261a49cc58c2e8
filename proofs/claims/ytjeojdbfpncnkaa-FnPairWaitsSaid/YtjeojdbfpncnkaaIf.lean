/- A sequence at one point in time: the walk. -/
import Derived.Test.YtjeojdbfpncnkaaIe
set_option linter.unusedVariables false
set_option linter.unusedSimpArgs false
namespace Go.Proofs.Ytjeojdbfpncnkaa.If
open Go.RowKit Go.Proofs.YtjeojdbfpncnkaaW.PrintWords Go.Proofs.Ytjeojdbfpncnkaa.Wd Go.Proofs.Ytjeojdbfpncnkaa.Pu Go.Proofs.Ytjeojdbfpncnkaa.Pv Go.Proofs.Ytjeojdbfpncnkaa.Ca Go.Proofs.Ytjeojdbfpncnkaa.Cc Go.Proofs.Ytjeojdbfpncnkaa.Cp Go.Proofs.Ytjeojdbfpncnkaa.Cd Go.Proofs.Ytjeojdbfpncnkaa.Ci Go.Proofs.Ytjeojdbfpncnkaa.Ce Go.Proofs.Ytjeojdbfpncnkaa.Cf Go.Proofs.Ytjeojdbfpncnkaa.Cg Go.Proofs.Ytjeojdbfpncnkaa.Ia Go.Proofs.Ytjeojdbfpncnkaa.Ib Go.Proofs.Ytjeojdbfpncnkaa.Ic Go.Proofs.Ytjeojdbfpncnkaa.Id Go.Proofs.Ytjeojdbfpncnkaa.Ie

theorem before_bef (o : Occ) : before o = bef o.f0 := rfl
structure SeqLen (st : List Occ × List Occ) (a c : Nat) : Prop where
  ok1 : AreOk st.1
  ok2 : AreOk st.2
  own : st.1.length ≤ a
  out : st.2.length ≤ c
theorem seqLen_step {mode : Int} {st : List Occ × List Occ} {a c : Nat} (h : SeqLen st a c) {o : Occ} (ho : IsOk o) : SeqLen (seqStep mode st o) a (c + a) := by
  obtain ⟨h1, h2⟩ := seqStep_ok (mode := mode) h.ok1 h.ok2 ho
  refine ⟨h1, h2, ?_, ?_⟩
  · have := len_without st.1 (combine mode o (st.1.filter (before o))).2; have := h.own; simp only [seqStep]; omega
  · have h1 := len_putAll1 st.2 (combine mode o (st.1.filter (before o))).1
    have h2 := len_combine mode o (st.1.filter (before o))
    have h3 := List.length_filter_le (before o) st.1
    have := h.own; have := h.out; simp only [seqStep]; omega
def SeqOut (w w' : World) (l r out : List Occ) (e : Ending) : Prop :=
  ∃ Al cl Ar cr Ao co, e = .returned (.tuple #[.agg #[.slice Al l.length cl, .slice Ar r.length cr], .slice Ao out.length co]) ∧ IsL w' l Al cl ∧ IsL w' r Ar cr ∧ IsL w' out Ao co ∧ Below w.heap.size w w'
structure SeqMem (w wr : World) (st : List Occ × List Occ) (r : List Occ) (B : Option Addr) (cb : Nat) (vo : Value) (Al : Option Addr) (nl cl : Nat) : Prop where
  bP : wr.heap[w.heap.size]? = some (.cells #[.slice Al nl cl, .slice B r.length cb] 35 (0, 0))
  bR : wr.heap[w.heap.size + 1]? = some (.cells #[.slice none 0 0, .slice none 0 0] 35 (0, 0))
  nl : nl = st.1.length
  own : IsL wr st.1 Al cl
  out : ∃ Ao co, vo = .slice Ao st.2.length co ∧ IsL wr st.2 Ao co
  bel : Below w.heap.size w wr

set_option maxHeartbeats 4000000 in
set_option maxRecDepth 100000 in
theorem seq_any (mode : Int) (hm : 0 ≤ mode ∧ mode ≤ 4) (A B C D : Option Addr) (ca cb cc cd : Nat) (l r left right : List Occ) (w : World) (hl : AreOk l) (hle : ∀ o ∈ left, IsOk o) (hri : ∀ o ∈ right, IsOk o)
    (n1 : l.length + left.length ≤ 500) (n2 : right.length ≤ 500) (hL : IsL w l A ca) (hR : IsL w r B cb) (hE : IsL w left C cc) (hI : IsL w right D cd) :
    Calls Try.prog 58 #[.agg #[.slice A l.length ca, .slice B r.length cb], .int .i64 mode, .slice C left.length cc, .slice D right.length cd] w fun e w' => SeqOut w w' (seqI mode l left right).1 r (seqI mode l left right).2 e := by
  have hmf : ∀ (fn : Fn) (first cap : Array Value) (w : World), (Instr.makeFunc fn first cap).run Try.prog w = .ok (.func fn first cap) w := fun _ _ _ _ => rfl
  have hb0 : Below w.heap.size w ((w.alloc (.cells #[.slice A l.length ca, .slice B r.length cb] 35)).alloc (.cells #[.slice none 0 0, .slice none 0 0] 35)) := below_alloc (below_alloc (Below.refl _ _) _) _
  have HM : Aside0 (SeqMem w ((w.alloc (.cells #[.slice A l.length ca, .slice B r.length cb] 35)).alloc (.cells #[.slice none 0 0, .slice none 0 0] 35)) (l, []) r B cb (.slice none 0 0) A l.length ca) :=
    ⟨⟨blk_alloc (blk_new _ _) _, by have := blk_new (w.alloc (.cells #[.slice A l.length ca, .slice B r.length cb] 35)) (.cells #[.slice none 0 0, .slice none 0 0] 35); simpa using this, rfl, hL.below hb0, ⟨none, 0, rfl, IsL.nil _⟩, hb0⟩⟩
  have LENS : Aside0 (SeqLen (l, []) l.length (0 * 500)) := ⟨⟨hl, AreOk.nil, Nat.le_refl _, Nat.le_refl _⟩⟩
  have HLE := Aside0.mk hE
  have HRI := Aside0.mk hI
  have HRR := Aside0.mk hR
  have HOKL := Aside0.mk hle
  have HOKR := Aside0.mk hri
  clear hL hR hE hI hle hri hb0 hl
  go_enter Try.func58, Try.ntmps58
  go_wp2
  go_loopw [10, 17] (fun vo vi wr => ∃ (k : Nat) (st : List Occ × List Occ) (v : Value) (Al : Option Addr) (nl cl : Nat), k ≤ right.length ∧ vi = .int .i64 k ∧ v = vo ∧ Aside0 (st = (right.take k).foldl (seqStep mode) (l, [])) ∧ Aside0 (SeqLen st l.length (k * 500)) ∧ Aside0 (SeqMem w wr st r B cb v Al nl cl)) (fun _ vi _ => right.length - (intOf vi).toNat)
  case atStart => exact ⟨0, _, _, _, _, _, Nat.zero_le _, rfl, rfl, ⟨by simp⟩, LENS, HM⟩
  case round =>
    clear HM LENS
    obtain ⟨k, st, vo, Al, nl, cl, hk, rfl, rfl, HST, HLN, HM⟩ := hrel
    have hP := HM.out.bP
    have hR := HM.out.bR
    have hPs := blk_lt hP
    have hRs := blk_lt hR
    have hn1 : nl = st.1.length := HM.out.nl
    subst hn1
    have hOwn : IsL wr st.1 Al cl := HM.out.own
    obtain ⟨Ao, co, hvo, hLo⟩ := HM.out.out
    subst hvo
    have HLo := Aside0.mk hLo
    have HBel := Aside0.mk HM.out.bel
    have HLN5 := HLN.out.own
    have hout5 := HLN.out.out
    have p0 := (blk_cell hP 0).trans rfl
    have z0 := blk_frozen hP 0
    clear hLo HM
    by_cases hlt : k < right.length
    · obtain ⟨ad', A3, c3, e3, pa, pb, pc, pl, pC⟩ := atO (HRI.out.below HBel.out).rd k hlt
      cases e3
      have hIy : IsO wr (right.getD k zO) A3 c3 := ⟨pl, pC⟩
      have hy := HOKR.out _ (getD_mem (l := right) (i := k) hlt)
      have hT := foldl_take (seqStep mode) (l, []) right k hlt
      rw [← HST.out] at hT
      generalize right.getD k zO = y at pa pb pc hIy hy hT
      have HT := Aside0.mk hT
      have HY := Aside0.mk hy
      have HN2 := Aside0.mk (seqLen_step (mode := mode) HLN.out hy)
      clear pl pC hy hT
      have hb3 := box3 wr (.int .i64 y.f0) (.int .i64 y.f1) (.slice A3 y.f2.length c3) 25
      have bY : (wr.alloc (.cells #[.int .i64 y.f0, .int .i64 y.f1, .slice A3 y.f2.length c3] 25)).heap[wr.heap.size]? = some (.cells #[.int .i64 y.f0, .int .i64 y.f1, .slice A3 y.f2.length c3] 25 (0, 0)) := blk_new _ _
      have HIy := Aside0.mk (hIy.below hb3.1)
      have HLo2 := Aside0.mk (HLo.out.below hb3.1)
      have HOw2 := Aside0.mk (hOwn.below hb3.1)
      have HB2 := Aside0.mk (below_then HBel.out HBel.out.size hb3.1)
      have bP2 := blk_alloc hP (.cells #[.int .i64 y.f0, .int .i64 y.f1, .slice A3 y.f2.length c3] 25)
      have bR2 := blk_alloc hR (.cells #[.int .i64 y.f0, .int .i64 y.f1, .slice A3 y.f2.length c3] 25)
      have HSO := Aside0.mk HLN.out
      have hfl := List.length_filter_le (before y) st.1
      have hcl := len_combine mode y (st.1.filter (before y))
      have hgl := len_gone mode y (st.1.filter (before y))
      have hfs : AreOk (st.1.filter (before y)) := HLN.out.ok1.filter _
      have hgs := gone_sub (mode := mode) (o := y) hfs.sorted
      have HFS := Aside0.mk hfs
      have HGS := Aside0.mk hgs
      have hne : w.heap.size ≠ wr.heap.size := by omega
      clear hIy hOwn hfs hgs
      go_upto_region 5 with fail
      go_wp2_with fail
      clear hb3 pa pb pc p0 z0 hP hR
      generalize hW : wr.alloc (.cells #[.int .i64 y.f0, .int .i64 y.f1, .slice A3 y.f2.length c3] 25) = W at bY HIy HLo2 HOw2 HB2 bP2 bR2 ⊢
      clear hW
      have F : ∀ w', Below W.heap.size W w' → w'.cell? ⟨wr.heap.size, 0, none⟩ = some (.int .i64 y.f0) ∧ w'.cell? ⟨wr.heap.size, 1, none⟩ = some (.int .i64 y.f1) ∧ w'.cell? ⟨wr.heap.size, 2, none⟩ = some (.slice A3 y.f2.length c3) ∧ w'.cell? ⟨w.heap.size, 0, none⟩ = some (.slice Al st.1.length cl) :=
        fun w' h => ⟨pw_cell_below h ((blk_cell bY 0).trans rfl), pw_cell_below h ((blk_cell bY 1).trans rfl), pw_cell_below h ((blk_cell bY 2).trans rfl), pw_cell_below h ((blk_cell bP2 0).trans rfl)⟩
      have hO2 := (F _ (Below.refl _ _)).1
      go_region_held3 (fun w' => w'.cell? ⟨wr.heap.size, 0, none⟩ = some (.int .i64 y.f0) ∧ w'.cell? ⟨wr.heap.size, 1, none⟩ = some (.int .i64 y.f1) ∧ w'.cell? ⟨wr.heap.size, 2, none⟩ = some (.slice A3 y.f2.length c3) ∧ w'.cell? ⟨w.heap.size, 0, none⟩ = some (.slice Al st.1.length cl))
        (first | (with_reducible exact F _ (Below.refl _ _)) | (with_reducible exact F _ (below_drew (Below.refl _ _))) | (with_reducible exact F _ HB0) | (with_reducible exact F _ HB1))
        (first
          | (go_at_call 85; refine (combine_any mode hm y A3 c3 A5 c5 (st.1.filter (before y)) _ (HIy.out.below HB0) HY.out HFS.out.all (by omega) HL5.out).mono ?_; rintro e w1 ⟨Af, cf, Ag, cg, rfl, hf, hg, hb1⟩; have HB1 : Below W.heap.size W w1 := below_then HB0 HB0.size hb1; have HF := Aside0.mk hf; have HG := Aside0.mk hg; clear hf hg hb1)
          | (go_at_call 97; refine (bef_any Al cl wr.heap.size y.f0 st.1 _ (by omega) (HOw2.out.below (below_drew (Below.refl _ _))) hO2).mono ?_; rw [← before_bef]; rintro e w5 ⟨A5, c5, rfl, hl5, hb5⟩; have HB0 : Below W.heap.size W w5 := keepD hb5; have HL5 := Aside0.mk hl5; clear hl5 hb5))
      have bP1 := blk_below bP2 HB1
      have bR1 := blk_below bR2 HB1
      have HBB1 := Aside0.mk HB1
      have hPs1 := blk_lt bP1
      clear F hO2 HB1 HB0 bY HL5 HIy bP2 bR2 HFS
      go_wp2_with (first
        | (go_at_call 86; refine (without_any Al Ag cl cg st.1 (combine mode y (st.1.filter (before y))).2 _ HGS.out (by omega) (by omega) (HOw2.out.below HB3.out) HG3.out).mono ?_; rintro e w4 ⟨A4, c4, rfl, ht4, hb4⟩; have bP4 := blk_below bP3 hb4; have bR4 := blk_below bR3 hb4; have z4 := blk_frozen bP4 0; have q4 := (blk_cell bP4 0).trans rfl; have HB4 := Aside0.mk (below_then HB3.out HB3.out.size hb4); have HT4 := Aside0.mk ht4; have HO4 := Aside0.mk (HO3.out.below hb4); clear ht4 hb4)
        | (go_at_call 60; refine (putAll_any Ao Af co cf st.2 (combine mode y (st.1.filter (before y))).1 _ HSO.out.ok2.sorted (by omega) (HLo2.out.below HBB1.out) HF.out).mono ?_; rintro e w3 ⟨A6, c6, rfl, ho3, hb3⟩; have bP3 := blk_below bP1 hb3; have bR3 := blk_below bR1 hb3; have q3 := (blk_cell bP3 0).trans rfl; have HB3 := Aside0.mk (below_then HBB1.out HBB1.out.size hb3); have HO3 := Aside0.mk ho3; have HG3 := Aside0.mk (HG.out.below hb3); clear ho3 hb3))
      go_roundw
      case rel =>
        refine ⟨k + 1, seqStep mode st y, _, _, _, _, by omega, by go_num, rfl, ⟨HT.out.symm⟩, ⟨⟨HN2.out.ok1, HN2.out.ok2, HN2.out.own, by have := HN2.out.out; omega⟩⟩, ⟨⟨(pair_set bP4 A4 _ c4).1, blk_far bR4 (by simp) _, rfl, ?_, ⟨A6, c6, rfl, IsL.away (ni_two bP4) (keep_set _ _ _ _) HO4.out⟩, ?_⟩⟩⟩
        · exact IsL.away (ni_two bP4) (keep_set _ _ _ _) HT4.out
        · exact (below_then HB2.out HB2.out.size HB4.out).setCell (p := ⟨w.heap.size, 0, none⟩) (Nat.le_refl _) _
      case measure => simp [intOf]; omega
    · have hke : k = right.length := by omega
      subst hke
      have hF := HST.out
      rw [List.take_length] at hF
      have hG : seqI mode l left right = (putAll st.1 left, st.2) := by unfold seqI; rw [← hF]
      have HG := Aside0.mk hG
      have hso := HLN.out.ok1.sorted
      have HLE2 := Aside0.mk (HLE.out.below HBel.out)
      have HOwn := Aside0.mk hOwn
      clear hF hG hOwn
      go_wp2_with (go_at_call 60; refine (putAll_any Al C cl cc st.1 left _ hso (by omega) HOwn.out HLE2.out).mono ?_; rintro e w3 ⟨A6, c6, rfl, ho3, hb3⟩; have bP3 := blk_below hP hb3; have bR3 := blk_below hR hb3; have q3 := (blk_cell bP3 0).trans rfl; have q31 := (blk_cell bP3 1).trans rfl; have z3 := blk_frozen bP3 0; have r30 := (blk_cell bR3 0).trans rfl; have r31 := (blk_cell bR3 1).trans rfl; have f30 := blk_frozen bR3 0; have f31 := blk_frozen bR3 1; have HB3 := Aside0.mk (below_then HBel.out HBel.out.size hb3); have HO3 := Aside0.mk ho3; have HLo3 := Aside0.mk (HLo.out.below hb3); clear ho3 hb3)
      have hp4 := (pair_set bP3 A6 (putAll st.1 left).length c6).1
      have hr4 := blk_far bR3 (p := ⟨w.heap.size, 0, none⟩) (by simp) (.slice A6 (putAll st.1 left).length c6)
      have hk4 := keep_set w3 w.heap.size 0 (.slice A6 (putAll st.1 left).length c6)
      have hB4 := HB3.out.setCell (p := ⟨w.heap.size, 0, none⟩) (Nat.le_refl _) (.slice A6 (putAll st.1 left).length c6)
      have HL4 := Aside0.mk (IsL.away (ni_two bP3) hk4 HO3.out)
      have HO4 := Aside0.mk (IsL.away (ni_two bP3) hk4 HLo3.out)
      have HRR4 := Aside0.mk (HRR.out.below hB4)
      clear hk4
      refine bodyPost_ret (results_ct rfl _ _ (w.heap.size + 1) 35 #[.slice A6 (putAll st.1 left).length c6, .slice B r.length cb] (0, 0) _ rfl (set2_blk _ _ hr4) Try.underlying35 rfl (by kernel_rfl)) rfl ?_
      rw [HG.out]
      have hk1 := keep_set (w3.setCell ⟨w.heap.size, 0, none⟩ (.slice A6 (putAll st.1 left).length c6)) (w.heap.size + 1) 0 (.slice A6 (putAll st.1 left).length c6)
      have hR1 : ((w3.setCell ⟨w.heap.size, 0, none⟩ (.slice A6 (putAll st.1 left).length c6)).setCell ⟨w.heap.size + 1, 0, none⟩ (.slice A6 (putAll st.1 left).length c6)).heap[w.heap.size + 1]? = some (.cells #[.slice A6 (putAll st.1 left).length c6, .slice none 0 0] 35 (0, 0)) := blk_put hr4 0 _ rfl
      have hk2 := keep_set ((w3.setCell ⟨w.heap.size, 0, none⟩ (.slice A6 (putAll st.1 left).length c6)).setCell ⟨w.heap.size + 1, 0, none⟩ (.slice A6 (putAll st.1 left).length c6)) (w.heap.size + 1) 1 (.slice B r.length cb)
      have G : ∀ {x : List Occ} {X : Option Addr} {cx : Nat}, IsL (w3.setCell ⟨w.heap.size, 0, none⟩ (.slice A6 (putAll st.1 left).length c6)) x X cx → IsL (set2 (w3.setCell ⟨w.heap.size, 0, none⟩ (.slice A6 (putAll st.1 left).length c6)) (w.heap.size + 1) (.slice A6 (putAll st.1 left).length c6) (.slice B r.length cb)) x X cx := fun h => IsL.away (ni_two hR1) hk2 (IsL.away (ni_two hr4) hk1 h)
      exact ⟨A6, c6, B, cb, Ao, co, rfl, G HL4.out, G HRR4.out, G HO4.out, set2_below hB4 (by omega) _ _⟩
end Go.Proofs.Ytjeojdbfpncnkaa.If
