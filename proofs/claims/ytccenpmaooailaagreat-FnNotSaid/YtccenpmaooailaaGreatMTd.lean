
/- Spans at one time: the program's. -/
import Derived.Test.YtccenpmaooailaaGreatMB7
import Derived.Test.YtccenpmaooailaaGreatMB6
import Derived.Test.YtccenpmaooailaaGreatMTc
import Derived.Test.YtccenpmaooailaaGreatMTb
set_option linter.unusedVariables false
set_option linter.unusedSimpArgs false
namespace Go.Proofs.YtccenpmaooailaaGreat.Td
open Go.RowKit Go.Proofs.YtccenpmaooailaaGreatW.PrintWords Go.Proofs.YtccenpmaooailaaGreat.Wd Go.Proofs.YtccenpmaooailaaGreat.Pu Go.Proofs.YtccenpmaooailaaGreat.Pv Go.Proofs.YtccenpmaooailaaGreat.Ca Go.Proofs.YtccenpmaooailaaGreat.Cb Go.Proofs.YtccenpmaooailaaGreat.Cc Go.Proofs.YtccenpmaooailaaGreat.Cp Go.Proofs.YtccenpmaooailaaGreat.Cd Go.Proofs.YtccenpmaooailaaGreat.Ci Go.Proofs.YtccenpmaooailaaGreat.Ce Go.Proofs.YtccenpmaooailaaGreat.Cf Go.Proofs.YtccenpmaooailaaGreat.Cg Go.Proofs.YtccenpmaooailaaGreat.Sc Go.Proofs.YtccenpmaooailaaGreat.Se Go.Proofs.YtccenpmaooailaaGreat.Sh Go.Proofs.YtccenpmaooailaaGreat.Si Go.Proofs.YtccenpmaooailaaGreat.Sp Go.Proofs.YtccenpmaooailaaGreat.Ia Go.Proofs.YtccenpmaooailaaGreat.Ib Go.Proofs.YtccenpmaooailaaGreat.Ic Go.Proofs.YtccenpmaooailaaGreat.Id Go.Proofs.YtccenpmaooailaaGreat.Ie Go.Proofs.YtccenpmaooailaaGreat.If Go.Proofs.YtccenpmaooailaaGreat.Ig Go.Proofs.YtccenpmaooailaaGreat.Ih Go.Proofs.YtccenpmaooailaaGreat.Ij Go.Proofs.YtccenpmaooailaaGreat.Ik Go.Proofs.YtccenpmaooailaaGreat.Ra Go.Proofs.YtccenpmaooailaaGreat.Rb Go.Proofs.YtccenpmaooailaaGreat.Rc Go.Proofs.YtccenpmaooailaaGreat.Rd Go.Proofs.YtccenpmaooailaaGreat.Re Go.Proofs.YtccenpmaooailaaGreat.Sj Go.Proofs.YtccenpmaooailaaGreat.Ya Go.Proofs.YtccenpmaooailaaGreat.Yd Go.Proofs.YtccenpmaooailaaGreat.Yf Go.Proofs.YtccenpmaooailaaGreat.Yg Go.Proofs.YtccenpmaooailaaGreat.Ih Go.Proofs.YtccenpmaooailaaGreat.Yh Go.Proofs.YtccenpmaooailaaGreat.Yi Go.Proofs.YtccenpmaooailaaGreat.Sg Go.Proofs.YtccenpmaooailaaGreat.Sf Go.Proofs.YtccenpmaooailaaGreat.Yj Go.Proofs.YtccenpmaooailaaGreat.Ig Go.Proofs.YtccenpmaooailaaGreat.Yk Go.Proofs.YtccenpmaooailaaGreat.Ik Go.Proofs.YtccenpmaooailaaGreat.Yl Go.Proofs.YtccenpmaooailaaGreat.Ij Go.Proofs.YtccenpmaooailaaGreat.Ym Go.Proofs.YtccenpmaooailaaGreat.Il Go.Proofs.YtccenpmaooailaaGreat.Yn Go.Proofs.YtccenpmaooailaaGreat.Yo Go.Proofs.YtccenpmaooailaaGreat.In Go.Proofs.YtccenpmaooailaaGreat.Yq Go.Proofs.YtccenpmaooailaaGreat.Pw Go.Proofs.YtccenpmaooailaaGreat.Px Go.Proofs.YtccenpmaooailaaGreat.La Go.Proofs.YtccenpmaooailaaGreat.Db Go.Proofs.YtccenpmaooailaaGreat.Ta Go.Proofs.YtccenpmaooailaaGreat.Tb Go.Proofs.YtccenpmaooailaaGreat.Tc Go.Proofs.YtccenpmaooailaaGreat.Sh

/-! absence and repetition at one time -/
def notStep (mode : Int) (m : List Occ) (st : List Occ × List Occ) (o : Occ) : List Occ × List Occ :=
  (without st.1 (combine mode o (st.1.filter (opn m o))).2, putAll st.2 (combine mode o (st.1.filter (opn m o))).1)
def notStepS (mode : Int) (m : List Occ) (st : List Occ × List Occ) (o : Occ) : List Occ × List Occ :=
  ((pick mode st.1 (opn m o)).2, putAll st.2 (make mode (pick mode st.1 (opn m o)).1 o))
def not3 (mode : Int) (l m a b c : List Occ) : P3 := ⟨putAll (c.foldl (notStep mode m) (l, [])).1 a, putAll m b, (c.foldl (notStep mode m) (l, [])).2⟩
/-- repetition: what waits stays -/
def eStep (mode : Int) (m : List Occ) (st : List Occ × List Occ) (o : Occ) : List Occ × List Occ := (st.1, putAll st.2 (combine mode o (st.1.filter (opn m o))).1)
def eStepS (mode : Int) (m : List Occ) (st : List Occ × List Occ) (o : Occ) : List Occ × List Occ := (st.1, putAll st.2 (make mode (pick mode st.1 (opn m o)).1 o))
def each3 (mode : Int) (l m a b c : List Occ) : P3 := ⟨putAll (b.foldl (eStep mode m) (l, [])).1 a, putAll m c, (b.foldl (eStep mode m) (l, [])).2⟩
theorem eStep_fst {mode : Int} {m : List Occ} : ∀ (b : List Occ) (st : List Occ × List Occ), (b.foldl (eStep mode m) st).1 = st.1
  | [], _ => rfl
  | o :: os, st => by rw [List.foldl_cons, eStep_fst os]; rfl
theorem eStep_eq {mode : Int} (hm : 0 ≤ mode ∧ mode ≤ 4) {m : List Occ} {st : List Occ × List Occ} (h : AreOk st.1) {o : Occ} (ho : IsOk o) : eStep mode m st o = eStepS mode m st o := by
  obtain ⟨h1, h2⟩ := comb_pick hm h ho (opn m o)
  unfold eStep eStepS
  rw [h1]
theorem eLen_step {mode : Int} {m : List Occ} {st : List Occ × List Occ} {a c : Nat} (h : SeqLen st a c) {o : Occ} (ho : IsOk o) : SeqLen (eStep mode m st o) a (c + a) := by
  refine ⟨h.ok1, h.ok2.putAll (mem_combine ho (fun x hx => h.ok1.all x (List.mem_filter.1 hx).1)), h.own, ?_⟩
  have h1 := Go.Proofs.YtccenpmaooailaaGreat.Pv.len_putAll1 st.2 (combine mode o (st.1.filter (opn m o))).1
  have h2 := len_combine mode o (st.1.filter (opn m o))
  have h3 := List.length_filter_le (opn m o) st.1
  have := h.own; have := h.out; simp only [eStep]; omega
theorem notStep_eq {mode : Int} (hm : 0 ≤ mode ∧ mode ≤ 4) {m : List Occ} {st : List Occ × List Occ} (h : AreOk st.1) {o : Occ} (ho : IsOk o) : notStep mode m st o = notStepS mode m st o := by
  obtain ⟨h1, h2⟩ := comb_pick hm h ho (opn m o)
  unfold notStep notStepS
  rw [h1, h2]
theorem notStep_ok {mode : Int} {m : List Occ} {st : List Occ × List Occ} (h : AreOk st.1) (h2 : AreOk st.2) {o : Occ} (ho : IsOk o) : AreOk (notStep mode m st o).1 ∧ AreOk (notStep mode m st o).2 :=
  ⟨areOk_without h, h2.putAll (mem_combine ho (fun x hx => h.all x (List.mem_filter.1 hx).1))⟩
theorem notLen_step {mode : Int} {m : List Occ} {st : List Occ × List Occ} {a c : Nat} (h : SeqLen st a c) {o : Occ} (ho : IsOk o) : SeqLen (notStep mode m st o) a (c + a) := by
  obtain ⟨h1, h2⟩ := notStep_ok (mode := mode) (m := m) h.ok1 h.ok2 ho
  refine ⟨h1, h2, ?_, ?_⟩
  · have := len_without st.1 (combine mode o (st.1.filter (opn m o))).2; have := h.own; simp only [notStep]; omega
  · have h1 := Go.Proofs.YtccenpmaooailaaGreat.Pv.len_putAll1 st.2 (combine mode o (st.1.filter (opn m o))).1
    have h2 := len_combine mode o (st.1.filter (opn m o))
    have h3 := List.length_filter_le (opn m o) st.1
    have := h.own; have := h.out; simp only [notStep]; omega
structure SpanMem (w wr : World) (st : List Occ × List Occ) (r : List Occ) (B : Option Addr) (cb : Nat) (vo : Value) (Al : Option Addr) (nl cl : Nat) : Prop where
  bP : wr.heap[w.heap.size]? = some (.cells #[.slice Al nl cl, .slice B r.length cb] 25 (0, 0))
  bR : wr.heap[w.heap.size + 1]? = some (.cells #[.slice none 0 0, .slice none 0 0] 25 (0, 0))
  nl : nl = st.1.length
  own : IsL wr st.1 Al cl
  out : ∃ Ao co, vo = .slice Ao st.2.length co ∧ IsL wr st.2 Ao co
  bel : Below w.heap.size w wr
set_option maxHeartbeats 4000000 in
set_option maxRecDepth 100000 in
theorem not_any (mode : Int) (hm : 0 ≤ mode ∧ mode ≤ 4) (A B C D E : Option Addr) (ca cb cc cd ce : Nat) (l r left mid right : List Occ) (w : World) (hl : AreOk l) (hrr : AreOk r) (hle : ∀ o ∈ left, IsOk o) (hri : ∀ o ∈ right, IsOk o)
    (n1 : l.length + left.length ≤ 500) (n2 : right.length ≤ 500) (n3 : r.length + mid.length ≤ 500) (hL : IsL w l A ca) (hR : IsL w r B cb) (hE : IsL w left C cc) (hD : IsL w mid D cd) (hI : IsL w right E ce) :
    Calls Tryz.prog 44 #[.agg #[.slice A l.length ca, .slice B r.length cb], .int .i64 mode, .slice C left.length cc, .slice D mid.length cd, .slice E right.length ce] w fun e w' => SeqOut w w' (not3 mode l r left mid right).a (not3 mode l r left mid right).b (not3 mode l r left mid right).c e := by
  have hmf : ∀ (fn : Fn) (first cap : Array Value) (w : World), (Instr.makeFunc fn first cap).run Tryz.prog w = .ok (.func fn first cap) w := fun _ _ _ _ => rfl
  have hb0 : Below w.heap.size w ((w.alloc (.cells #[.slice A l.length ca, .slice B r.length cb] 25)).alloc (.cells #[.slice none 0 0, .slice none 0 0] 25)) := below_alloc (below_alloc (Below.refl _ _) _) _
  have HM : Aside0 (SpanMem w ((w.alloc (.cells #[.slice A l.length ca, .slice B r.length cb] 25)).alloc (.cells #[.slice none 0 0, .slice none 0 0] 25)) (l, []) r B cb (.slice none 0 0) A l.length ca) :=
    ⟨⟨blk_alloc (blk_new _ _) _, by have := blk_new (w.alloc (.cells #[.slice A l.length ca, .slice B r.length cb] 25)) (.cells #[.slice none 0 0, .slice none 0 0] 25); simpa using this, rfl, hL.below hb0, ⟨none, 0, rfl, IsL.nil _⟩, hb0⟩⟩
  have LENS : Aside0 (SeqLen (l, []) l.length (0 * 500)) := ⟨⟨hl, AreOk.nil, Nat.le_refl _, Nat.le_refl _⟩⟩
  have HLE := Aside0.mk hE
  have HRI := Aside0.mk hI
  have HRR := Aside0.mk hR
  have HMD := Aside0.mk hD
  have HSR := Aside0.mk hrr.sorted
  have HOKL := Aside0.mk hle
  have HOKR := Aside0.mk hri
  clear hL hR hE hI hD hle hri hb0 hl hrr
  go_enter Tryz.func44, Tryz.ntmps44
  go_wp2
  go_loopw [12, 19] (fun vo vi wr => ∃ (k : Nat) (st : List Occ × List Occ) (v : Value) (Al : Option Addr) (nl cl : Nat), k ≤ right.length ∧ vi = .int .i64 k ∧ v = vo ∧ Aside0 (st = (right.take k).foldl (notStep mode r) (l, [])) ∧ Aside0 (SeqLen st l.length (k * 500)) ∧ Aside0 (SpanMem w wr st r B cb v Al nl cl)) (fun _ vi _ => right.length - (intOf vi).toNat)
  case atStart => exact ⟨0, _, _, _, _, _, Nat.zero_le _, rfl, rfl, ⟨by simp⟩, LENS, HM⟩
  case round =>
    clear HM LENS
    obtain ⟨k, st, vo, Al, nl, cl, hk, rfl, rfl, HST, HLN, HM⟩ := hrel
    have hP := HM.out.bP
    have hR := HM.out.bR
    have hPs := blk_lt hP
    have hRs := blk_lt hR
    have hn1 : nl = st.1.length := HM.out.nl
    subst hn1
    have hOwn : IsL wr st.1 Al cl := HM.out.own
    obtain ⟨Ao, co, hvo, hLo⟩ := HM.out.out
    subst hvo
    have HLo := Aside0.mk hLo
    have HBel := Aside0.mk HM.out.bel
    have HLN5 := HLN.out.own
    have hout5 := HLN.out.out
    have p0 := (blk_cell hP 0).trans rfl
    have p1 := (blk_cell hP 1).trans rfl
    have z0 := blk_frozen hP 0
    clear hLo HM
    by_cases hlt : k < right.length
    · obtain ⟨ad', A3, c3, e3, pa, pb, pc, pl, pC⟩ := atO (HRI.out.below HBel.out).rd k hlt
      cases e3
      have hIy : IsO wr (right.getD k zO) A3 c3 := ⟨pl, pC⟩
      have hy := HOKR.out _ (getD_mem (l := right) (i := k) hlt)
      have hT := foldl_take (notStep mode r) (l, []) right k hlt
      rw [← HST.out] at hT
      generalize right.getD k zO = y at pa pb pc hIy hy hT
      have HT := Aside0.mk hT
      have HY := Aside0.mk hy
      have HN2 := Aside0.mk (notLen_step (mode := mode) (m := r) HLN.out hy)
      clear pl pC hy hT
      have hb3 := box3 wr (.int .i64 y.f0) (.int .i64 y.f1) (.slice A3 y.f2.length c3) 43
      have bY : (wr.alloc (.cells #[.int .i64 y.f0, .int .i64 y.f1, .slice A3 y.f2.length c3] 43)).heap[wr.heap.size]? = some (.cells #[.int .i64 y.f0, .int .i64 y.f1, .slice A3 y.f2.length c3] 43 (0, 0)) := blk_new _ _
      have HIy := Aside0.mk (hIy.below hb3.1)
      have HLo2 := Aside0.mk (HLo.out.below hb3.1)
      have HOw2 := Aside0.mk (hOwn.below hb3.1)
      have HB2 := Aside0.mk (below_then HBel.out HBel.out.size hb3.1)
      have bP2 := blk_alloc hP (.cells #[.int .i64 y.f0, .int .i64 y.f1, .slice A3 y.f2.length c3] 43)
      have bR2 := blk_alloc hR (.cells #[.int .i64 y.f0, .int .i64 y.f1, .slice A3 y.f2.length c3] 43)
      have HSO := Aside0.mk HLN.out
      have hfl := List.length_filter_le (opn r y) st.1
      have hcl := len_combine mode y (st.1.filter (opn r y))
      have hgl := len_gone mode y (st.1.filter (opn r y))
      have hfs : AreOk (st.1.filter (opn r y)) := HLN.out.ok1.filter _
      have hgs := gone_sub (mode := mode) (o := y) hfs.sorted
      have HFS := Aside0.mk hfs
      have HGS := Aside0.mk hgs
      have hne : w.heap.size ≠ wr.heap.size := by omega
      clear hIy hOwn hfs hgs
      go_upto_region 5 with fail
      go_wp2_with fail
      clear hb3 pa pb pc p0 p1 z0 hP hR
      generalize hW : wr.alloc (.cells #[.int .i64 y.f0, .int .i64 y.f1, .slice A3 y.f2.length c3] 43) = W at bY HIy HLo2 HOw2 HB2 bP2 bR2 ⊢
      clear hW
      have F : ∀ w', Below W.heap.size W w' → w'.cell? ⟨wr.heap.size, 0, none⟩ = some (.int .i64 y.f0) ∧ w'.cell? ⟨wr.heap.size, 1, none⟩ = some (.int .i64 y.f1) ∧ w'.cell? ⟨wr.heap.size, 2, none⟩ = some (.slice A3 y.f2.length c3) ∧ w'.cell? ⟨w.heap.size, 0, none⟩ = some (.slice Al st.1.length cl) ∧ w'.cell? ⟨w.heap.size, 1, none⟩ = some (.slice B r.length cb) :=
        fun w' h => ⟨pw_cell_below h ((blk_cell bY 0).trans rfl), pw_cell_below h ((blk_cell bY 1).trans rfl), pw_cell_below h ((blk_cell bY 2).trans rfl), pw_cell_below h ((blk_cell bP2 0).trans rfl), pw_cell_below h ((blk_cell bP2 1).trans rfl)⟩
      go_region_held3 (fun w' => w'.cell? ⟨wr.heap.size, 0, none⟩ = some (.int .i64 y.f0) ∧ w'.cell? ⟨wr.heap.size, 1, none⟩ = some (.int .i64 y.f1) ∧ w'.cell? ⟨wr.heap.size, 2, none⟩ = some (.slice A3 y.f2.length c3) ∧ w'.cell? ⟨w.heap.size, 0, none⟩ = some (.slice Al st.1.length cl) ∧ w'.cell? ⟨w.heap.size, 1, none⟩ = some (.slice B r.length cb))
        (first | (with_reducible exact F _ (Below.refl _ _)) | (with_reducible exact F _ (below_drew (Below.refl _ _))) | (with_reducible exact F _ HB0) | (with_reducible exact F _ HB1))
        (first
          | (go_at_call 83; refine (combine_any mode hm y A3 c3 A5 c5 (st.1.filter (opn r y)) _ (HIy.out.below HB0) HY.out HFS.out.all (by omega) HL5.out).mono ?_; rintro e w1 ⟨Af, cf, Ag, cg, rfl, hf, hg, hb1⟩; have HB1 : Below W.heap.size W w1 := below_then HB0 HB0.size hb1; have HF := Aside0.mk hf; have HG := Aside0.mk hg; clear hf hg hb1)
          | (go_at_call 84; refine (iOpen_any Al B A3 cl cb c3 st.1 r y _ (by omega) (HOw2.out.below (below_drew (Below.refl _ _))) ((HRR.out.below HB2.out).below (below_drew (Below.refl _ _)))).mono ?_; rintro e w5 ⟨A5, c5, rfl, hl5, hb5⟩; have HB0 : Below W.heap.size W w5 := keepD hb5; have HL5 := Aside0.mk hl5; clear hl5 hb5))
      have bP1 := blk_below bP2 HB1
      have bR1 := blk_below bR2 HB1
      have HBB1 := Aside0.mk HB1
      have hPs1 := blk_lt bP1
      clear F HB1 HB0 bY HL5 HIy bP2 bR2 HFS
      go_wp2_with (first
        | (go_at_call 85; refine (without_any Al Ag cl cg st.1 (combine mode y (st.1.filter (opn r y))).2 _ HGS.out (by omega) (by omega) (HOw2.out.below HB3.out) HG3.out).mono ?_; rintro e w4 ⟨A4, c4, rfl, ht4, hb4⟩; have bP4 := blk_below bP3 hb4; have bR4 := blk_below bR3 hb4; have z4 := blk_frozen bP4 0; have q4 := (blk_cell bP4 0).trans rfl; have HB4 := Aside0.mk (below_then HB3.out HB3.out.size hb4); have HT4 := Aside0.mk ht4; have HO4 := Aside0.mk (HO3.out.below hb4); clear ht4 hb4)
        | (go_at_call 71; refine (putAll_any Ao Af co cf st.2 (combine mode y (st.1.filter (opn r y))).1 _ HSO.out.ok2.sorted (by omega) (HLo2.out.below HBB1.out) HF.out).mono ?_; rintro e w3 ⟨A6, c6, rfl, ho3, hb3⟩; have bP3 := blk_below bP1 hb3; have bR3 := blk_below bR1 hb3; have q3 := (blk_cell bP3 0).trans rfl; have HB3 := Aside0.mk (below_then HBB1.out HBB1.out.size hb3); have HO3 := Aside0.mk ho3; have HG3 := Aside0.mk (HG.out.below hb3); clear ho3 hb3))
      go_roundw
      case rel =>
        refine ⟨k + 1, notStep mode r st y, _, _, _, _, by omega, by go_num, rfl, ⟨HT.out.symm⟩, ⟨⟨HN2.out.ok1, HN2.out.ok2, HN2.out.own, by have := HN2.out.out; omega⟩⟩, ⟨⟨(pair_set bP4 A4 _ c4).1, blk_far bR4 (by simp) _, rfl, ?_, ⟨A6, c6, rfl, IsL.away (ni_two bP4) (keep_set _ _ _ _) HO4.out⟩, ?_⟩⟩⟩
        · exact IsL.away (ni_two bP4) (keep_set _ _ _ _) HT4.out
        · exact (below_then HB2.out HB2.out.size HB4.out).setCell (p := ⟨w.heap.size, 0, none⟩) (Nat.le_refl _) _
      case measure => simp [intOf]; omega
    · have hke : k = right.length := by omega
      subst hke
      have hF := HST.out
      rw [List.take_length] at hF
      have hG : not3 mode l r left mid right = ⟨putAll st.1 left, putAll r mid, st.2⟩ := by unfold not3; rw [← hF]
      have HG := Aside0.mk hG
      have hso := HLN.out.ok1.sorted
      have HLE2 := Aside0.mk (HLE.out.below HBel.out)
      have HRR2 := Aside0.mk (HRR.out.below HBel.out)
      have HMD2 := Aside0.mk (HMD.out.below HBel.out)
      have HOwn := Aside0.mk hOwn
      have HF9 : Aside0 (∀ w', Below wr.heap.size wr w' → (fun w' => w'.cell? ⟨w.heap.size, 0, none⟩ = some (.slice Al st.1.length cl) ∧ w'.cell? ⟨w.heap.size, 1, none⟩ = some (.slice B r.length cb)) w') := ⟨fun w' h => ⟨(blk_cell (blk_below hP h) 0).trans rfl, (blk_cell (blk_below hP h) 1).trans rfl⟩⟩
      have HB0 : Below wr.heap.size wr wr.drew := below_drew (Below.refl _ _)
      clear hF hG hOwn p0 p1 z0
      go_upto_region 9 with fail
      refine Za.regionL (fun w' => w'.cell? ⟨w.heap.size, 0, none⟩ = some (.slice Al st.1.length cl) ∧ w'.cell? ⟨w.heap.size, 1, none⟩ = some (.slice B r.length cb)) [] (by kernel_rfl) ?_
      have HS : (fun w' => w'.cell? ⟨w.heap.size, 0, none⟩ = some (.slice Al st.1.length cl) ∧ w'.cell? ⟨w.heap.size, 1, none⟩ = some (.slice B r.length cb)) wr.drew := HF9.out _ HB0
      refine Za.takeL 0 (v := ?v0) rfl (by kernel_rfl) (by kernel_rfl) (by kernel_rfl) (by kernel_rfl) (fun _ _ _ h => h) (Or.inl ⟨by rfl, ?hy0⟩) HS ?rest0
      case hy0 => (intro w hSw; (try dsimp only at hSw); go_simp; try with_reducible rfl)
      (try simp only [Act.put, List.setIfInBounds_toArray, List.set_cons_zero, List.set_cons_succ])
      refine Za.takeL 1 (v := ?v1) rfl (by kernel_rfl) (by kernel_rfl) (by kernel_rfl) (by kernel_rfl) (fun _ _ _ h => h) (Or.inl ⟨by rfl, ?hy1⟩) HS ?rest1
      case hy1 => (intro w hSw; (try dsimp only at hSw); go_simp; try with_reducible rfl)
      (try simp only [Act.put, List.setIfInBounds_toArray, List.set_cons_zero, List.set_cons_succ])
      refine Za.takeL 2 (v := ?v2) rfl (by kernel_rfl) (by kernel_rfl) (by kernel_rfl) (by kernel_rfl) (fun _ _ _ h => h) (Or.inl ⟨by rfl, ?hy2⟩) HS ?rest2
      case hy2 => (intro w hSw; (try dsimp only at hSw); go_simp; try with_reducible rfl)
      (try simp only [Act.put, List.setIfInBounds_toArray, List.set_cons_zero, List.set_cons_succ])
      refine Za.takeL 4 (v := ?v4) rfl (by kernel_rfl) (by kernel_rfl) (by kernel_rfl) (by kernel_rfl) (fun _ _ _ h => h) (Or.inl ⟨by rfl, ?hy4⟩) HS ?rest4
      case hy4 => (intro w hSw; (try dsimp only at hSw); go_simp; try with_reducible rfl)
      (try simp only [Act.put, List.setIfInBounds_toArray, List.set_cons_zero, List.set_cons_succ])
      refine Za.takeL 5 (v := ?v5) rfl (by kernel_rfl) (by kernel_rfl) (by kernel_rfl) (by kernel_rfl) (fun _ _ _ h => h) (Or.inl ⟨by rfl, ?hy5⟩) HS ?rest5
      case hy5 => (intro w hSw; (try dsimp only at hSw); go_simp; try with_reducible rfl)
      (try simp only [Act.put, List.setIfInBounds_toArray, List.set_cons_zero, List.set_cons_succ])
      refine Za.takeL 6 (v := ?v6) rfl (by kernel_rfl) (by kernel_rfl) (by kernel_rfl) (by kernel_rfl) (fun _ _ _ h => h) (Or.inl ⟨by rfl, ?hy6⟩) HS ?rest6
      case hy6 => (intro w hSw; (try dsimp only at hSw); go_simp; try with_reducible rfl)
      (try simp only [Act.put, List.setIfInBounds_toArray, List.set_cons_zero, List.set_cons_succ])
      refine Za.takeL 9 (v := ?v9) rfl (by kernel_rfl) (by kernel_rfl) (by kernel_rfl) (by kernel_rfl) (fun _ _ _ h => h) (Or.inl ⟨by rfl, ?hy9⟩) HS ?rest9
      case hy9 => (intro w hSw; (try dsimp only at hSw); go_simp; try with_reducible rfl)
      (try simp only [Act.put, List.setIfInBounds_toArray, List.set_cons_zero, List.set_cons_succ])
      clear HS
      refine Za.nextL 3 (by kernel_rfl) rfl (fun K' hK => ?_)
      go_simp
      (go_at_call 71; refine (putAll_any Al C cl cc st.1 left _ hso (by omega) (HOwn.out.below HB0) (HLE2.out.below HB0)).mono ?_; rintro e w3 ⟨A6, c6, rfl, ho3, hb3⟩; have HB3 : Below wr.heap.size wr w3 := keepD hb3; have HO3 := Aside0.mk ho3; clear ho3 hb3)
      go_wp2_with fail
      refine hK.out _ _ ⟨fun _ => HF9.out _ HB3, ?_⟩
      clear hK K'
      (try simp only [Act.put, List.setIfInBounds_toArray, List.set_cons_zero, List.set_cons_succ])
      have HS : (fun w' => w'.cell? ⟨w.heap.size, 0, none⟩ = some (.slice Al st.1.length cl) ∧ w'.cell? ⟨w.heap.size, 1, none⟩ = some (.slice B r.length cb)) w3 := HF9.out _ HB3
      clear HS
      refine Za.nextL 7 (by kernel_rfl) rfl (fun K' hK => ?_)
      go_simp
      (go_at_call 71; refine (putAll_any B D cb cd r mid _ HSR.out (by omega) (HRR2.out.below HB3) (HMD2.out.below HB3)).mono ?_; rintro e w4 ⟨A7, c7, rfl, ho4, hb4⟩; have HB4 : Below wr.heap.size wr w4 := below_then HB3 HB3.size hb4; have HO3b := Aside0.mk (HO3.out.below hb4); have HO4 := Aside0.mk ho4; clear ho4 hb4)
      go_wp2_with fail
      refine hK.out _ _ ⟨fun _ => HF9.out _ HB4, ?_⟩
      clear hK K'
      (try simp only [Act.put, List.setIfInBounds_toArray, List.set_cons_zero, List.set_cons_succ])
      have HS : (fun w' => w'.cell? ⟨w.heap.size, 0, none⟩ = some (.slice Al st.1.length cl) ∧ w'.cell? ⟨w.heap.size, 1, none⟩ = some (.slice B r.length cb)) w4 := HF9.out _ HB4
      refine Za.takeL 8 (v := ?v8) rfl (by kernel_rfl) (by kernel_rfl) (by kernel_rfl) (by kernel_rfl) (fun _ _ _ h => h) (Or.inl ⟨by rfl, ?hy8⟩) HS ?rest8
      case hy8 => (intro w hSw; (try dsimp only at hSw); go_simp; try with_reducible rfl)
      (try simp only [Act.put, List.setIfInBounds_toArray, List.set_cons_zero, List.set_cons_succ])
      clear HS
      have bR4 := blk_below hR HB4
      have hB4 := below_then HBel.out HBel.out.size HB4
      have bP4 := blk_below hP HB4
      have bP5 := blk_far (blk_far bP4 (p := ⟨w.heap.size + 1, 0, none⟩) (show w.heap.size ≠ w.heap.size + 1 by omega) (.slice A6 (putAll st.1 left).length c6)) (p := ⟨w.heap.size + 1, 1, none⟩) (show w.heap.size ≠ w.heap.size + 1 by omega) (.slice A7 (putAll r mid).length c7)
      have HS10 : Aside0 ((fun w' => w'.cell? ⟨w.heap.size, 0, none⟩ = some (.slice Al st.1.length cl) ∧ w'.cell? ⟨w.heap.size, 1, none⟩ = some (.slice B r.length cb)) (Id.set2 w4 (w.heap.size + 1) (.slice A6 (putAll st.1 left).length c6) (.slice A7 (putAll r mid).length c7))) := ⟨⟨(blk_cell bP5 0).trans rfl, (blk_cell bP5 1).trans rfl⟩⟩
      clear bP4 bP5
      have r30 := (blk_cell bR4 0).trans rfl
      have r31 := (blk_cell bR4 1).trans rfl
      have f30 := blk_frozen bR4 0
      have f31 := blk_frozen bR4 1
      refine Za.nextL 10 (by kernel_rfl) rfl (fun K' hK => ?_)
      go_simp
      refine hK.out _ _ ⟨fun _ => HS10.out, ?_⟩
      clear hK K'
      (try simp only [Act.put, List.setIfInBounds_toArray, List.set_cons_zero, List.set_cons_succ])
      refine Za.nextL 11 (by kernel_rfl) rfl (fun K' hK => ?_)
      go_simp
      refine hK.out _ _ ⟨fun _ => HS10.out, ?_⟩
      clear hK K'
      (try simp only [Act.put, List.setIfInBounds_toArray, List.set_cons_zero, List.set_cons_succ])
      refine Za.Walk.done (by kernel_rfl) ?_
      clear r30 r31 f30 f31
      go_wp2
      refine bodyPost_ret (results_ct rfl _ _ (w.heap.size + 1) 25 #[.slice A6 (putAll st.1 left).length c6, .slice A7 (putAll r mid).length c7] (0, 0) _ rfl (Id.set2_blk _ _ bR4) Tryz.underlying25 rfl (by kernel_rfl)) rfl ?_
      rw [HG.out]
      have G : ∀ {x : List Occ} {X : Option Addr} {cx : Nat}, IsL w4 x X cx → IsL (Id.set2 w4 (w.heap.size + 1) (.slice A6 (putAll st.1 left).length c6) (.slice A7 (putAll r mid).length c7)) x X cx := fun h =>
        IsL.away (ni_two (blk_put bR4 0 (.slice A6 (putAll st.1 left).length c6) rfl)) (keep_set _ (w.heap.size + 1) 1 _) (IsL.away (ni_two bR4) (keep_set w4 (w.heap.size + 1) 0 _) h)
      exact ⟨A6, c6, A7, c7, Ao, co, rfl, G HO3b.out, G HO4.out, G (HLo.out.below HB4), Id.set2_below hB4 (by omega) _ _⟩

set_option maxHeartbeats 4000000 in
set_option maxRecDepth 100000 in
theorem each_any (mode : Int) (hm : 0 ≤ mode ∧ mode ≤ 4) (A B C D E : Option Addr) (ca cb cc cd ce : Nat) (l r left mid right : List Occ) (w : World) (hl : AreOk l) (hrr : AreOk r) (hle : ∀ o ∈ left, IsOk o) (hri : ∀ o ∈ right, IsOk o)
    (n1 : l.length + left.length ≤ 500) (n2 : right.length ≤ 500) (n3 : r.length + mid.length ≤ 500) (hL : IsL w l A ca) (hR : IsL w r B cb) (hE : IsL w left C cc) (hD : IsL w mid E ce) (hI : IsL w right D cd) :
    Calls Tryz.prog 51 #[.agg #[.slice A l.length ca, .slice B r.length cb], .int .i64 mode, .slice C left.length cc, .slice D right.length cd, .slice E mid.length ce] w fun e w' => SeqOut w w' (each3 mode l r left right mid).a (each3 mode l r left right mid).b (each3 mode l r left right mid).c e := by
  have hmf : ∀ (fn : Fn) (first cap : Array Value) (w : World), (Instr.makeFunc fn first cap).run Tryz.prog w = .ok (.func fn first cap) w := fun _ _ _ _ => rfl
  have hb0 : Below w.heap.size w ((w.alloc (.cells #[.slice A l.length ca, .slice B r.length cb] 25)).alloc (.cells #[.slice none 0 0, .slice none 0 0] 25)) := below_alloc (below_alloc (Below.refl _ _) _) _
  have HM : Aside0 (SpanMem w ((w.alloc (.cells #[.slice A l.length ca, .slice B r.length cb] 25)).alloc (.cells #[.slice none 0 0, .slice none 0 0] 25)) (l, []) r B cb (.slice none 0 0) A l.length ca) :=
    ⟨⟨blk_alloc (blk_new _ _) _, by have := blk_new (w.alloc (.cells #[.slice A l.length ca, .slice B r.length cb] 25)) (.cells #[.slice none 0 0, .slice none 0 0] 25); simpa using this, rfl, hL.below hb0, ⟨none, 0, rfl, IsL.nil _⟩, hb0⟩⟩
  have LENS : Aside0 (SeqLen (l, []) l.length (0 * 500)) := ⟨⟨hl, AreOk.nil, Nat.le_refl _, Nat.le_refl _⟩⟩
  have HLE := Aside0.mk hE
  have HRI := Aside0.mk hI
  have HRR := Aside0.mk hR
  have HMD := Aside0.mk hD
  have HSR := Aside0.mk hrr.sorted
  have HOKL := Aside0.mk hle
  have HOKR := Aside0.mk hri
  clear hL hR hE hI hD hle hri hb0 hl hrr
  go_enter Tryz.func51, Tryz.ntmps51
  go_wp2
  go_loopw [12, 19] (fun vo vi wr => ∃ (k : Nat) (st : List Occ × List Occ) (v : Value) (Al : Option Addr) (nl cl : Nat), k ≤ right.length ∧ vi = .int .i64 k ∧ v = vo ∧ Aside0 (st = (right.take k).foldl (eStep mode r) (l, [])) ∧ Aside0 (SeqLen st l.length (k * 500)) ∧ Aside0 (SpanMem w wr st r B cb v Al nl cl)) (fun _ vi _ => right.length - (intOf vi).toNat)
  case atStart => exact ⟨0, _, _, _, _, _, Nat.zero_le _, rfl, rfl, ⟨by simp⟩, LENS, HM⟩
  case round =>
    clear HM LENS
    obtain ⟨k, st, vo, Al, nl, cl, hk, rfl, rfl, HST, HLN, HM⟩ := hrel
    have hP := HM.out.bP
    have hR := HM.out.bR
    have hPs := blk_lt hP
    have hRs := blk_lt hR
    have hn1 : nl = st.1.length := HM.out.nl
    subst hn1
    have hOwn : IsL wr st.1 Al cl := HM.out.own
    obtain ⟨Ao, co, hvo, hLo⟩ := HM.out.out
    subst hvo
    have HLo := Aside0.mk hLo
    have HBel := Aside0.mk HM.out.bel
    have HLN5 := HLN.out.own
    have hout5 := HLN.out.out
    have p0 := (blk_cell hP 0).trans rfl
    have p1 := (blk_cell hP 1).trans rfl
    have z0 := blk_frozen hP 0
    clear hLo HM
    by_cases hlt : k < right.length
    · obtain ⟨ad', A3, c3, e3, pa, pb, pc, pl, pC⟩ := atO (HRI.out.below HBel.out).rd k hlt
      cases e3
      have hIy : IsO wr (right.getD k zO) A3 c3 := ⟨pl, pC⟩
      have hy := HOKR.out _ (getD_mem (l := right) (i := k) hlt)
      have hT := foldl_take (eStep mode r) (l, []) right k hlt
      rw [← HST.out] at hT
      generalize right.getD k zO = y at pa pb pc hIy hy hT
      have HT := Aside0.mk hT
      have HY := Aside0.mk hy
      have HN2 := Aside0.mk (eLen_step (mode := mode) (m := r) HLN.out hy)
      clear pl pC hy hT
      have hb3 := box3 wr (.int .i64 y.f0) (.int .i64 y.f1) (.slice A3 y.f2.length c3) 43
      have bY : (wr.alloc (.cells #[.int .i64 y.f0, .int .i64 y.f1, .slice A3 y.f2.length c3] 43)).heap[wr.heap.size]? = some (.cells #[.int .i64 y.f0, .int .i64 y.f1, .slice A3 y.f2.length c3] 43 (0, 0)) := blk_new _ _
      have HIy := Aside0.mk (hIy.below hb3.1)
      have HLo2 := Aside0.mk (HLo.out.below hb3.1)
      have HOw2 := Aside0.mk (hOwn.below hb3.1)
      have HB2 := Aside0.mk (below_then HBel.out HBel.out.size hb3.1)
      have bP2 := blk_alloc hP (.cells #[.int .i64 y.f0, .int .i64 y.f1, .slice A3 y.f2.length c3] 43)
      have bR2 := blk_alloc hR (.cells #[.int .i64 y.f0, .int .i64 y.f1, .slice A3 y.f2.length c3] 43)
      have HSO := Aside0.mk HLN.out
      have hfl := List.length_filter_le (opn r y) st.1
      have hcl := len_combine mode y (st.1.filter (opn r y))
      have hgl := len_gone mode y (st.1.filter (opn r y))
      have hfs : AreOk (st.1.filter (opn r y)) := HLN.out.ok1.filter _
      have hgs := gone_sub (mode := mode) (o := y) hfs.sorted
      have HFS := Aside0.mk hfs
      have HGS := Aside0.mk hgs
      have hne : w.heap.size ≠ wr.heap.size := by omega
      clear hIy hOwn hfs hgs
      go_upto_region 5 with fail
      go_wp2_with fail
      clear hb3 pa pb pc p0 p1 z0 hP hR
      generalize hW : wr.alloc (.cells #[.int .i64 y.f0, .int .i64 y.f1, .slice A3 y.f2.length c3] 43) = W at bY HIy HLo2 HOw2 HB2 bP2 bR2 ⊢
      clear hW
      have F : ∀ w', Below W.heap.size W w' → w'.cell? ⟨wr.heap.size, 0, none⟩ = some (.int .i64 y.f0) ∧ w'.cell? ⟨wr.heap.size, 1, none⟩ = some (.int .i64 y.f1) ∧ w'.cell? ⟨wr.heap.size, 2, none⟩ = some (.slice A3 y.f2.length c3) ∧ w'.cell? ⟨w.heap.size, 0, none⟩ = some (.slice Al st.1.length cl) ∧ w'.cell? ⟨w.heap.size, 1, none⟩ = some (.slice B r.length cb) :=
        fun w' h => ⟨pw_cell_below h ((blk_cell bY 0).trans rfl), pw_cell_below h ((blk_cell bY 1).trans rfl), pw_cell_below h ((blk_cell bY 2).trans rfl), pw_cell_below h ((blk_cell bP2 0).trans rfl), pw_cell_below h ((blk_cell bP2 1).trans rfl)⟩
      go_region_held3 (fun w' => w'.cell? ⟨wr.heap.size, 0, none⟩ = some (.int .i64 y.f0) ∧ w'.cell? ⟨wr.heap.size, 1, none⟩ = some (.int .i64 y.f1) ∧ w'.cell? ⟨wr.heap.size, 2, none⟩ = some (.slice A3 y.f2.length c3) ∧ w'.cell? ⟨w.heap.size, 0, none⟩ = some (.slice Al st.1.length cl) ∧ w'.cell? ⟨w.heap.size, 1, none⟩ = some (.slice B r.length cb))
        (first | (with_reducible exact F _ (Below.refl _ _)) | (with_reducible exact F _ (below_drew (Below.refl _ _))) | (with_reducible exact F _ HB0) | (with_reducible exact F _ HB1))
        (first
          | (go_at_call 83; refine (combine_any mode hm y A3 c3 A5 c5 (st.1.filter (opn r y)) _ (HIy.out.below HB0) HY.out HFS.out.all (by omega) HL5.out).mono ?_; rintro e w1 ⟨Af, cf, Ag, cg, rfl, hf, hg, hb1⟩; have HB1 : Below W.heap.size W w1 := below_then HB0 HB0.size hb1; have HF := Aside0.mk hf; have HG := Aside0.mk hg; clear hf hg hb1)
          | (go_at_call 84; refine (iOpen_any Al B A3 cl cb c3 st.1 r y _ (by omega) (HOw2.out.below (below_drew (Below.refl _ _))) ((HRR.out.below HB2.out).below (below_drew (Below.refl _ _)))).mono ?_; rintro e w5 ⟨A5, c5, rfl, hl5, hb5⟩; have HB0 : Below W.heap.size W w5 := keepD hb5; have HL5 := Aside0.mk hl5; clear hl5 hb5))
      have bP1 := blk_below bP2 HB1
      have bR1 := blk_below bR2 HB1
      have HBB1 := Aside0.mk HB1
      have hPs1 := blk_lt bP1
      clear F HB1 HB0 bY HL5 HIy bP2 bR2 HFS
      go_wp2_with (go_at_call 71; refine (putAll_any Ao Af co cf st.2 (combine mode y (st.1.filter (opn r y))).1 _ HSO.out.ok2.sorted (by omega) (HLo2.out.below HBB1.out) HF.out).mono ?_; rintro e w3 ⟨A6, c6, rfl, ho3, hb3⟩; have bP3 := blk_below bP1 hb3; have bR3 := blk_below bR1 hb3; have HB3 := Aside0.mk (below_then HBB1.out HBB1.out.size hb3); have HO3 := Aside0.mk ho3; clear ho3 hb3)
      go_roundw
      case rel => exact ⟨k + 1, eStep mode r st y, _, _, _, _, by omega, by go_num, rfl, ⟨HT.out.symm⟩, ⟨⟨HN2.out.ok1, HN2.out.ok2, HN2.out.own, by have := HN2.out.out; omega⟩⟩, ⟨⟨bP3, bR3, rfl, HOw2.out.below HB3.out, ⟨A6, c6, rfl, HO3.out⟩, below_then HB2.out HB2.out.size HB3.out⟩⟩⟩
      case measure => simp [intOf]; omega
    · have hke : k = right.length := by omega
      subst hke
      have hF := HST.out
      rw [List.take_length] at hF
      have hG : each3 mode l r left right mid = ⟨putAll st.1 left, putAll r mid, st.2⟩ := by unfold each3; rw [← hF]
      have HG := Aside0.mk hG
      have hso := HLN.out.ok1.sorted
      have HLE2 := Aside0.mk (HLE.out.below HBel.out)
      have HRR2 := Aside0.mk (HRR.out.below HBel.out)
      have HMD2 := Aside0.mk (HMD.out.below HBel.out)
      have HOwn := Aside0.mk hOwn
      have HF9 : Aside0 (∀ w', Below wr.heap.size wr w' → (fun w' => w'.cell? ⟨w.heap.size, 0, none⟩ = some (.slice Al st.1.length cl) ∧ w'.cell? ⟨w.heap.size, 1, none⟩ = some (.slice B r.length cb)) w') := ⟨fun w' h => ⟨(blk_cell (blk_below hP h) 0).trans rfl, (blk_cell (blk_below hP h) 1).trans rfl⟩⟩
      have HB0 : Below wr.heap.size wr wr.drew := below_drew (Below.refl _ _)
      clear hF hG hOwn p0 p1 z0
      go_upto_region 8 with fail
      refine Za.regionL (fun w' => w'.cell? ⟨w.heap.size, 0, none⟩ = some (.slice Al st.1.length cl) ∧ w'.cell? ⟨w.heap.size, 1, none⟩ = some (.slice B r.length cb)) [] (by kernel_rfl) ?_
      have HS : (fun w' => w'.cell? ⟨w.heap.size, 0, none⟩ = some (.slice Al st.1.length cl) ∧ w'.cell? ⟨w.heap.size, 1, none⟩ = some (.slice B r.length cb)) wr.drew := HF9.out _ HB0
      refine Za.takeL 0 (v := ?v0) rfl (by kernel_rfl) (by kernel_rfl) (by kernel_rfl) (by kernel_rfl) (fun _ _ _ h => h) (Or.inl ⟨by rfl, ?hy0⟩) HS ?rest0
      case hy0 => (intro w hSw; (try dsimp only at hSw); go_simp; try with_reducible rfl)
      (try simp only [Act.put, List.setIfInBounds_toArray, List.set_cons_zero, List.set_cons_succ])
      refine Za.takeL 1 (v := ?v1) rfl (by kernel_rfl) (by kernel_rfl) (by kernel_rfl) (by kernel_rfl) (fun _ _ _ h => h) (Or.inl ⟨by rfl, ?hy1⟩) HS ?rest1
      case hy1 => (intro w hSw; (try dsimp only at hSw); go_simp; try with_reducible rfl)
      (try simp only [Act.put, List.setIfInBounds_toArray, List.set_cons_zero, List.set_cons_succ])
      refine Za.takeL 2 (v := ?v2) rfl (by kernel_rfl) (by kernel_rfl) (by kernel_rfl) (by kernel_rfl) (fun _ _ _ h => h) (Or.inl ⟨by rfl, ?hy2⟩) HS ?rest2
      case hy2 => (intro w hSw; (try dsimp only at hSw); go_simp; try with_reducible rfl)
      (try simp only [Act.put, List.setIfInBounds_toArray, List.set_cons_zero, List.set_cons_succ])
      refine Za.takeL 4 (v := ?v4) rfl (by kernel_rfl) (by kernel_rfl) (by kernel_rfl) (by kernel_rfl) (fun _ _ _ h => h) (Or.inl ⟨by rfl, ?hy4⟩) HS ?rest4
      case hy4 => (intro w hSw; (try dsimp only at hSw); go_simp; try with_reducible rfl)
      (try simp only [Act.put, List.setIfInBounds_toArray, List.set_cons_zero, List.set_cons_succ])
      refine Za.takeL 5 (v := ?v5) rfl (by kernel_rfl) (by kernel_rfl) (by kernel_rfl) (by kernel_rfl) (fun _ _ _ h => h) (Or.inl ⟨by rfl, ?hy5⟩) HS ?rest5
      case hy5 => (intro w hSw; (try dsimp only at hSw); go_simp; try with_reducible rfl)
      (try simp only [Act.put, List.setIfInBounds_toArray, List.set_cons_zero, List.set_cons_succ])
      refine Za.takeL 6 (v := ?v6) rfl (by kernel_rfl) (by kernel_rfl) (by kernel_rfl) (by kernel_rfl) (fun _ _ _ h => h) (Or.inl ⟨by rfl, ?hy6⟩) HS ?rest6
      case hy6 => (intro w hSw; (try dsimp only at hSw); go_simp; try with_reducible rfl)
      (try simp only [Act.put, List.setIfInBounds_toArray, List.set_cons_zero, List.set_cons_succ])
      refine Za.takeL 9 (v := ?v9) rfl (by kernel_rfl) (by kernel_rfl) (by kernel_rfl) (by kernel_rfl) (fun _ _ _ h => h) (Or.inl ⟨by rfl, ?hy9⟩) HS ?rest9
      case hy9 => (intro w hSw; (try dsimp only at hSw); go_simp; try with_reducible rfl)
      (try simp only [Act.put, List.setIfInBounds_toArray, List.set_cons_zero, List.set_cons_succ])
      clear HS
      refine Za.nextL 3 (by kernel_rfl) rfl (fun K' hK => ?_)
      go_simp
      (go_at_call 71; refine (putAll_any Al C cl cc st.1 left _ hso (by omega) (HOwn.out.below HB0) (HLE2.out.below HB0)).mono ?_; rintro e w3 ⟨A6, c6, rfl, ho3, hb3⟩; have HB3 : Below wr.heap.size wr w3 := keepD hb3; have HO3 := Aside0.mk ho3; clear ho3 hb3)
      go_wp2_with fail
      refine hK.out _ _ ⟨fun _ => HF9.out _ HB3, ?_⟩
      clear hK K'
      (try simp only [Act.put, List.setIfInBounds_toArray, List.set_cons_zero, List.set_cons_succ])
      have HS : (fun w' => w'.cell? ⟨w.heap.size, 0, none⟩ = some (.slice Al st.1.length cl) ∧ w'.cell? ⟨w.heap.size, 1, none⟩ = some (.slice B r.length cb)) w3 := HF9.out _ HB3
      clear HS
      refine Za.nextL 7 (by kernel_rfl) rfl (fun K' hK => ?_)
      go_simp
      (go_at_call 71; refine (putAll_any B E cb ce r mid _ HSR.out (by omega) (HRR2.out.below HB3) (HMD2.out.below HB3)).mono ?_; rintro e w4 ⟨A7, c7, rfl, ho4, hb4⟩; have HB4 : Below wr.heap.size wr w4 := below_then HB3 HB3.size hb4; have HO3b := Aside0.mk (HO3.out.below hb4); have HO4 := Aside0.mk ho4; clear ho4 hb4)
      go_wp2_with fail
      refine hK.out _ _ ⟨fun _ => HF9.out _ HB4, ?_⟩
      clear hK K'
      (try simp only [Act.put, List.setIfInBounds_toArray, List.set_cons_zero, List.set_cons_succ])
      have HS : (fun w' => w'.cell? ⟨w.heap.size, 0, none⟩ = some (.slice Al st.1.length cl) ∧ w'.cell? ⟨w.heap.size, 1, none⟩ = some (.slice B r.length cb)) w4 := HF9.out _ HB4
      refine Za.takeL 8 (v := ?v8) rfl (by kernel_rfl) (by kernel_rfl) (by kernel_rfl) (by kernel_rfl) (fun _ _ _ h => h) (Or.inl ⟨by rfl, ?hy8⟩) HS ?rest8
      case hy8 => (intro w hSw; (try dsimp only at hSw); go_simp; try with_reducible rfl)
      (try simp only [Act.put, List.setIfInBounds_toArray, List.set_cons_zero, List.set_cons_succ])
      clear HS
      have bR4 := blk_below hR HB4
      have hB4 := below_then HBel.out HBel.out.size HB4
      have bP4 := blk_below hP HB4
      have bP5 := blk_far (blk_far bP4 (p := ⟨w.heap.size + 1, 0, none⟩) (show w.heap.size ≠ w.heap.size + 1 by omega) (.slice A6 (putAll st.1 left).length c6)) (p := ⟨w.heap.size + 1, 1, none⟩) (show w.heap.size ≠ w.heap.size + 1 by omega) (.slice A7 (putAll r mid).length c7)
      have HS10 : Aside0 ((fun w' => w'.cell? ⟨w.heap.size, 0, none⟩ = some (.slice Al st.1.length cl) ∧ w'.cell? ⟨w.heap.size, 1, none⟩ = some (.slice B r.length cb)) (Id.set2 w4 (w.heap.size + 1) (.slice A6 (putAll st.1 left).length c6) (.slice A7 (putAll r mid).length c7))) := ⟨⟨(blk_cell bP5 0).trans rfl, (blk_cell bP5 1).trans rfl⟩⟩
      clear bP4 bP5
      have r30 := (blk_cell bR4 0).trans rfl
      have r31 := (blk_cell bR4 1).trans rfl
      have f30 := blk_frozen bR4 0
      have f31 := blk_frozen bR4 1
      refine Za.nextL 10 (by kernel_rfl) rfl (fun K' hK => ?_)
      go_simp
      refine hK.out _ _ ⟨fun _ => HS10.out, ?_⟩
      clear hK K'
      (try simp only [Act.put, List.setIfInBounds_toArray, List.set_cons_zero, List.set_cons_succ])
      refine Za.nextL 11 (by kernel_rfl) rfl (fun K' hK => ?_)
      go_simp
      refine hK.out _ _ ⟨fun _ => HS10.out, ?_⟩
      clear hK K'
      (try simp only [Act.put, List.setIfInBounds_toArray, List.set_cons_zero, List.set_cons_succ])
      refine Za.Walk.done (by kernel_rfl) ?_
      clear r30 r31 f30 f31
      go_wp2
      refine bodyPost_ret (results_ct rfl _ _ (w.heap.size + 1) 25 #[.slice A6 (putAll st.1 left).length c6, .slice A7 (putAll r mid).length c7] (0, 0) _ rfl (Id.set2_blk _ _ bR4) Tryz.underlying25 rfl (by kernel_rfl)) rfl ?_
      rw [HG.out]
      have G : ∀ {x : List Occ} {X : Option Addr} {cx : Nat}, IsL w4 x X cx → IsL (Id.set2 w4 (w.heap.size + 1) (.slice A6 (putAll st.1 left).length c6) (.slice A7 (putAll r mid).length c7)) x X cx := fun h =>
        IsL.away (ni_two (blk_put bR4 0 (.slice A6 (putAll st.1 left).length c6) rfl)) (keep_set _ (w.heap.size + 1) 1 _) (IsL.away (ni_two bR4) (keep_set w4 (w.heap.size + 1) 0 _) h)
      exact ⟨A6, c6, A7, c7, Ao, co, rfl, G HO3b.out, G HO4.out, G (HLo.out.below HB4), Id.set2_below hB4 (by omega) _ _⟩
end Go.Proofs.YtccenpmaooailaaGreat.Td
