
/- FnSpanMid: walked through. -/
import Derived.Test.YtccenpmaooailaaLB7
import Derived.Test.YtccenpmaooailaaLB6
import Derived.Test.YtccenpmaooailaaLTl
import Derived.Test.YtccenpmaooailaaLTg
set_option linter.unusedVariables false
set_option linter.unusedSimpArgs false
namespace Go.Proofs.Ytccenpmaooailaa.Fa
open Go.RowKit Go.Proofs.YtccenpmaooailaaW.PrintWords Go.Proofs.Ytccenpmaooailaa.Wd Go.Proofs.Ytccenpmaooailaa.Pu Go.Proofs.Ytccenpmaooailaa.Pv Go.Proofs.Ytccenpmaooailaa.Ca Go.Proofs.Ytccenpmaooailaa.Cb Go.Proofs.Ytccenpmaooailaa.Cc Go.Proofs.Ytccenpmaooailaa.Cp Go.Proofs.Ytccenpmaooailaa.Cd Go.Proofs.Ytccenpmaooailaa.Ci Go.Proofs.Ytccenpmaooailaa.Ce Go.Proofs.Ytccenpmaooailaa.Cf Go.Proofs.Ytccenpmaooailaa.Cg Go.Proofs.Ytccenpmaooailaa.Sc Go.Proofs.Ytccenpmaooailaa.Se Go.Proofs.Ytccenpmaooailaa.Sh Go.Proofs.Ytccenpmaooailaa.Si Go.Proofs.Ytccenpmaooailaa.Sp Go.Proofs.Ytccenpmaooailaa.Ia Go.Proofs.Ytccenpmaooailaa.Ib Go.Proofs.Ytccenpmaooailaa.Ic Go.Proofs.Ytccenpmaooailaa.Id Go.Proofs.Ytccenpmaooailaa.Ie Go.Proofs.Ytccenpmaooailaa.If Go.Proofs.Ytccenpmaooailaa.Ig Go.Proofs.Ytccenpmaooailaa.Ih Go.Proofs.Ytccenpmaooailaa.Ij Go.Proofs.Ytccenpmaooailaa.Ik Go.Proofs.Ytccenpmaooailaa.Ra Go.Proofs.Ytccenpmaooailaa.Rb Go.Proofs.Ytccenpmaooailaa.Rc Go.Proofs.Ytccenpmaooailaa.Rd Go.Proofs.Ytccenpmaooailaa.Re Go.Proofs.Ytccenpmaooailaa.Sj Go.Proofs.Ytccenpmaooailaa.Ya Go.Proofs.Ytccenpmaooailaa.Yd Go.Proofs.Ytccenpmaooailaa.Yf Go.Proofs.Ytccenpmaooailaa.Yg Go.Proofs.Ytccenpmaooailaa.Ih Go.Proofs.Ytccenpmaooailaa.Yh Go.Proofs.Ytccenpmaooailaa.Yi Go.Proofs.Ytccenpmaooailaa.Sg Go.Proofs.Ytccenpmaooailaa.Sf Go.Proofs.Ytccenpmaooailaa.Yj Go.Proofs.Ytccenpmaooailaa.Ig Go.Proofs.Ytccenpmaooailaa.Yk Go.Proofs.Ytccenpmaooailaa.Ik Go.Proofs.Ytccenpmaooailaa.Yl Go.Proofs.Ytccenpmaooailaa.Ij Go.Proofs.Ytccenpmaooailaa.Ym Go.Proofs.Ytccenpmaooailaa.Il Go.Proofs.Ytccenpmaooailaa.Yn Go.Proofs.Ytccenpmaooailaa.Yo Go.Proofs.Ytccenpmaooailaa.In Go.Proofs.Ytccenpmaooailaa.Yq Go.Proofs.Ytccenpmaooailaa.Pw Go.Proofs.Ytccenpmaooailaa.Px Go.Proofs.Ytccenpmaooailaa.La Go.Proofs.Ytccenpmaooailaa.Db Go.Proofs.Ytccenpmaooailaa.Ta Go.Proofs.Ytccenpmaooailaa.Tb Go.Proofs.Ytccenpmaooailaa.Tc Go.Proofs.Ytccenpmaooailaa.Td Go.Proofs.Ytccenpmaooailaa.Te Go.Proofs.Ytccenpmaooailaa.Tg Go.Proofs.Ytccenpmaooailaa.Tl Go.Proofs.Ytccenpmaooailaa.Sh Go.Proofs.Ytccenpmaooailaa.Id Go.Proofs.Ytccenpmaooailaa.Yk Go.Proofs.Ytccenpmaooailaa.Ih

theorem comb_nil (mode : Int) (o : Occ) : combine mode o [] = ([], []) := by
  unfold combine
  exact if_pos rfl
theorem notStep_nil (mode : Int) (m : List Occ) (x : List Occ) (o : Occ) : notStep mode m ([], x) o = ([], x) := by
  unfold notStep
  simp [comb_nil, putAll, without]
theorem eStep_nil (mode : Int) (m : List Occ) (x : List Occ) (o : Occ) : eStep mode m ([], x) o = ([], x) := by
  unfold eStep
  simp [comb_nil, putAll, without]
theorem notFold_nil (mode : Int) (m : List Occ) : ∀ (c : List Occ) (x : List Occ), c.foldl (notStep mode m) ([], x) = ([], x)
  | [], _ => rfl
  | o :: os, x => by rw [List.foldl_cons, notStep_nil, notFold_nil mode m os]
theorem eFold_nil (mode : Int) (m : List Occ) : ∀ (c : List Occ) (x : List Occ), c.foldl (eStep mode m) ([], x) = ([], x)
  | [], _ => rfl
  | o :: os, x => by rw [List.foldl_cons, eStep_nil, eFold_nil mode m os]
theorem not_none (mode : Int) (r a b c : List Occ) : (spec3 (fits5 mode [] r a b c) (not3 mode [] r a b c)).c = [] := by
  unfold spec3
  split
  · show (c.foldl (notStep mode r) ([], [])).2 = []
    rw [notFold_nil]
  · rfl
theorem each_none (mode : Int) (r a b c : List Occ) : (spec3 (fits5 mode [] r a b c) (each3 mode [] r a b c)).c = [] := by
  unfold spec3
  split
  · show (b.foldl (eStep mode r) ([], [])).2 = []
    rw [eFold_nil]
  · rfl
theorem not_free (mode : Int) (l r a b c : List Occ) (h : okOs b = true) : (spec3 (fits5 mode l r a b c) (not3 mode l r a b c)).c = (spec3 (fits5 mode l r a [] c) (not3 mode l r a [] c)).c := by
  have hf : fits5 mode l r a b c = fits5 mode l r a [] c := by unfold fits5; rw [h]; rfl
  rw [hf]
  unfold spec3
  split <;> rfl
theorem each_open (mode : Int) (l r a b c : List Occ) (h : okOs c = true) : (spec3 (fits5 mode l r a b c) (each3 mode l r a b c)).c = (spec3 (fits5 mode l r a b []) (each3 mode l r a b [])).c := by
  have hf : fits5 mode l r a b c = fits5 mode l r a b [] := by unfold fits5; rw [h]; rfl
  rw [hf]
  unfold spec3
  split <;> rfl
/-- what is found, in new memory -/
def OutC (w w' : World) (p : P3) (e : Ending) : Prop := ∃ A0 c0 A1 c1 A2 c2, e = .returned (.tuple #[.agg #[.slice A0 p.a.length c0, .slice A1 p.b.length c1], .slice A2 p.c.length c2]) ∧ IsL w' p.c A2 c2 ∧ Below w.heap.size w w'
theorem outC_of {w w' : World} {p : P3} {e : Ending} (h : Out3 w w' p e) : OutC w w' p e := by
  obtain ⟨v0, v1, v2, rfl, h0, h1, h2, hb⟩ := h
  obtain ⟨A0, c0, rfl⟩ := Kd.S_slice h0
  obtain ⟨A1, c1, rfl⟩ := Kd.S_slice h1
  obtain ⟨A2, c2, rfl⟩ := Kd.S_slice h2
  obtain ⟨_, hc, hC⟩ := Kd.S_reads' h2
  exact ⟨A0, c0, A1, c1, A2, c2, rfl, ⟨hc, hC⟩, hb⟩
theorem outC_ofL {w w' : World} {p : P3} {e : Ending} (h : Out3L w w' p e) : OutC w w' p e := by
  obtain ⟨A0, c0, A1, c1, A2, c2, rfl, _, _, h2, hb⟩ := h
  exact ⟨A0, c0, A1, c1, A2, c2, rfl, h2, hb⟩

set_option maxHeartbeats 60000000 in
set_option maxRecDepth 100000 in
theorem walk (A0 : Option Addr) (c0 : Nat) (bs : List Int) (w : World) (hC : (Kd.int .u8).C w A0 bs.length bs) (hc : bs.length ≤ c0) (hb : ∀ b ∈ bs, 0 ≤ b ∧ b ≤ 255) :
    Calls Try.prog 9 #[.slice A0 bs.length c0] w fun e w' => e = .returned (.bool true) ∧ Below w.heap.size w w' := by
  by_cases hbig : bs.length > 1048576
  · have d1 : decide ((bs.length : Int) > 1048576) = true := decide_eq_true (by omega)
    go_enter Try.func9, Try.ntmps9
    go_wp2
    go_ret
    exact ⟨rfl, Below.refl _ _⟩
  have d1 : decide ((bs.length : Int) > 1048576) = false := decide_eq_false (by omega)
  go_enter Try.func9, Try.ntmps9
  go_upto_region 4 with (go_at_call 37; refine (drawSpanEach_any A0 c0 bs _ hC hc hb).mono ?_; rintro e w0 ⟨mode, l, r, a, b, d, A, B, C, D, E, ca, cb, cc, cd, ce, rfl, h1, h2, h3, h4, h5, hbel⟩; have HL := Aside0.mk h1; have HR := Aside0.mk h2; have HA := Aside0.mk h3; have HB := Aside0.mk h4; have HC := Aside0.mk h5; have HBel := Aside0.mk hbel; clear h1 h2 h3 h4 h5 hbel)
  obtain ⟨p1, hp1⟩ : ∃ p, p = spec3 (fits5 mode l r a b d) (not3 mode l r a b d) := ⟨_, rfl⟩
  have CN := Aside0.mk (fun (w : World) (hL : IsL w l A ca) (hR : IsL w r B cb) (hA : IsL w a C cc) (hB : IsL w b D cd) (hC : IsL w d E ce) => (by rw [hp1]; exact (spanNot_any mode A B C D E ca cb cc cd ce l r a b d w hL hR hA hB hC).mono (fun _ _ h => outC_of h) : Calls Try.prog 31 #[.int .i64 mode, .agg #[.slice A l.length ca, .slice B r.length cb], .slice C a.length cc, .slice D b.length cd, .slice E d.length ce] w fun e w' => OutC w w' p1 e))
  obtain ⟨p2, hp2⟩ : ∃ p, p = spec3 (fits5 mode l r a b d) (not3 mode l r a b d) := ⟨_, rfl⟩
  have CS := Aside0.mk (fun (w : World) (hL : IsL w l A ca) (hR : IsL w r B cb) (hA : IsL w a C cc) (hB : IsL w b D cd) (hC : IsL w d E ce) => (by rw [hp2]; exact (sSpanNot_any mode A B C D E ca cb cc cd ce l r a b d w hL hR hA hB hC).mono (fun _ _ h => outC_ofL h) : Calls Try.prog 29 #[.int .i64 mode, .agg #[.slice A l.length ca, .slice B r.length cb], .slice C a.length cc, .slice D b.length cd, .slice E d.length ce] w fun e w' => OutC w w' p2 e))
  obtain ⟨p3, hp3⟩ : ∃ p, p = spec3 (fits5 mode l r a [] d) (not3 mode l r a [] d) := ⟨_, rfl⟩
  have CF := Aside0.mk (fun (w : World) (hL : IsL w l A ca) (hR : IsL w r B cb) (hA : IsL w a C cc) (hB : IsL w b D cd) (hC : IsL w d E ce) => (by rw [hp3]; exact (spanNot_any mode A B C none E ca cb cc 0 ce l r a [] d w hL hR hA (IsL.nil _) hC).mono (fun _ _ h => outC_of h) : Calls Try.prog 31 #[.int .i64 mode, .agg #[.slice A l.length ca, .slice B r.length cb], .slice C a.length cc, .slice none 0 0, .slice E d.length ce] w fun e w' => OutC w w' p3 e))
  obtain ⟨p4, hp4⟩ : ∃ p, p = spec3 (fits5 mode l r a b d) (each3 mode l r a b d) := ⟨_, rfl⟩
  have CE := Aside0.mk (fun (w : World) (hL : IsL w l A ca) (hR : IsL w r B cb) (hA : IsL w a C cc) (hB : IsL w b D cd) (hC : IsL w d E ce) => (by rw [hp4]; exact (spanEach_any mode A B C D E ca cb cc cd ce l r a b d w hL hR hA hB hC).mono (fun _ _ h => outC_of h) : Calls Try.prog 36 #[.int .i64 mode, .agg #[.slice A l.length ca, .slice B r.length cb], .slice C a.length cc, .slice D b.length cd, .slice E d.length ce] w fun e w' => OutC w w' p4 e))
  obtain ⟨p5, hp5⟩ : ∃ p, p = spec3 (fits5 mode l r a b []) (each3 mode l r a b []) := ⟨_, rfl⟩
  have CO := Aside0.mk (fun (w : World) (hL : IsL w l A ca) (hR : IsL w r B cb) (hA : IsL w a C cc) (hB : IsL w b D cd) (hC : IsL w d E ce) => (by rw [hp5]; exact (spanEach_any mode A B C D none ca cb cc cd 0 l r a b [] w hL hR hA hB (IsL.nil _)).mono (fun _ _ h => outC_of h) : Calls Try.prog 36 #[.int .i64 mode, .agg #[.slice A l.length ca, .slice B r.length cb], .slice C a.length cc, .slice D b.length cd, .slice none 0 0] w fun e w' => OutC w w' p5 e))
  obtain ⟨p6, hp6⟩ : ∃ p, p = spec3 (fits5 mode [] r a b d) (not3 mode [] r a b d) := ⟨_, rfl⟩
  have CZ := Aside0.mk (fun (w : World) (hL : IsL w l A ca) (hR : IsL w r B cb) (hA : IsL w a C cc) (hB : IsL w b D cd) (hC : IsL w d E ce) => (by rw [hp6]; exact (spanNot_any mode none B C D E 0 cb cc cd ce [] r a b d w (IsL.nil _) hR hA hB hC).mono (fun _ _ h => outC_of h) : Calls Try.prog 31 #[.int .i64 mode, .agg #[.slice none 0 0, .slice B r.length cb], .slice C a.length cc, .slice D b.length cd, .slice E d.length ce] w fun e w' => OutC w w' p6 e))
  obtain ⟨p7, hp7⟩ : ∃ p, p = spec3 (fits5 mode [] r a b d) (each3 mode [] r a b d) := ⟨_, rfl⟩
  have CY := Aside0.mk (fun (w : World) (hL : IsL w l A ca) (hR : IsL w r B cb) (hA : IsL w a C cc) (hB : IsL w b D cd) (hC : IsL w d E ce) => (by rw [hp7]; exact (spanEach_any mode none B C D E 0 cb cc cd ce [] r a b d w (IsL.nil _) hR hA hB hC).mono (fun _ _ h => outC_of h) : Calls Try.prog 36 #[.int .i64 mode, .agg #[.slice none 0 0, .slice B r.length cb], .slice C a.length cc, .slice D b.length cd, .slice E d.length ce] w fun e w' => OutC w w' p7 e))
  have h12 : p2 = p1 := hp2.trans hp1.symm
  subst h12
  have E13 := Aside0.mk (show okOs b = true → p2.c = p3.c by rw [hp1, hp3]; exact not_free mode l r a b d)
  have E45 := Aside0.mk (show okOs d = true → p4.c = p5.c by rw [hp4, hp5]; exact each_open mode l r a b d)
  have Z6 := Aside0.mk (show p6.c = [] by rw [hp6]; exact not_none mode r a b d)
  have Z7 := Aside0.mk (show p7.c = [] by rw [hp7]; exact each_none mode r a b d)
  clear hp1 hp2 hp3 hp4 hp5 hp6 hp7
  have bS0 := blk_new w0 (.cells #[.slice A l.length ca, .slice B r.length cb] 46)
  have hbx := below_alloc (Below.refl w0.heap.size w0) (.cells #[.slice A l.length ca, .slice B r.length cb] 46)
  generalize w0.alloc (.cells #[.slice A l.length ca, .slice B r.length cb] 46) = W0 at bS0 hbx ⊢
  have X0 := Aside0.mk hbx
  clear hbx
  have s0 := (blk_cell bS0 0).trans rfl
  have s1 := (blk_cell bS0 1).trans rfl
  go_upto_region 5 with (go_at_call 31; refine (CN.out _ (HL.out.below X0.out) (HR.out.below X0.out) (HA.out.below X0.out) (HB.out.below X0.out) (HC.out.below X0.out)).mono ?_; rintro e w1 ⟨G0, g0, G1, g1, R1, r1, rfl, ho, hb⟩; have O1_1 := Aside0.mk ho; have Y1 := Aside0.mk (below_then X0.out X0.out.size hb); have bT1 := blk_below bS0 hb; clear ho hb)
  clear s0 s1
  have hbx := below_alloc (Below.refl w1.heap.size w1) (.cells #[.slice G0 p2.a.length g0, .slice G1 p2.b.length g1] 46)
  generalize w1.alloc (.cells #[.slice G0 p2.a.length g0, .slice G1 p2.b.length g1] 46) = W1 at hbx ⊢
  have X1 := Aside0.mk (below_then Y1.out Y1.out.size hbx)
  have bS1 := blk_below bT1 hbx
  have P1_1 := Aside0.mk (O1_1.out.below hbx)
  clear hbx Y1 bT1 bS0 X0 O1_1
  have O1_1 := P1_1
  clear P1_1
  have s0 := (blk_cell bS1 0).trans rfl
  have s1 := (blk_cell bS1 1).trans rfl
  go_upto_region 6 with (go_at_call 29; refine (CS.out _ (HL.out.below X1.out) (HR.out.below X1.out) (HA.out.below X1.out) (HB.out.below X1.out) (HC.out.below X1.out)).mono ?_; rintro e w2 ⟨G0, g0, G1, g1, R2, r2, rfl, ho, hb⟩; have O2_2 := Aside0.mk ho; have O1_2 := Aside0.mk (O1_1.out.below hb); have Y2 := Aside0.mk (below_then X1.out X1.out.size hb); have bT2 := blk_below bS1 hb; clear ho hb)
  clear s0 s1
  have hbx := below_alloc (Below.refl w2.heap.size w2) (.cells #[.slice G0 p2.a.length g0, .slice G1 p2.b.length g1] 46)
  generalize w2.alloc (.cells #[.slice G0 p2.a.length g0, .slice G1 p2.b.length g1] 46) = W2 at hbx ⊢
  have X2 := Aside0.mk (below_then Y2.out Y2.out.size hbx)
  have bS2 := blk_below bT2 hbx
  have P1_2 := Aside0.mk (O1_2.out.below hbx)
  have P2_2 := Aside0.mk (O2_2.out.below hbx)
  clear hbx Y2 bT2 bS1 X1 O1_2 O2_2 O1_1
  have O1_2 := P1_2
  clear P1_2
  have O2_2 := P2_2
  clear P2_2
  have s0 := (blk_cell bS2 0).trans rfl
  have s1 := (blk_cell bS2 1).trans rfl
  go_upto_region 7 with (go_at_call 31; refine (CF.out _ (HL.out.below X2.out) (HR.out.below X2.out) (HA.out.below X2.out) (HB.out.below X2.out) (HC.out.below X2.out)).mono ?_; rintro e w3 ⟨G0, g0, G1, g1, R3, r3, rfl, ho, hb⟩; have O3_3 := Aside0.mk ho; have O1_3 := Aside0.mk (O1_2.out.below hb); have O2_3 := Aside0.mk (O2_2.out.below hb); have Y3 := Aside0.mk (below_then X2.out X2.out.size hb); have bT3 := blk_below bS2 hb; clear ho hb)
  clear s0 s1
  have hbx := below_alloc (Below.refl w3.heap.size w3) (.cells #[.slice G0 p3.a.length g0, .slice G1 p3.b.length g1] 46)
  generalize w3.alloc (.cells #[.slice G0 p3.a.length g0, .slice G1 p3.b.length g1] 46) = W3 at hbx ⊢
  have X3 := Aside0.mk (below_then Y3.out Y3.out.size hbx)
  have bS3 := blk_below bT3 hbx
  have P1_3 := Aside0.mk (O1_3.out.below hbx)
  have P2_3 := Aside0.mk (O2_3.out.below hbx)
  have P3_3 := Aside0.mk (O3_3.out.below hbx)
  clear hbx Y3 bT3 bS2 X2 O1_3 O2_3 O3_3 O1_2 O2_2
  have O1_3 := P1_3
  clear P1_3
  have O2_3 := P2_3
  clear P2_3
  have O3_3 := P3_3
  clear P3_3
  have s0 := (blk_cell bS3 0).trans rfl
  have s1 := (blk_cell bS3 1).trans rfl
  go_upto_region 8 with (go_at_call 36; refine (CE.out _ (HL.out.below X3.out) (HR.out.below X3.out) (HA.out.below X3.out) (HB.out.below X3.out) (HC.out.below X3.out)).mono ?_; rintro e w4 ⟨G0, g0, G1, g1, R4, r4, rfl, ho, hb⟩; have O4_4 := Aside0.mk ho; have O1_4 := Aside0.mk (O1_3.out.below hb); have O2_4 := Aside0.mk (O2_3.out.below hb); have O3_4 := Aside0.mk (O3_3.out.below hb); have Y4 := Aside0.mk (below_then X3.out X3.out.size hb); have bT4 := blk_below bS3 hb; clear ho hb)
  clear s0 s1
  have hbx := below_alloc (Below.refl w4.heap.size w4) (.cells #[.slice G0 p4.a.length g0, .slice G1 p4.b.length g1] 46)
  generalize w4.alloc (.cells #[.slice G0 p4.a.length g0, .slice G1 p4.b.length g1] 46) = W4 at hbx ⊢
  have X4 := Aside0.mk (below_then Y4.out Y4.out.size hbx)
  have bS4 := blk_below bT4 hbx
  have P1_4 := Aside0.mk (O1_4.out.below hbx)
  have P2_4 := Aside0.mk (O2_4.out.below hbx)
  have P3_4 := Aside0.mk (O3_4.out.below hbx)
  have P4_4 := Aside0.mk (O4_4.out.below hbx)
  clear hbx Y4 bT4 bS3 X3 O1_4 O2_4 O3_4 O4_4 O1_3 O2_3 O3_3
  have O1_4 := P1_4
  clear P1_4
  have O2_4 := P2_4
  clear P2_4
  have O3_4 := P3_4
  clear P3_4
  have O4_4 := P4_4
  clear P4_4
  have s0 := (blk_cell bS4 0).trans rfl
  have s1 := (blk_cell bS4 1).trans rfl
  go_upto_region 9 with (go_at_call 36; refine (CO.out _ (HL.out.below X4.out) (HR.out.below X4.out) (HA.out.below X4.out) (HB.out.below X4.out) (HC.out.below X4.out)).mono ?_; rintro e w5 ⟨G0, g0, G1, g1, R5, r5, rfl, ho, hb⟩; have O5_5 := Aside0.mk ho; have O1_5 := Aside0.mk (O1_4.out.below hb); have O2_5 := Aside0.mk (O2_4.out.below hb); have O3_5 := Aside0.mk (O3_4.out.below hb); have O4_5 := Aside0.mk (O4_4.out.below hb); have Y5 := Aside0.mk (below_then X4.out X4.out.size hb); have bT5 := blk_below bS4 hb; clear ho hb)
  clear s0 s1
  have hbx := below_alloc (Below.refl w5.heap.size w5) (.cells #[.slice G0 p5.a.length g0, .slice G1 p5.b.length g1] 46)
  generalize w5.alloc (.cells #[.slice G0 p5.a.length g0, .slice G1 p5.b.length g1] 46) = W5 at hbx ⊢
  have X5 := Aside0.mk (below_then Y5.out Y5.out.size hbx)
  have bS5 := blk_below bT5 hbx
  have P1_5 := Aside0.mk (O1_5.out.below hbx)
  have P2_5 := Aside0.mk (O2_5.out.below hbx)
  have P3_5 := Aside0.mk (O3_5.out.below hbx)
  have P4_5 := Aside0.mk (O4_5.out.below hbx)
  have P5_5 := Aside0.mk (O5_5.out.below hbx)
  clear hbx Y5 bT5 bS4 X4 O1_5 O2_5 O3_5 O4_5 O5_5 O1_4 O2_4 O3_4 O4_4
  have O1_5 := P1_5
  clear P1_5
  have O2_5 := P2_5
  clear P2_5
  have O3_5 := P3_5
  clear P3_5
  have O4_5 := P4_5
  clear P4_5
  have O5_5 := P5_5
  clear P5_5
  go_upto_region 11 with (go_at_call 38; refine (occsSame_any _ _ _ _ _ _ _ O1_5.out.rd O2_5.out.rd).mono ?_; rintro e w6 ⟨rfl, hb⟩; rw [decide_eq_true rfl]; have X6 := Aside0.mk (below_then X5.out X5.out.size hb); have bS6 := blk_below bS5 hb; have O1_6 := Aside0.mk (O1_5.out.below hb); have O3_6 := Aside0.mk (O3_5.out.below hb); have O4_6 := Aside0.mk (O4_5.out.below hb); have O5_6 := Aside0.mk (O5_5.out.below hb); clear hb)
  cases hqb : okOs b with
  | true =>
    have HEB := Aside0.mk (E13.out hqb)
    cases hqc : okOs d with
    | true =>
      have HEC := Aside0.mk (E45.out hqc)
      go_upto_region 13 with (first
        | (have hh := X9.out; clear hh; go_at_call 38; refine (occsSame_any _ _ _ _ _ _ _ O4_9.out.rd O5_9.out.rd).mono ?_; rintro e w10 ⟨rfl, hb⟩; rw [decide_eq_true HEC.out]; have X10 := Aside0.mk (below_then X9.out X9.out.size hb); have bS10 := blk_below bS9 hb; clear hb)
        | (have hh := X8.out; clear hh; go_at_call 39; refine (sOccsOk_any E ce d _ (HC.out.below X8.out).rd).mono ?_; rintro e w9 ⟨rfl, hb⟩; rw [hqc]; have X9 := Aside0.mk (below_then X8.out X8.out.size hb); have bS9 := blk_below bS8 hb; have O4_9 := Aside0.mk (O4_8.out.below hb); have O5_9 := Aside0.mk (O5_8.out.below hb); clear hb)
        | (have hh := X7.out; clear hh; go_at_call 38; refine (occsSame_any _ _ _ _ _ _ _ O1_7.out.rd O3_7.out.rd).mono ?_; rintro e w8 ⟨rfl, hb⟩; rw [decide_eq_true HEB.out]; have X8 := Aside0.mk (below_then X7.out X7.out.size hb); have bS8 := blk_below bS7 hb; have O4_8 := Aside0.mk (O4_7.out.below hb); have O5_8 := Aside0.mk (O5_7.out.below hb); clear hb)
        | (go_at_call 39; refine (sOccsOk_any D cd b _ (HB.out.below X6.out).rd).mono ?_; rintro e w7 ⟨rfl, hb⟩; rw [hqb]; have X7 := Aside0.mk (below_then X6.out X6.out.size hb); have bS7 := blk_below bS6 hb; have O1_7 := Aside0.mk (O1_6.out.below hb); have O3_7 := Aside0.mk (O3_6.out.below hb); have O4_7 := Aside0.mk (O4_6.out.below hb); have O5_7 := Aside0.mk (O5_6.out.below hb); clear hb))
      have s0 := (blk_cell bS10 0).trans rfl
      have z0 := blk_frozen bS10 0
      go_upto_region 14 with fail
      have bU : (w10.setCell ⟨w0.heap.size, 0, none⟩ (.slice none 0 0)).heap[w0.heap.size]? = some (.cells #[.slice none 0 0, .slice B r.length cb] 46 (0, 0)) := blk_put bS10 0 _ rfl
      have XU := Aside0.mk (X10.out.setCell (p := ⟨w0.heap.size, 0, none⟩) (Nat.le_refl _) (.slice none 0 0))
      clear s0 z0
      generalize w10.setCell ⟨w0.heap.size, 0, none⟩ (.slice none 0 0) = U at bU XU ⊢
      have s0 := (blk_cell bU 0).trans rfl
      have s1 := (blk_cell bU 1).trans rfl
      go_upto_region 15 with (go_at_call 31; refine (CZ.out _ (HL.out.below XU.out) (HR.out.below XU.out) (HA.out.below XU.out) (HB.out.below XU.out) (HC.out.below XU.out)).mono ?_; rintro e v1 ⟨G0, g0, G1, g1, R8, r8, rfl, -, hb⟩; have XV := Aside0.mk (below_then XU.out XU.out.size hb); have bV := blk_below bU hb; clear hb)
      clear s0 s1
      have hbx := below_alloc (Below.refl v1.heap.size v1) (.cells #[.slice G0 p6.a.length g0, .slice G1 p6.b.length g1] 46)
      generalize v1.alloc (.cells #[.slice G0 p6.a.length g0, .slice G1 p6.b.length g1] 46) = V at hbx ⊢
      have XX := Aside0.mk (below_then XV.out XV.out.size hbx)
      have bX := blk_below bV hbx
      clear hbx
      have s0 := (blk_cell bX 0).trans rfl
      have s1 := (blk_cell bX 1).trans rfl
      go_upto_region 16 with (go_at_call 36; refine (CY.out _ (HL.out.below XX.out) (HR.out.below XX.out) (HA.out.below XX.out) (HB.out.below XX.out) (HC.out.below XX.out)).mono ?_; rintro e v2 ⟨K0, k0, K1, k1, R9, r9, rfl, -, hb⟩; have XY := Aside0.mk (below_then XX.out XX.out.size hb); clear hb)
      rw [Z6.out, Z7.out]
      have hbx := below_alloc (Below.refl v2.heap.size v2) (.cells #[.slice K0 p7.a.length k0, .slice K1 p7.b.length k1] 46)
      generalize v2.alloc (.cells #[.slice K0 p7.a.length k0, .slice K1 p7.b.length k1] 46) = V2 at hbx ⊢
      have XZ := Aside0.mk (below_then HBel.out HBel.out.size (below_then XY.out XY.out.size hbx))
      clear hbx
      go_wp2
      go_ret
      exact ⟨rfl, XZ.out⟩
    | false =>
      go_upto_region 13 with (first
        | (have hh := X8.out; clear hh; go_at_call 39; refine (sOccsOk_any E ce d _ (HC.out.below X8.out).rd).mono ?_; rintro e w9 ⟨rfl, hb⟩; rw [hqc]; have X9 := Aside0.mk (below_then X8.out X8.out.size hb); have bS9 := blk_below bS8 hb; have O4_9 := Aside0.mk (O4_8.out.below hb); have O5_9 := Aside0.mk (O5_8.out.below hb); clear hb)
        | (have hh := X7.out; clear hh; go_at_call 38; refine (occsSame_any _ _ _ _ _ _ _ O1_7.out.rd O3_7.out.rd).mono ?_; rintro e w8 ⟨rfl, hb⟩; rw [decide_eq_true HEB.out]; have X8 := Aside0.mk (below_then X7.out X7.out.size hb); have bS8 := blk_below bS7 hb; have O4_8 := Aside0.mk (O4_7.out.below hb); have O5_8 := Aside0.mk (O5_7.out.below hb); clear hb)
        | (go_at_call 39; refine (sOccsOk_any D cd b _ (HB.out.below X6.out).rd).mono ?_; rintro e w7 ⟨rfl, hb⟩; rw [hqb]; have X7 := Aside0.mk (below_then X6.out X6.out.size hb); have bS7 := blk_below bS6 hb; have O1_7 := Aside0.mk (O1_6.out.below hb); have O3_7 := Aside0.mk (O3_6.out.below hb); have O4_7 := Aside0.mk (O4_6.out.below hb); have O5_7 := Aside0.mk (O5_6.out.below hb); clear hb))
      have s0 := (blk_cell bS9 0).trans rfl
      have z0 := blk_frozen bS9 0
      go_upto_region 14 with fail
      have bU : (w9.setCell ⟨w0.heap.size, 0, none⟩ (.slice none 0 0)).heap[w0.heap.size]? = some (.cells #[.slice none 0 0, .slice B r.length cb] 46 (0, 0)) := blk_put bS9 0 _ rfl
      have XU := Aside0.mk (X9.out.setCell (p := ⟨w0.heap.size, 0, none⟩) (Nat.le_refl _) (.slice none 0 0))
      clear s0 z0
      generalize w9.setCell ⟨w0.heap.size, 0, none⟩ (.slice none 0 0) = U at bU XU ⊢
      have s0 := (blk_cell bU 0).trans rfl
      have s1 := (blk_cell bU 1).trans rfl
      go_upto_region 15 with (go_at_call 31; refine (CZ.out _ (HL.out.below XU.out) (HR.out.below XU.out) (HA.out.below XU.out) (HB.out.below XU.out) (HC.out.below XU.out)).mono ?_; rintro e v1 ⟨G0, g0, G1, g1, R8, r8, rfl, -, hb⟩; have XV := Aside0.mk (below_then XU.out XU.out.size hb); have bV := blk_below bU hb; clear hb)
      clear s0 s1
      have hbx := below_alloc (Below.refl v1.heap.size v1) (.cells #[.slice G0 p6.a.length g0, .slice G1 p6.b.length g1] 46)
      generalize v1.alloc (.cells #[.slice G0 p6.a.length g0, .slice G1 p6.b.length g1] 46) = V at hbx ⊢
      have XX := Aside0.mk (below_then XV.out XV.out.size hbx)
      have bX := blk_below bV hbx
      clear hbx
      have s0 := (blk_cell bX 0).trans rfl
      have s1 := (blk_cell bX 1).trans rfl
      go_upto_region 16 with (go_at_call 36; refine (CY.out _ (HL.out.below XX.out) (HR.out.below XX.out) (HA.out.below XX.out) (HB.out.below XX.out) (HC.out.below XX.out)).mono ?_; rintro e v2 ⟨K0, k0, K1, k1, R9, r9, rfl, -, hb⟩; have XY := Aside0.mk (below_then XX.out XX.out.size hb); clear hb)
      rw [Z6.out, Z7.out]
      have hbx := below_alloc (Below.refl v2.heap.size v2) (.cells #[.slice K0 p7.a.length k0, .slice K1 p7.b.length k1] 46)
      generalize v2.alloc (.cells #[.slice K0 p7.a.length k0, .slice K1 p7.b.length k1] 46) = V2 at hbx ⊢
      have XZ := Aside0.mk (below_then HBel.out HBel.out.size (below_then XY.out XY.out.size hbx))
      clear hbx
      go_wp2
      go_ret
      exact ⟨rfl, XZ.out⟩
  | false =>
    cases hqc : okOs d with
    | true =>
      have HEC := Aside0.mk (E45.out hqc)
      go_upto_region 13 with (first
        | (have hh := X8.out; clear hh; go_at_call 38; refine (occsSame_any _ _ _ _ _ _ _ O4_8.out.rd O5_8.out.rd).mono ?_; rintro e w9 ⟨rfl, hb⟩; rw [decide_eq_true HEC.out]; have X9 := Aside0.mk (below_then X8.out X8.out.size hb); have bS9 := blk_below bS8 hb; clear hb)
        | (have hh := X7.out; clear hh; go_at_call 39; refine (sOccsOk_any E ce d _ (HC.out.below X7.out).rd).mono ?_; rintro e w8 ⟨rfl, hb⟩; rw [hqc]; have X8 := Aside0.mk (below_then X7.out X7.out.size hb); have bS8 := blk_below bS7 hb; have O4_8 := Aside0.mk (O4_7.out.below hb); have O5_8 := Aside0.mk (O5_7.out.below hb); clear hb)
        | (go_at_call 39; refine (sOccsOk_any D cd b _ (HB.out.below X6.out).rd).mono ?_; rintro e w7 ⟨rfl, hb⟩; rw [hqb]; have X7 := Aside0.mk (below_then X6.out X6.out.size hb); have bS7 := blk_below bS6 hb; have O1_7 := Aside0.mk (O1_6.out.below hb); have O3_7 := Aside0.mk (O3_6.out.below hb); have O4_7 := Aside0.mk (O4_6.out.below hb); have O5_7 := Aside0.mk (O5_6.out.below hb); clear hb))
      have s0 := (blk_cell bS9 0).trans rfl
      have z0 := blk_frozen bS9 0
      go_upto_region 14 with fail
      have bU : (w9.setCell ⟨w0.heap.size, 0, none⟩ (.slice none 0 0)).heap[w0.heap.size]? = some (.cells #[.slice none 0 0, .slice B r.length cb] 46 (0, 0)) := blk_put bS9 0 _ rfl
      have XU := Aside0.mk (X9.out.setCell (p := ⟨w0.heap.size, 0, none⟩) (Nat.le_refl _) (.slice none 0 0))
      clear s0 z0
      generalize w9.setCell ⟨w0.heap.size, 0, none⟩ (.slice none 0 0) = U at bU XU ⊢
      have s0 := (blk_cell bU 0).trans rfl
      have s1 := (blk_cell bU 1).trans rfl
      go_upto_region 15 with (go_at_call 31; refine (CZ.out _ (HL.out.below XU.out) (HR.out.below XU.out) (HA.out.below XU.out) (HB.out.below XU.out) (HC.out.below XU.out)).mono ?_; rintro e v1 ⟨G0, g0, G1, g1, R8, r8, rfl, -, hb⟩; have XV := Aside0.mk (below_then XU.out XU.out.size hb); have bV := blk_below bU hb; clear hb)
      clear s0 s1
      have hbx := below_alloc (Below.refl v1.heap.size v1) (.cells #[.slice G0 p6.a.length g0, .slice G1 p6.b.length g1] 46)
      generalize v1.alloc (.cells #[.slice G0 p6.a.length g0, .slice G1 p6.b.length g1] 46) = V at hbx ⊢
      have XX := Aside0.mk (below_then XV.out XV.out.size hbx)
      have bX := blk_below bV hbx
      clear hbx
      have s0 := (blk_cell bX 0).trans rfl
      have s1 := (blk_cell bX 1).trans rfl
      go_upto_region 16 with (go_at_call 36; refine (CY.out _ (HL.out.below XX.out) (HR.out.below XX.out) (HA.out.below XX.out) (HB.out.below XX.out) (HC.out.below XX.out)).mono ?_; rintro e v2 ⟨K0, k0, K1, k1, R9, r9, rfl, -, hb⟩; have XY := Aside0.mk (below_then XX.out XX.out.size hb); clear hb)
      rw [Z6.out, Z7.out]
      have hbx := below_alloc (Below.refl v2.heap.size v2) (.cells #[.slice K0 p7.a.length k0, .slice K1 p7.b.length k1] 46)
      generalize v2.alloc (.cells #[.slice K0 p7.a.length k0, .slice K1 p7.b.length k1] 46) = V2 at hbx ⊢
      have XZ := Aside0.mk (below_then HBel.out HBel.out.size (below_then XY.out XY.out.size hbx))
      clear hbx
      go_wp2
      go_ret
      exact ⟨rfl, XZ.out⟩
    | false =>
      go_upto_region 13 with (first
        | (have hh := X7.out; clear hh; go_at_call 39; refine (sOccsOk_any E ce d _ (HC.out.below X7.out).rd).mono ?_; rintro e w8 ⟨rfl, hb⟩; rw [hqc]; have X8 := Aside0.mk (below_then X7.out X7.out.size hb); have bS8 := blk_below bS7 hb; have O4_8 := Aside0.mk (O4_7.out.below hb); have O5_8 := Aside0.mk (O5_7.out.below hb); clear hb)
        | (go_at_call 39; refine (sOccsOk_any D cd b _ (HB.out.below X6.out).rd).mono ?_; rintro e w7 ⟨rfl, hb⟩; rw [hqb]; have X7 := Aside0.mk (below_then X6.out X6.out.size hb); have bS7 := blk_below bS6 hb; have O1_7 := Aside0.mk (O1_6.out.below hb); have O3_7 := Aside0.mk (O3_6.out.below hb); have O4_7 := Aside0.mk (O4_6.out.below hb); have O5_7 := Aside0.mk (O5_6.out.below hb); clear hb))
      have s0 := (blk_cell bS8 0).trans rfl
      have z0 := blk_frozen bS8 0
      go_upto_region 14 with fail
      have bU : (w8.setCell ⟨w0.heap.size, 0, none⟩ (.slice none 0 0)).heap[w0.heap.size]? = some (.cells #[.slice none 0 0, .slice B r.length cb] 46 (0, 0)) := blk_put bS8 0 _ rfl
      have XU := Aside0.mk (X8.out.setCell (p := ⟨w0.heap.size, 0, none⟩) (Nat.le_refl _) (.slice none 0 0))
      clear s0 z0
      generalize w8.setCell ⟨w0.heap.size, 0, none⟩ (.slice none 0 0) = U at bU XU ⊢
      have s0 := (blk_cell bU 0).trans rfl
      have s1 := (blk_cell bU 1).trans rfl
      go_upto_region 15 with (go_at_call 31; refine (CZ.out _ (HL.out.below XU.out) (HR.out.below XU.out) (HA.out.below XU.out) (HB.out.below XU.out) (HC.out.below XU.out)).mono ?_; rintro e v1 ⟨G0, g0, G1, g1, R8, r8, rfl, -, hb⟩; have XV := Aside0.mk (below_then XU.out XU.out.size hb); have bV := blk_below bU hb; clear hb)
      clear s0 s1
      have hbx := below_alloc (Below.refl v1.heap.size v1) (.cells #[.slice G0 p6.a.length g0, .slice G1 p6.b.length g1] 46)
      generalize v1.alloc (.cells #[.slice G0 p6.a.length g0, .slice G1 p6.b.length g1] 46) = V at hbx ⊢
      have XX := Aside0.mk (below_then XV.out XV.out.size hbx)
      have bX := blk_below bV hbx
      clear hbx
      have s0 := (blk_cell bX 0).trans rfl
      have s1 := (blk_cell bX 1).trans rfl
      go_upto_region 16 with (go_at_call 36; refine (CY.out _ (HL.out.below XX.out) (HR.out.below XX.out) (HA.out.below XX.out) (HB.out.below XX.out) (HC.out.below XX.out)).mono ?_; rintro e v2 ⟨K0, k0, K1, k1, R9, r9, rfl, -, hb⟩; have XY := Aside0.mk (below_then XX.out XX.out.size hb); clear hb)
      rw [Z6.out, Z7.out]
      have hbx := below_alloc (Below.refl v2.heap.size v2) (.cells #[.slice K0 p7.a.length k0, .slice K1 p7.b.length k1] 46)
      generalize v2.alloc (.cells #[.slice K0 p7.a.length k0, .slice K1 p7.b.length k1] 46) = V2 at hbx ⊢
      have XZ := Aside0.mk (below_then HBel.out HBel.out.size (below_then XY.out XY.out.size hbx))
      clear hbx
      go_wp2
      go_ret
      exact ⟨rfl, XZ.out⟩
end Go.Proofs.Ytccenpmaooailaa.Fa
