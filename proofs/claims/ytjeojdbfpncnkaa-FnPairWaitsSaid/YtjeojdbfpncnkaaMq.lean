import Derived.Test.YtjeojdbfpncnkaaMy
import Derived.Test.YtjeojdbfpncnkaaIh
import Derived.Test.YtjeojdbfpncnkaaMd
import Derived.Test.YtjeojdbfpncnkaaRows
import Derived.WalkKit
import Derived.ProofKit
import Derived.OpenShut
import Derived.ShutString
import Derived.ChangeOld
import Derived.Below
import Derived.SizedLaws
/- FnPairWaits: the plain law; two pairs compared. -/
set_option linter.unusedVariables false
set_option linter.unusedSimpArgs false
namespace Go.Proofs.Ytjeojdbfpncnkaa.Qa
open Go.RowKit Go.Proofs.YtjeojdbfpncnkaaW.PrintWords Go.Proofs.Ytjeojdbfpncnkaa.Wd Go.Proofs.Ytjeojdbfpncnkaa.Pu Go.Proofs.Ytjeojdbfpncnkaa.Pv Go.Proofs.Ytjeojdbfpncnkaa.Ca Go.Proofs.Ytjeojdbfpncnkaa.Cb Go.Proofs.Ytjeojdbfpncnkaa.Cc Go.Proofs.Ytjeojdbfpncnkaa.Cp Go.Proofs.Ytjeojdbfpncnkaa.Cd Go.Proofs.Ytjeojdbfpncnkaa.Ci Go.Proofs.Ytjeojdbfpncnkaa.Ce Go.Proofs.Ytjeojdbfpncnkaa.Cf Go.Proofs.Ytjeojdbfpncnkaa.Cg Go.Proofs.Ytjeojdbfpncnkaa.Sc Go.Proofs.Ytjeojdbfpncnkaa.Se Go.Proofs.Ytjeojdbfpncnkaa.Sh Go.Proofs.Ytjeojdbfpncnkaa.Si Go.Proofs.Ytjeojdbfpncnkaa.Sp Go.Proofs.Ytjeojdbfpncnkaa.Ia Go.Proofs.Ytjeojdbfpncnkaa.Ib Go.Proofs.Ytjeojdbfpncnkaa.Ic Go.Proofs.Ytjeojdbfpncnkaa.Id Go.Proofs.Ytjeojdbfpncnkaa.Ie Go.Proofs.Ytjeojdbfpncnkaa.If Go.Proofs.Ytjeojdbfpncnkaa.Ig Go.Proofs.Ytjeojdbfpncnkaa.Ih Go.Proofs.Ytjeojdbfpncnkaa.Ij Go.Proofs.Ytjeojdbfpncnkaa.Ik Go.Proofs.Ytjeojdbfpncnkaa.Ra Go.Proofs.Ytjeojdbfpncnkaa.Rb Go.Proofs.Ytjeojdbfpncnkaa.Rc Go.Proofs.Ytjeojdbfpncnkaa.Rd Go.Proofs.Ytjeojdbfpncnkaa.Re Go.Proofs.Ytjeojdbfpncnkaa.Sj Go.Proofs.Ytjeojdbfpncnkaa.Ya Go.Proofs.Ytjeojdbfpncnkaa.Yd Go.Proofs.Ytjeojdbfpncnkaa.Yf Go.Proofs.Ytjeojdbfpncnkaa.Yg Go.Proofs.Ytjeojdbfpncnkaa.Ih Go.Proofs.Ytjeojdbfpncnkaa.Yh Go.Proofs.Ytjeojdbfpncnkaa.Yi Go.Proofs.Ytjeojdbfpncnkaa.Sg Go.Proofs.Ytjeojdbfpncnkaa.Sf Go.Proofs.Ytjeojdbfpncnkaa.Yj Go.Proofs.Ytjeojdbfpncnkaa.Ig Go.Proofs.Ytjeojdbfpncnkaa.Yk

theorem put_ge (l : List Occ) (o : Occ) : l.length ≤ (put l o).length := by
  induction l with
  | nil => simp
  | cons x l ih =>
    unfold put
    repeat' split
    all_goals simp
    all_goals try omega
theorem ss_isL {w : World} {base : Nat} {ok : Nat → Prop} {A : Option Addr} {c : Nat} {l : List Occ} (h : SS w base ok (.slice A l.length c) l) : IsL w l A c := by
  have hq := Kd.R_reads' (Kd.S_R h)
  exact ⟨hq.2.1, hq.2.2⟩
theorem fold_oth {mode : Int} (hm : mode = 0 ∨ mode = 1) : ∀ {xs : List Occ} {st : Pv.Sides}, (xs.foldl (andStepS mode) st).oth = st.oth
  | [], _ => rfl
  | x :: xs, st => by
    rw [List.foldl_cons, fold_oth hm (xs := xs)]
    show (pick mode st.oth whole).2 = st.oth
    unfold pick
    simp only
    rcases hm with rfl | rfl <;> (repeat' split) <;> first | rfl | omega
theorem fold_own0 : ∀ {xs : List Occ} {st : Pv.Sides}, st.own.length ≤ (xs.foldl (andStepS 0) st).own.length
  | [], _ => Nat.le_refl _
  | x :: xs, st => by
    rw [List.foldl_cons]
    refine Nat.le_trans ?_ (fold_own0 (xs := xs))
    show st.own.length ≤ (put st.own x).length
    exact put_ge _ _
theorem fold_own1 : ∀ {xs : List Occ} {st : Pv.Sides}, 0 < xs.length → (xs.foldl (andStepS 1) st).own.length = 1
  | [], _, h => absurd h (by simp)
  | [x], st, _ => by
    rfl
  | x :: y :: xs, st, _ => by
    rw [List.foldl_cons]
    exact fold_own1 (xs := y :: xs) (by simp)
theorem waits0 {l r a b : List Occ} (hl : AreOk l) (hr : AreOk r) (ha : AreOk a) (hb : AreOk b) : l.length ≤ (and3 0 l r a b).a.length ∧ r.length ≤ (and3 0 l r a b).b.length := by
  have e := (andI_eq (mode := 0) (by omega) hl hr ha.all hb.all).1
  unfold and3
  rw [e]
  unfold andS
  constructor
  · show l.length ≤ (b.foldl (andStepS 0) (Pv.flip (a.foldl (andStepS 0) ⟨l, r, []⟩))).oth.length
    rw [fold_oth (.inl rfl)]
    exact fold_own0 (st := ⟨l, r, []⟩) (xs := a)
  · show r.length ≤ (b.foldl (andStepS 0) (Pv.flip (a.foldl (andStepS 0) ⟨l, r, []⟩))).own.length
    refine Nat.le_trans ?_ fold_own0
    show r.length ≤ (a.foldl (andStepS 0) ⟨l, r, []⟩).oth.length
    rw [fold_oth (.inl rfl)]
    exact Nat.le_refl _
theorem waits1 {l r a b : List Occ} (hl : AreOk l) (hr : AreOk r) (ha : AreOk a) (hb : AreOk b) : (0 < a.length → (and3 1 l r a b).a.length = 1) ∧ (0 < b.length → (and3 1 l r a b).b.length = 1) ∧ (a.length = 0 → (and3 1 l r a b).a = l) := by
  have e := (andI_eq (mode := 1) (by omega) hl hr ha.all hb.all).1
  unfold and3
  rw [e]
  unfold andS
  refine ⟨fun h => ?_, fun h => ?_, fun h => ?_⟩
  · show (b.foldl (andStepS 1) (Pv.flip (a.foldl (andStepS 1) ⟨l, r, []⟩))).oth.length = 1
    rw [fold_oth (.inr rfl)]
    exact fold_own1 h
  · exact fold_own1 h
  · show (b.foldl (andStepS 1) (Pv.flip (a.foldl (andStepS 1) ⟨l, r, []⟩))).oth = l
    rw [fold_oth (.inr rfl), List.length_eq_zero_iff.1 h]
    rfl
theorem waitsN {mode : Int} {l r : List Occ} : and3 mode l r [] [] = ⟨l, r, []⟩ := rfl
theorem pairSame_any (A B C D : Option Addr) (ca cb cc cd : Nat) (l r l2 r2 : List Occ) (w : World) (hL : IsL w l A ca) (hR : IsL w r B cb) (hL2 : IsL w l2 C cc) (hR2 : IsL w r2 D cd) (e0 : l = l2) (e1 : r = r2) :
    Calls Try.prog 19 #[.agg #[.slice A l.length ca, .slice B r.length cb], .agg #[.slice C l2.length cc, .slice D r2.length cd]] w fun e w' => e = .returned (.bool true) ∧ Below w.heap.size w w' := by
  subst e0 e1
  obtain ⟨hb0, b0, b1⟩ := boxes2 w #[.slice A l.length ca, .slice B r.length cb] #[.slice C l.length cc, .slice D r.length cd] 35 35
  have h1 := occsSame_any A C ca cc l l _ (hL.below hb0).rd (hL2.below hb0).rd
  have h2 := fun (w2 : World) (h : Below w.heap.size w w2) => occsSame_any B D cb cd r r w2 (hR.below h).rd (hR2.below h).rd
  rw [decide_eq_true rfl] at h1
  rw [decide_eq_true rfl] at h2
  go_enter Try.func19, Try.ntmps19
  go_wp2_with (first
    | (go_at_call 20; refine (h2 _ HB2.out).mono ?_; rintro e w3 ⟨rfl, hb3⟩; have HB3 := Aside0.mk (below_then HB2.out HB2.out.size hb3))
    | (go_at_call 20; refine h1.mono ?_; rintro e w2 ⟨rfl, hb2⟩; have HB2 := Aside0.mk (below_then hb0 hb0.size hb2); have d0 := blk_below b0 hb2; have d1 := blk_below b1 hb2; have q1 := (blk_cell d0 1).trans rfl; have q3 := (blk_cell d1 1).trans rfl; clear hb2))
  go_ret
  exact ⟨rfl, HB3.out⟩
theorem out3_L {w w' : World} {p : P3} {e : Ending} (h : Out3 w w' p e) : Out3L w w' p e := by
  obtain ⟨v0, v1, v2, rfl, h0, h1, h2, hb⟩ := h
  obtain ⟨A0, c0, rfl⟩ := Kd.S_slice h0
  obtain ⟨A1, c1, rfl⟩ := Kd.S_slice h1
  obtain ⟨A2, c2, rfl⟩ := Kd.S_slice h2
  exact ⟨A0, c0, A1, c1, A2, c2, rfl, ss_isL h0, ss_isL h1, ss_isL h2, hb⟩
end Go.Proofs.Ytjeojdbfpncnkaa.Qa

/- FnPairWaits: the walk. -/
set_option linter.unusedVariables false
set_option linter.unusedSimpArgs false
namespace Go.Proofs.Ytjeojdbfpncnkaa.Qb
open Go.RowKit Go.Proofs.YtjeojdbfpncnkaaW.PrintWords Go.Proofs.Ytjeojdbfpncnkaa.Wd Go.Proofs.Ytjeojdbfpncnkaa.Pu Go.Proofs.Ytjeojdbfpncnkaa.Pv Go.Proofs.Ytjeojdbfpncnkaa.Ca Go.Proofs.Ytjeojdbfpncnkaa.Cb Go.Proofs.Ytjeojdbfpncnkaa.Cc Go.Proofs.Ytjeojdbfpncnkaa.Cp Go.Proofs.Ytjeojdbfpncnkaa.Cd Go.Proofs.Ytjeojdbfpncnkaa.Ci Go.Proofs.Ytjeojdbfpncnkaa.Ce Go.Proofs.Ytjeojdbfpncnkaa.Cf Go.Proofs.Ytjeojdbfpncnkaa.Cg Go.Proofs.Ytjeojdbfpncnkaa.Sc Go.Proofs.Ytjeojdbfpncnkaa.Se Go.Proofs.Ytjeojdbfpncnkaa.Sh Go.Proofs.Ytjeojdbfpncnkaa.Si Go.Proofs.Ytjeojdbfpncnkaa.Sp Go.Proofs.Ytjeojdbfpncnkaa.Ia Go.Proofs.Ytjeojdbfpncnkaa.Ib Go.Proofs.Ytjeojdbfpncnkaa.Ic Go.Proofs.Ytjeojdbfpncnkaa.Id Go.Proofs.Ytjeojdbfpncnkaa.Ie Go.Proofs.Ytjeojdbfpncnkaa.If Go.Proofs.Ytjeojdbfpncnkaa.Ig Go.Proofs.Ytjeojdbfpncnkaa.Ih Go.Proofs.Ytjeojdbfpncnkaa.Ij Go.Proofs.Ytjeojdbfpncnkaa.Ik Go.Proofs.Ytjeojdbfpncnkaa.Ra Go.Proofs.Ytjeojdbfpncnkaa.Rb Go.Proofs.Ytjeojdbfpncnkaa.Rc Go.Proofs.Ytjeojdbfpncnkaa.Rd Go.Proofs.Ytjeojdbfpncnkaa.Re Go.Proofs.Ytjeojdbfpncnkaa.Sj Go.Proofs.Ytjeojdbfpncnkaa.Ya Go.Proofs.Ytjeojdbfpncnkaa.Yd Go.Proofs.Ytjeojdbfpncnkaa.Yf Go.Proofs.Ytjeojdbfpncnkaa.Yg Go.Proofs.Ytjeojdbfpncnkaa.Ih Go.Proofs.Ytjeojdbfpncnkaa.Yh Go.Proofs.Ytjeojdbfpncnkaa.Yi Go.Proofs.Ytjeojdbfpncnkaa.Sg Go.Proofs.Ytjeojdbfpncnkaa.Sf Go.Proofs.Ytjeojdbfpncnkaa.Yj Go.Proofs.Ytjeojdbfpncnkaa.Ig Go.Proofs.Ytjeojdbfpncnkaa.Yk Go.Proofs.Ytjeojdbfpncnkaa.Qa Go.Proofs.Ytjeojdbfpncnkaa.Db

theorem no_out {mode : Int} {l r a b : List Occ} {p : P3} (hp : spec3 (fits mode l r a b) (and3 mode l r a b) = p) (hf : fits mode l r a b = false) : p.c.length = 0 := by rw [← hp, hf]; rfl
theorem out_impl (mode : Int) (A B C D : Option Addr) (ca cb cc cd : Nat) (l r a b : List Occ) (w : World) (hL : IsL w l A ca) (hR : IsL w r B cb) (hE : IsL w a C cc) (hI : IsL w b D cd) :
    Calls Try.prog 17 #[.int .i64 mode, .agg #[.slice A l.length ca, .slice B r.length cb], .slice C a.length cc, .slice D b.length cd] w fun e w' => Out3L w w' (spec3 (fits mode l r a b) (and3 mode l r a b)) e :=
  (pairAnd_any mode A B C D ca cb cc cd l r a b w hL hR hE hI).mono fun e w' h => out3_L h
set_option maxHeartbeats 20000000 in
set_option maxRecDepth 100000 in
theorem walk (A : Option Addr) (c : Nat) (bs : List Int) (w : World) (hC : (Kd.int .u8).C w A bs.length bs) (hc : bs.length ≤ c) (hb : ∀ b ∈ bs, 0 ≤ b ∧ b ≤ 255) :
    Calls Try.prog 4 #[.slice A bs.length c] w fun e w' => e = .returned (.bool true) ∧ Below w.heap.size w w' := by
  by_cases hbig : bs.length > 1048576
  · have d1 : decide ((bs.length : Int) > 1048576) = true := decide_eq_true (by omega)
    go_enter Try.func4, Try.ntmps4
    go_wp2
    go_ret
    exact ⟨rfl, Below.refl _ _⟩
  have d1 : decide ((bs.length : Int) > 1048576) = false := decide_eq_false (by omega)
  have hdraw := drawPairAnd_any A c bs w hC hc hb
  clear hC hc hb
  go_enter Try.func4, Try.ntmps4
  go_upto_region 4 with (go_at_call 16; refine hdraw.mono ?_; rintro e w1 ⟨mode, l, r, a, b, A0, A1, Xa, Xb, c0, c1, ca, cb, rfl, hl, hr, ha, hb2, hbel⟩)
  have bP := blk_new w1 (.cells #[.slice A0 l.length c0, .slice A1 r.length c1] 35)
  have hb2' := below_alloc (Below.refl w1.heap.size w1) (.cells #[.slice A0 l.length c0, .slice A1 r.length c1] 35)
  have HL := Aside0.mk (hl.below hb2')
  have HR := Aside0.mk (hr.below hb2')
  have HA := Aside0.mk (ha.below hb2')
  have HB := Aside0.mk (hb2.below hb2')
  have HBW := Aside0.mk (below_then hbel hbel.size hb2')
  generalize hW : w1.alloc (.cells #[.slice A0 l.length c0, .slice A1 r.length c1] 35) = W at bP HL HR HA HB HBW ⊢
  generalize hPe : w1.heap.size = P at bP ⊢
  clear hW hPe hb2' hl hr ha hb2 hbel hdraw
  have p0 := (blk_cell bP 0).trans rfl
  have p1 := (blk_cell bP 1).trans rfl
  have k1 := out_impl mode A0 A1 Xa Xb c0 c1 ca cb l r a b W HL.out HR.out HA.out HB.out
  have k2 := fun w2 (h : Below W.heap.size W w2) => sPairAnd_any mode A0 A1 Xa Xb c0 c1 ca cb l r a b w2 (HL.out.below h) (HR.out.below h) (HA.out.below h) (HB.out.below h)
  generalize hp : spec3 (fits mode l r a b) (and3 mode l r a b) = p at k1 k2
  have HP := Aside0.mk hp
  have HK2 := Aside0.mk k2
  clear hp k2
  go_upto_region 5 with (go_at_call 17; refine k1.mono ?_; rintro e w3 ⟨B0, d0, B1, d1', B2, d2, rfl, hx0, hx1, hx2, hb3⟩)
  have bX := blk_new w3 (.cells #[.slice B0 p.a.length d0, .slice B1 p.b.length d1'] 35)
  have hb4 := below_alloc (Below.refl w3.heap.size w3) (.cells #[.slice B0 p.a.length d0, .slice B1 p.b.length d1'] 35)
  have HX0 := Aside0.mk (hx0.below hb4)
  have HX1 := Aside0.mk (hx1.below hb4)
  have HX2 := Aside0.mk (hx2.below hb4)
  have HB4 := Aside0.mk (below_then hb3 hb3.size hb4)
  generalize hW4 : w3.alloc (.cells #[.slice B0 p.a.length d0, .slice B1 p.b.length d1'] 35) = W4 at bX HX0 HX1 HX2 HB4 ⊢
  generalize hXe : w3.heap.size = X at bX ⊢
  clear hW4 hXe hb4 hx0 hx1 hx2 hb3 k1 p0 p1
  have bP4 := blk_below bP HB4.out
  have p0 := (blk_cell bP4 0).trans rfl
  have p1 := (blk_cell bP4 1).trans rfl
  go_upto_region 6 with (go_at_call 18; refine (HK2.out _ HB4.out).mono ?_; rintro e w5 ⟨E0, e0, E1, e1, E2, e2, rfl, hy0, hy1, hy2, hb5⟩)
  have bY := blk_new w5 (.cells #[.slice E0 p.a.length e0, .slice E1 p.b.length e1] 35)
  have hb6 := below_alloc (Below.refl w5.heap.size w5) (.cells #[.slice E0 p.a.length e0, .slice E1 p.b.length e1] 35)
  have hb46 := below_then hb5 hb5.size hb6
  have HY0 := Aside0.mk (hy0.below hb6)
  have HY1 := Aside0.mk (hy1.below hb6)
  have HY2 := Aside0.mk (hy2.below hb6)
  have HB6 := Aside0.mk hb46
  generalize hW6 : w5.alloc (.cells #[.slice E0 p.a.length e0, .slice E1 p.b.length e1] 35) = W6 at bY HY0 HY1 HY2 HB6 hb46 ⊢
  generalize hYe : w5.heap.size = Y at bY ⊢
  clear hW6 hYe hb6 hy0 hy1 hy2 hb5 p0 p1 HK2
  have bX6 := blk_below bX hb46
  have bP6 := blk_below bP4 hb46
  have HBa := Aside0.mk (below_then HBW.out HBW.out.size (below_then HB4.out HB4.out.size hb46))
  have hbw6 := below_then HB4.out HB4.out.size hb46
  have HL6 := Aside0.mk (HL.out.below hbw6)
  have HR6 := Aside0.mk (HR.out.below hbw6)
  have HA6 := Aside0.mk (HA.out.below hbw6)
  have HB6' := Aside0.mk (HB.out.below hbw6)
  have HX06 := Aside0.mk (HX0.out.below hb46)
  have HX16 := Aside0.mk (HX1.out.below hb46)
  have HX26 := Aside0.mk (HX2.out.below hb46)
  clear hb46 hbw6 HL HR HA HB HX0 HX1 HX2 bX bP bP4 HB4 HBW HB6
  have x0 := (blk_cell bX6 0).trans rfl
  have x1 := (blk_cell bX6 1).trans rfl
  have y0 := (blk_cell bY 0).trans rfl
  have y1 := (blk_cell bY 1).trans rfl
  have k3 := pairSame_any B0 B1 E0 E1 d0 d1' e0 e1 p.a p.b p.a p.b W6 HX06.out HX16.out HY0.out HY1.out rfl rfl
  have k4 := fun w2 (h : Below W6.heap.size W6 w2) => occsSame_any B2 E2 d2 e2 p.c p.c w2 (HX26.out.below h).rd (HY2.out.below h).rd
  rw [decide_eq_true rfl] at k4
  have HK4 := Aside0.mk k4
  clear k4
  go_upto_region 8 with (first
    | (go_at_call 20; refine (HK4.out _ HB7.out).mono ?_; rintro e w8 ⟨rfl, hb8⟩; have HB8 := Aside0.mk (below_then HB7.out HB7.out.size hb8); clear hb8)
    | (go_at_call 19; refine k3.mono ?_; rintro e w7 ⟨rfl, hb7⟩; have HB7 := Aside0.mk hb7; clear hb7))
  clear k3 x0 x1 y0 y1 HB7 HK4 bY HY0 HY1 HY2
  have bX8 := blk_below bX6 HB8.out
  have bP8 := blk_below bP6 HB8.out
  have HBb := Aside0.mk (below_then HBa.out HBa.out.size HB8.out)
  have HL8 := Aside0.mk (HL6.out.below HB8.out)
  have HR8 := Aside0.mk (HR6.out.below HB8.out)
  have HA8 := Aside0.mk (HA6.out.below HB8.out)
  have HB8' := Aside0.mk (HB6'.out.below HB8.out)
  have HX08 := Aside0.mk (HX06.out.below HB8.out)
  have HX18 := Aside0.mk (HX16.out.below HB8.out)
  clear HL6 HR6 HA6 HB6' HX06 HX16 HX26 bX6 bP6 HBa HB8
  have p0 := (blk_cell bP8 0).trans rfl
  have p1 := (blk_cell bP8 1).trans rfl
  have x0 := (blk_cell bX8 0).trans rfl
  have x1 := (blk_cell bX8 1).trans rfl
  by_cases h0 : 0 ≤ mode
  case neg =>
    have m1 : decide (mode < 0) = true := decide_eq_true (by omega)
    have hcl : p.c.length = 0 := no_out HP.out (by unfold fits inb; rw [decide_eq_false h0]; rfl)
    generalize p.c.length = nc at hcl ⊢
    subst hcl
    go_wp2
    go_ret
    exact ⟨rfl, HBb.out⟩
  have m1 : decide (mode < 0) = false := decide_eq_false (by omega)
  by_cases h4 : mode ≤ 4
  case neg =>
    have m2 : decide (mode ≥ 5) = true := decide_eq_true (by omega)
    have hcl : p.c.length = 0 := no_out HP.out (by unfold fits inb; rw [decide_eq_false h4, Bool.and_false]; rfl)
    generalize p.c.length = nc at hcl ⊢
    subst hcl
    go_wp2
    go_ret
    exact ⟨rfl, HBb.out⟩
  have m2 : decide (mode ≥ 5) = false := decide_eq_false (by omega)
  have qi : inb mode 0 4 = true := by unfold inb; rw [decide_eq_true h0, decide_eq_true h4]; rfl
  cases q1 : (okOs l && okOs r) with
  | false =>
    have hcl : p.c.length = 0 := no_out HP.out (by unfold fits; rw [qi, q1]; rfl)
    generalize p.c.length = nc at hcl ⊢
    subst hcl
    go_wp2_with (first | (go_at_call 21; refine (sPairOk_any A0 A1 c0 c1 l r _ HL8.out HR8.out).mono ?_; rintro e w9 ⟨rfl, hb9⟩; rw [q1]; have HB9 := Aside0.mk hb9; clear hb9))
    go_ret
    exact ⟨rfl, below_then HBb.out HBb.out.size HB9.out⟩
  | true =>
    cases q2 : okOs a with
    | false =>
      have hcl : p.c.length = 0 := no_out HP.out (by unfold fits; rw [qi, q1, q2]; rfl)
      generalize p.c.length = nc at hcl ⊢
      subst hcl
      go_wp2_with (first | (go_at_call 13; refine (sOccsOk_any Xa ca a _ (HA8.out.below HB9.out).rd).mono ?_; rintro e w10 ⟨rfl, hb10⟩; rw [q2]; have HB10 := Aside0.mk (below_then HB9.out HB9.out.size hb10); clear hb10) | (go_at_call 21; refine (sPairOk_any A0 A1 c0 c1 l r _ HL8.out HR8.out).mono ?_; rintro e w9 ⟨rfl, hb9⟩; rw [q1]; have HB9 := Aside0.mk hb9; clear hb9))
      go_ret
      exact ⟨rfl, below_then HBb.out HBb.out.size HB10.out⟩
    | true =>
      cases q3 : okOs b with
      | false =>
        have hcl : p.c.length = 0 := no_out HP.out (by unfold fits; rw [qi, q1, q2, q3]; rfl)
        generalize p.c.length = nc at hcl ⊢
        subst hcl
        go_wp2_with (first | (go_at_call 13; refine (sOccsOk_any Xb cb b _ (HB8'.out.below HB10.out).rd).mono ?_; rintro e w11 ⟨rfl, hb11⟩; rw [q3]; have HB11 := Aside0.mk (below_then HB10.out HB10.out.size hb11); clear hb11) | (go_at_call 13; refine (sOccsOk_any Xa ca a _ (HA8.out.below HB9.out).rd).mono ?_; rintro e w10 ⟨rfl, hb10⟩; rw [q2]; have HB10 := Aside0.mk (below_then HB9.out HB9.out.size hb10); clear hb10) | (go_at_call 21; refine (sPairOk_any A0 A1 c0 c1 l r _ HL8.out HR8.out).mono ?_; rintro e w9 ⟨rfl, hb9⟩; rw [q1]; have HB9 := Aside0.mk hb9; clear hb9))
        go_ret
        exact ⟨rfl, below_then HBb.out HBb.out.size HB11.out⟩
      | true =>
        have HF : fits mode l r a b = true := by unfold fits; rw [qi, q1, q2, q3]; rfl
        obtain ⟨hm, ⟨hl, nl⟩, ⟨hr, nr⟩, ⟨ha, na⟩, ⟨hb, nb⟩⟩ := fits_iff.1 HF
        have HPP : Aside0 (p = and3 mode l r a b) := ⟨by rw [← HP.out, HF]; rfl⟩
        go_upto_region 10 with (first | (go_at_call 13; refine (sOccsOk_any Xb cb b _ (HB8'.out.below HB10.out).rd).mono ?_; rintro e w11 ⟨rfl, hb11⟩; rw [q3]; have HB11 := Aside0.mk (below_then HB10.out HB10.out.size hb11); clear hb11) | (go_at_call 13; refine (sOccsOk_any Xa ca a _ (HA8.out.below HB9.out).rd).mono ?_; rintro e w10 ⟨rfl, hb10⟩; rw [q2]; have HB10 := Aside0.mk (below_then HB9.out HB9.out.size hb10); clear hb10) | (go_at_call 21; refine (sPairOk_any A0 A1 c0 c1 l r _ HL8.out HR8.out).mono ?_; rintro e w9 ⟨rfl, hb9⟩; rw [q1]; have HB9 := Aside0.mk hb9; clear hb9))
        have bX := blk_below bX8 HB11.out
        have bP := blk_below bP8 HB11.out
        have HBe := Aside0.mk (below_then HBb.out HBb.out.size HB11.out)
        have HLe := Aside0.mk (HL8.out.below HB11.out)
        have HRe := Aside0.mk (HR8.out.below HB11.out)
        have HXe := Aside0.mk (HX08.out.below HB11.out)
        have HYe := Aside0.mk (HX18.out.below HB11.out)
        clear p0 p1 x0 x1 HL8 HR8 HX08 HX18 bX8 bP8 HB9 HB10 HB11 HBb q1 q2 q3 qi HA8 HB8' HF
        have p0 := (blk_cell bP 0).trans rfl
        have p1 := (blk_cell bP 1).trans rfl
        have x0 := (blk_cell bX 0).trans rfl
        have x1 := (blk_cell bX 1).trans rfl
        have hw : IntKind.i64.wrap ((a.length : Int) + b.length) = (a.length : Int) + b.length := by rw [IntKind.wrap_i64]; omega
        by_cases m : mode = 0
        · rcases Nat.eq_zero_or_pos a.length with ka | ka <;> rcases Nat.eq_zero_or_pos b.length with kb | kb
          · have hab : and3 mode l r a b = ⟨l, r, []⟩ := by rw [List.length_eq_zero_iff.1 ka, List.length_eq_zero_iff.1 kb]; exact waitsN
            have HPA : Aside0 (p.a = l) := by constructor; rw [HPP.out, hab]
            have HPB : Aside0 (p.b = r) := by constructor; rw [HPP.out, hab]
            have hpc : p.c.length = 0 := by rw [HPP.out, hab]; rfl
            have L0 : decide ((p.a.length : Int) < l.length) = false := decide_eq_false (by rw [HPP.out, m]; have := (waits0 hl hr ha hb).1; omega)
            have L0n : decide (p.a.length < l.length) = false := decide_eq_false (by rw [HPP.out, m]; have := (waits0 hl hr ha hb).1; omega)
            have L1n : decide (p.b.length < r.length) = false := decide_eq_false (by rw [HPP.out, m]; have := (waits0 hl hr ha hb).2; omega)
            have L1 : decide ((p.b.length : Int) < r.length) = false := decide_eq_false (by rw [HPP.out, m]; have := (waits0 hl hr ha hb).2; omega)
            have e0 : (mode == 0) = true := by rw [m]; rfl
            have e1 : (mode == 1) = false := by rw [beq_eq_false_iff_ne]; omega
            clear hl hr ha hb h0 h4 hm hab
            clear m
            generalize a.length = za at ka na hw ⊢
            generalize b.length = zb at kb nb hw ⊢
            subst ka
            subst kb
            generalize p.c.length = zc at hpc ⊢
            subst hpc
            go_wp2_with (first | (go_at_call 19; refine (pairSame_any B0 B1 A0 A1 d0 d1' c0 c1 p.a p.b l r _ HXe.out HYe.out HLe.out HRe.out HPA.out HPB.out).mono ?_; rintro e w13 ⟨rfl, hb13⟩; have HB13 := Aside0.mk (below_then HBe.out HBe.out.size hb13); clear hb13))
            go_ret
            exact ⟨rfl, HB13.out⟩
          · have L0 : decide ((p.a.length : Int) < l.length) = false := decide_eq_false (by rw [HPP.out, m]; have := (waits0 hl hr ha hb).1; omega)
            have L0n : decide (p.a.length < l.length) = false := decide_eq_false (by rw [HPP.out, m]; have := (waits0 hl hr ha hb).1; omega)
            have L1n : decide (p.b.length < r.length) = false := decide_eq_false (by rw [HPP.out, m]; have := (waits0 hl hr ha hb).2; omega)
            have L1 : decide ((p.b.length : Int) < r.length) = false := decide_eq_false (by rw [HPP.out, m]; have := (waits0 hl hr ha hb).2; omega)
            have e0 : (mode == 0) = true := by rw [m]; rfl
            have e1 : (mode == 1) = false := by rw [beq_eq_false_iff_ne]; omega
            clear hl hr ha hb h0 h4 hm
            clear m
            generalize a.length = za at ka na hw ⊢
            generalize b.length = zb at kb nb hw ⊢
            subst ka
            have cB1 : decide ((zb : Int) > 0) = true := decide_eq_true (by omega)
            have S1 : decide ((((0 : Nat) : Int) : Int) + zb > 0) = true := decide_eq_true (by omega)
            go_wp2
            go_ret
            exact ⟨rfl, HBe.out⟩
          · have L0 : decide ((p.a.length : Int) < l.length) = false := decide_eq_false (by rw [HPP.out, m]; have := (waits0 hl hr ha hb).1; omega)
            have L0n : decide (p.a.length < l.length) = false := decide_eq_false (by rw [HPP.out, m]; have := (waits0 hl hr ha hb).1; omega)
            have L1n : decide (p.b.length < r.length) = false := decide_eq_false (by rw [HPP.out, m]; have := (waits0 hl hr ha hb).2; omega)
            have L1 : decide ((p.b.length : Int) < r.length) = false := decide_eq_false (by rw [HPP.out, m]; have := (waits0 hl hr ha hb).2; omega)
            have e0 : (mode == 0) = true := by rw [m]; rfl
            have e1 : (mode == 1) = false := by rw [beq_eq_false_iff_ne]; omega
            clear hl hr ha hb h0 h4 hm
            clear m
            generalize a.length = za at ka na hw ⊢
            generalize b.length = zb at kb nb hw ⊢
            have cA1 : decide ((za : Int) > 0) = true := decide_eq_true (by omega)
            have cA2 : ((za : Int) == 0) = false := by rw [beq_eq_false_iff_ne]; omega
            subst kb
            have S1 : decide ((za : Int) + ((0 : Nat) : Int) > 0) = true := decide_eq_true (by omega)
            go_wp2
            go_ret
            exact ⟨rfl, HBe.out⟩
          · have L0 : decide ((p.a.length : Int) < l.length) = false := decide_eq_false (by rw [HPP.out, m]; have := (waits0 hl hr ha hb).1; omega)
            have L0n : decide (p.a.length < l.length) = false := decide_eq_false (by rw [HPP.out, m]; have := (waits0 hl hr ha hb).1; omega)
            have L1n : decide (p.b.length < r.length) = false := decide_eq_false (by rw [HPP.out, m]; have := (waits0 hl hr ha hb).2; omega)
            have L1 : decide ((p.b.length : Int) < r.length) = false := decide_eq_false (by rw [HPP.out, m]; have := (waits0 hl hr ha hb).2; omega)
            have e0 : (mode == 0) = true := by rw [m]; rfl
            have e1 : (mode == 1) = false := by rw [beq_eq_false_iff_ne]; omega
            clear hl hr ha hb h0 h4 hm
            clear m
            generalize a.length = za at ka na hw ⊢
            generalize b.length = zb at kb nb hw ⊢
            have cA1 : decide ((za : Int) > 0) = true := decide_eq_true (by omega)
            have cA2 : ((za : Int) == 0) = false := by rw [beq_eq_false_iff_ne]; omega
            have cB1 : decide ((zb : Int) > 0) = true := decide_eq_true (by omega)
            have S1 : decide ((za : Int) + zb > 0) = true := decide_eq_true (by omega)
            go_wp2
            go_ret
            exact ⟨rfl, HBe.out⟩
        have n0 := m
        clear m
        by_cases m : mode = 1
        · rcases Nat.eq_zero_or_pos a.length with ka | ka <;> rcases Nat.eq_zero_or_pos b.length with kb | kb
          · have hab : and3 mode l r a b = ⟨l, r, []⟩ := by rw [List.length_eq_zero_iff.1 ka, List.length_eq_zero_iff.1 kb]; exact waitsN
            have HPA : Aside0 (p.a = l) := by constructor; rw [HPP.out, hab]
            have HPB : Aside0 (p.b = r) := by constructor; rw [HPP.out, hab]
            have hpc : p.c.length = 0 := by rw [HPP.out, hab]; rfl
            have e0 : (mode == 0) = false := by rw [beq_eq_false_iff_ne]; omega
            have e1 : (mode == 1) = true := by rw [m]; rfl
            clear hl hr ha hb h0 h4 hm hab
            clear m
            generalize a.length = za at ka na hw ⊢
            generalize b.length = zb at kb nb hw ⊢
            subst ka
            subst kb
            generalize p.c.length = zc at hpc ⊢
            subst hpc
            go_wp2_with (first | (go_at_call 19; refine (pairSame_any B0 B1 A0 A1 d0 d1' c0 c1 p.a p.b l r _ (HXe.out.below HB12.out) (HYe.out.below HB12.out) (HLe.out.below HB12.out) (HRe.out.below HB12.out) HPA.out HPB.out).mono ?_; rintro e w13 ⟨rfl, hb13⟩; have HB13 := Aside0.mk (below_then HBf.out HBf.out.size hb13); clear hb13) | (go_at_call 20; refine (occsSame_any B0 A0 d0 c0 p.a l _ HXe.out.rd HLe.out.rd).mono ?_; rw [decide_eq_true HPA.out]; rintro e w12 ⟨rfl, hb12⟩; have HB12 := Aside0.mk hb12; have HBf := Aside0.mk (below_then HBe.out HBe.out.size hb12); have bX2 := blk_below bX hb12; have bP2 := blk_below bP hb12; have p0 := (blk_cell bP2 0).trans rfl; have p1 := (blk_cell bP2 1).trans rfl; have x0 := (blk_cell bX2 0).trans rfl; have x1 := (blk_cell bX2 1).trans rfl; clear hb12))
            go_ret
            exact ⟨rfl, HB13.out⟩
          · have HPA : Aside0 (p.a = l) := by constructor; rw [HPP.out, m]; exact (waits1 hl hr ha hb).2.2 ka
            have Y1 : p.b.length = 1 := by rw [HPP.out, m]; exact (waits1 hl hr ha hb).2.1 (by omega)
            have e0 : (mode == 0) = false := by rw [beq_eq_false_iff_ne]; omega
            have e1 : (mode == 1) = true := by rw [m]; rfl
            clear hl hr ha hb h0 h4 hm
            clear m
            generalize a.length = za at ka na hw ⊢
            generalize b.length = zb at kb nb hw ⊢
            subst ka
            have cB1 : decide ((zb : Int) > 0) = true := decide_eq_true (by omega)
            have S1 : decide ((((0 : Nat) : Int) : Int) + zb > 0) = true := decide_eq_true (by omega)
            generalize p.b.length = zy at Y1 p1 x1 bX ⊢
            subst Y1
            go_wp2_with (first | (go_at_call 20; refine (occsSame_any B0 A0 d0 c0 p.a l _ HXe.out.rd HLe.out.rd).mono ?_; rw [decide_eq_true HPA.out]; rintro e w12 ⟨rfl, hb12⟩; have HB12 := Aside0.mk hb12; have HBf := Aside0.mk (below_then HBe.out HBe.out.size hb12); have bX2 := blk_below bX hb12; have bP2 := blk_below bP hb12; have p0 := (blk_cell bP2 0).trans rfl; have p1 := (blk_cell bP2 1).trans rfl; have x0 := (blk_cell bX2 0).trans rfl; have x1 := (blk_cell bX2 1).trans rfl; clear hb12))
            go_ret
            exact ⟨rfl, HBf.out⟩
          · have X1 : p.a.length = 1 := by rw [HPP.out, m]; exact (waits1 hl hr ha hb).1 (by omega)
            have e0 : (mode == 0) = false := by rw [beq_eq_false_iff_ne]; omega
            have e1 : (mode == 1) = true := by rw [m]; rfl
            clear hl hr ha hb h0 h4 hm
            clear m
            generalize a.length = za at ka na hw ⊢
            generalize b.length = zb at kb nb hw ⊢
            have cA1 : decide ((za : Int) > 0) = true := decide_eq_true (by omega)
            have cA2 : ((za : Int) == 0) = false := by rw [beq_eq_false_iff_ne]; omega
            subst kb
            have S1 : decide ((za : Int) + ((0 : Nat) : Int) > 0) = true := decide_eq_true (by omega)
            generalize p.a.length = zx at X1 p0 x0 bX ⊢
            subst X1
            go_wp2
            go_ret
            exact ⟨rfl, HBe.out⟩
          · have X1 : p.a.length = 1 := by rw [HPP.out, m]; exact (waits1 hl hr ha hb).1 (by omega)
            have Y1 : p.b.length = 1 := by rw [HPP.out, m]; exact (waits1 hl hr ha hb).2.1 (by omega)
            have e0 : (mode == 0) = false := by rw [beq_eq_false_iff_ne]; omega
            have e1 : (mode == 1) = true := by rw [m]; rfl
            clear hl hr ha hb h0 h4 hm
            clear m
            generalize a.length = za at ka na hw ⊢
            generalize b.length = zb at kb nb hw ⊢
            have cA1 : decide ((za : Int) > 0) = true := decide_eq_true (by omega)
            have cA2 : ((za : Int) == 0) = false := by rw [beq_eq_false_iff_ne]; omega
            have cB1 : decide ((zb : Int) > 0) = true := decide_eq_true (by omega)
            have S1 : decide ((za : Int) + zb > 0) = true := decide_eq_true (by omega)
            generalize p.a.length = zx at X1 p0 x0 bX ⊢
            subst X1
            generalize p.b.length = zy at Y1 p1 x1 bX ⊢
            subst Y1
            go_wp2
            go_ret
            exact ⟨rfl, HBe.out⟩
        have n1 := m
        clear m
        rcases Nat.eq_zero_or_pos a.length with ka | ka <;> rcases Nat.eq_zero_or_pos b.length with kb | kb
        · have hab : and3 mode l r a b = ⟨l, r, []⟩ := by rw [List.length_eq_zero_iff.1 ka, List.length_eq_zero_iff.1 kb]; exact waitsN
          have HPA : Aside0 (p.a = l) := by constructor; rw [HPP.out, hab]
          have HPB : Aside0 (p.b = r) := by constructor; rw [HPP.out, hab]
          have hpc : p.c.length = 0 := by rw [HPP.out, hab]; rfl
          have e0 : (mode == 0) = false := by rw [beq_eq_false_iff_ne]; omega
          have e1 : (mode == 1) = false := by rw [beq_eq_false_iff_ne]; omega
          clear hl hr ha hb h0 h4 hm hab
          generalize a.length = za at ka na hw ⊢
          generalize b.length = zb at kb nb hw ⊢
          subst ka
          subst kb
          generalize p.c.length = zc at hpc ⊢
          subst hpc
          go_wp2_with (first | (go_at_call 19; refine (pairSame_any B0 B1 A0 A1 d0 d1' c0 c1 p.a p.b l r _ HXe.out HYe.out HLe.out HRe.out HPA.out HPB.out).mono ?_; rintro e w13 ⟨rfl, hb13⟩; have HB13 := Aside0.mk (below_then HBe.out HBe.out.size hb13); clear hb13))
          go_ret
          exact ⟨rfl, HB13.out⟩
        · have e0 : (mode == 0) = false := by rw [beq_eq_false_iff_ne]; omega
          have e1 : (mode == 1) = false := by rw [beq_eq_false_iff_ne]; omega
          clear hl hr ha hb h0 h4 hm
          generalize a.length = za at ka na hw ⊢
          generalize b.length = zb at kb nb hw ⊢
          subst ka
          have cB1 : decide ((zb : Int) > 0) = true := decide_eq_true (by omega)
          have S1 : decide ((((0 : Nat) : Int) : Int) + zb > 0) = true := decide_eq_true (by omega)
          go_wp2
          go_ret
          exact ⟨rfl, HBe.out⟩
        · have e0 : (mode == 0) = false := by rw [beq_eq_false_iff_ne]; omega
          have e1 : (mode == 1) = false := by rw [beq_eq_false_iff_ne]; omega
          clear hl hr ha hb h0 h4 hm
          generalize a.length = za at ka na hw ⊢
          generalize b.length = zb at kb nb hw ⊢
          have cA1 : decide ((za : Int) > 0) = true := decide_eq_true (by omega)
          have cA2 : ((za : Int) == 0) = false := by rw [beq_eq_false_iff_ne]; omega
          subst kb
          have S1 : decide ((za : Int) + ((0 : Nat) : Int) > 0) = true := decide_eq_true (by omega)
          go_wp2
          go_ret
          exact ⟨rfl, HBe.out⟩
        · have e0 : (mode == 0) = false := by rw [beq_eq_false_iff_ne]; omega
          have e1 : (mode == 1) = false := by rw [beq_eq_false_iff_ne]; omega
          clear hl hr ha hb h0 h4 hm
          generalize a.length = za at ka na hw ⊢
          generalize b.length = zb at kb nb hw ⊢
          have cA1 : decide ((za : Int) > 0) = true := decide_eq_true (by omega)
          have cA2 : ((za : Int) == 0) = false := by rw [beq_eq_false_iff_ne]; omega
          have cB1 : decide ((zb : Int) > 0) = true := decide_eq_true (by omega)
          have S1 : decide ((za : Int) + zb > 0) = true := decide_eq_true (by omega)
          go_wp2
          go_ret
          exact ⟨rfl, HBe.out⟩
end Go.Proofs.Ytjeojdbfpncnkaa.Qb

/- Pending occurrences are kept as the context demands: what the pair and what is found are those of the reference; in the mode All nothing waiting is lost, in the mode Last one waits where something was found; with nothing found nothing changes. Conditions: none beyond those of the given statement. -/
namespace Go.Proofs.Ytjeojdbfpncnkaa.fnPairWaits
open Go.Proofs.YtjeojdbfpncnkaaW.PrintWords Go.Proofs.Ytjeojdbfpncnkaa.Wd
open Go.ChangeShapes Go.WideShapes Go.ChangeAt Go.RowKit
set_option linter.unusedVariables false
theorem own : ownKnob Try.prog.godebug = none := by kernel_rfl
theorem laidOut : laidOutB Try.prog = true := by kernel_rfl
theorem u8 {n : Int} (h : (Lit.int .u8 n).wf = true) : 0 ≤ n ∧ n ≤ 255 := by
  unfold Lit.wf at h
  simp only [Bool.and_eq_true, decide_eq_true_eq] at h
  exact h
set_option maxRecDepth 100000 in
theorem lifted (os : Os) (started : os.Started) (H : Type) (enc : TypeId × Value → H) :
    ReturnsInHanded {} Try.checked os 4 .any (Rows.fnPairWaitsSpec.pre6 enc Try.prog Try.f4 Rows.fnPairWaitsRow.domain false) (Rows.fnPairWaitsSpec.post enc Try.prog Try.f4 false true false false) := by
  refine returnsInHanded_of_change_sized (C := Try.checked) own started (by kernel_rfl) Try.func4
    (ChangeSpec.witness6 (enc := enc) (C := Try.checked) false ⟨#[], #[.slice none 0 0], []⟩ 8 (by kernel_rfl) (by kernel_rfl) (by kernel_rfl) (by kernel_rfl)) ?_
  intro W base args ds gs before hval0 hW hcnd hsz0 _
  have hW' := hW
  obtain ⟨p, q, hA0, hV, rfl, hfz, hnd⟩ := hW
  have hA : DataW.TrodAll enc Try.prog W 0 (fun _ => true) true Try.f4.params.toList args.toList ds p := hA0
  rw [Try.params4] at hA
  obtain ⟨v0, vs0, d0, ds0, p0, q0, hargs, rfl, rfl, h0, r0⟩ := trodAll_cons hA
  obtain ⟨rfl, rfl, rfl⟩ := trodAll_nil r0
  obtain rfl : args = #[v0] := by cases args; simp_all
  obtain ⟨rfl, rfl⟩ := trodVars_none hV
  have k0 := h0
  have lt0 : ∀ x ∈ p0, x.block < W.heap.size := by obtain ⟨m, hm⟩ := k0; exact DataW.trod_lt m _ _ _ hm
  obtain ⟨fuel, hf⟩ := h0
  obtain ⟨z0, ⟨A, c, hcs, hlc, hC⟩, hok⟩ := opn_slice (enc := enc) (P := Try.prog) (w := W) (base := 0) (spare := fun _ => true) (held := true) (e := 5) (e0 := 5) (d := Kd.int .u8) Try.underlying22 (by kernel_rfl) (opn_int Try.underlying5) _ _ _ hf
  have hval : ∀ (j : Nat) t v, Try.f4.params[j]? = some t → #[v0][j]? = some v → Value.okWide Try.prog W .any base t v := hval0
  obtain ⟨a0, len0, cap0, rfl⟩ := okWide_slice Try.underlying22 (hval 0 22 v0 (by rw [Try.params4]; rfl) rfl)
  simp [Value.cells] at hcs
  obtain ⟨rfl, rfl, rfl⟩ := hcs
  clear hA0 hval0 hsz0
  refine (Qb.walk a0 cap0 z0 W hC hlc (fun b hb => u8 (hok b hb))).mono fun e W' ⟨he, bel⟩ => ?_
  subst he
  exact ⟨_, rfl, _, _, _, [], _, [], hW', trodAll_mk1 (shut_bool Try.underlying4 _), (trodAll_cons_mk (Below.trod laidOut (by kernel_rfl) (of_decide_eq_true (by kernel_rfl)) k0 bel lt0) trodAll_mk0), rfl, bel.frame _, fun h => by cases h⟩
theorem over : Rows.fnPairWaitsRow.holds Try.pinned (OpenSpec.ofChange Rows.fnPairWaitsSpec) :=
  OpenClaim.holds_of_wide 4 Try.f4 rfl rfl rfl rfl rfl rfl rfl ⟨rfl, rfl, rfl, rfl, rfl⟩ rfl rfl rfl rfl rfl (by kernel_rfl) Try.func4 (by kernel_rfl)
    (of_decide_eq_true (by kernel_rfl)) (by unfold Func.isWrapper; first | (rw [if_pos (by decide +kernel)]; kernel_rfl) | (rw [if_neg (by decide +kernel)]; exact ⟨rfl, rfl⟩))
    (fun os started H enc _ => lifted os started H enc)
theorem proved : Rows.FnPairWaitsSaid := over
#print axioms proved
end Go.Proofs.Ytjeojdbfpncnkaa.fnPairWaits
namespace Go.Proofs.Ytjeojdbfpncnkaa
/-- The row, under a short name, for the claim. -/
theorem fnPairWaits_holds : Rows.FnPairWaitsSaid := fnPairWaits.proved
end Go.Proofs.Ytjeojdbfpncnkaa
