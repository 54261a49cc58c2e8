/- OccsSame, OccsPut, OccJoin: the program's. -/
import Derived.Test.YtjeojdbfpncnkaaCf
set_option linter.unusedVariables false
set_option linter.unusedSimpArgs false
namespace Go.Proofs.Ytjeojdbfpncnkaa.Cg
open Go.RowKit Go.Proofs.YtjeojdbfpncnkaaW.PrintWords Go.Proofs.Ytjeojdbfpncnkaa.Wd Go.Proofs.Ytjeojdbfpncnkaa.Pu Go.Proofs.Ytjeojdbfpncnkaa.Ca Go.Proofs.Ytjeojdbfpncnkaa.Cb Go.Proofs.Ytjeojdbfpncnkaa.Cc Go.Proofs.Ytjeojdbfpncnkaa.Cp Go.Proofs.Ytjeojdbfpncnkaa.Cd Go.Proofs.Ytjeojdbfpncnkaa.Ci Go.Proofs.Ytjeojdbfpncnkaa.Ce Go.Proofs.Ytjeojdbfpncnkaa.Cf


theorem same1_any (x y : Occ) (A B : Option Addr) (c c2 : Nat) (w : World) (hx : IsO w x A c) (hy : IsO w y B c2) :
    Calls Try.prog 52 #[.agg #[.int .i64 x.f0, .int .i64 x.f1, .slice A x.f2.length c], .agg #[.int .i64 y.f0, .int .i64 y.f1, .slice B y.f2.length c2]] w fun e w' => e = .returned (.bool (decide (cmpO x y = 0))) ∧ Below w.heap.size w w' := by
  have hb : Below w.heap.size w ((w.alloc (.cells #[.int .i64 x.f0, .int .i64 x.f1, .slice A x.f2.length c] 25)).alloc (.cells #[.int .i64 y.f0, .int .i64 y.f1, .slice B y.f2.length c2] 25)) := by repeat (first | exact Below.refl _ _ | apply below_alloc)
  have hcl := compare_any x y A B c c2 _ (hx.below hb) (hy.below hb)
  go_enter Try.func52, Try.ntmps52
  go_wp2_with (go_at_call 53; refine hcl.mono ?_; rintro e w2 ⟨rfl, h2⟩; have HB := Aside0.mk (below_then hb hb.size h2))
  go_ret
  exact ⟨ret_bool (by rw [Bool.eq_iff_iff]; simp), HB.out⟩

def sameFrom (k : Nat) (a b : List Occ) : Bool := decide (a.drop k = b.drop k)

set_option maxRecDepth 100000 in
theorem equalF_any (A B : Option Addr) (c c2 : Nat) (a b : List Occ) (w : World) (ha : kO.C w A a.length a) (hb : kO.C w B b.length b) :
    Calls Try.prog 51 #[.slice A a.length c, .slice B b.length c2, .func (.func 52) #[] #[]] w fun e w' => e = .returned (.bool (decide (a = b))) ∧ Below w.heap.size w w' := by
  have hna := (C_len ha).2
  by_cases hl : a.length = b.length
  · have hl2 : ((a.length : Int) == (b.length : Int)) = true := by simp; omega
    have hl3 : decide ((a.length : Int) = b.length) = true := by simp; omega
    have hl4 : (a.length : Int) = b.length := by omega
    have HL := Aside0.mk hl
    clear hl
    go_enter Try.func51, Try.ntmps51
    go_wp2
    go_loopw [17] (fun vi wr => ∃ (k : Nat), k ≤ a.length ∧ vi = .int .i64 k ∧ Aside0 (a.take k = b.take k) ∧ Aside0 (Below w.heap.size w wr)) (fun vi _ => a.length - (intOf vi).toNat)
    case atStart => exact ⟨0, by omega, rfl, ⟨rfl⟩, ⟨Below.refl _ _⟩⟩
    case round =>
      obtain ⟨k, hk, rfl, HT, HB⟩ := hrel
      by_cases hlt : k < a.length
      · have hlt2 : k < b.length := by have := HL.out; omega
        obtain ⟨ad, A2, c3, rfl, pa, pb, pc, hl2, hC2⟩ := atO (Kd.C_below ha HB.out) k hlt
        obtain ⟨bd, B2, c4, rfl, qa, qb, qc, hm2, hD2⟩ := atO (Kd.C_below hb HB.out) k hlt2
        have hx : IsO wr (a.getD k zO) A2 c3 := ⟨hl2, hC2⟩
        have hy : IsO wr (b.getD k zO) B2 c4 := ⟨hm2, hD2⟩
        have HE := Aside0.mk (And.intro (take_succ_getD a k zO hlt) (take_succ_getD b k zO hlt2))
        have HF := Aside0.mk (And.intro (drop_at a zO k hlt) (drop_at b zO k hlt2))
        clear hl2 hC2 hm2 hD2
        generalize a.getD k zO = x at pa pb pc hx HE HF
        generalize b.getD k zO = y at qa qb qc hy HE HF
        have h3 := hlt2
        have qa2 := pw_cell_below (box3 wr (.int .i64 x.f0) (.int .i64 x.f1) (.slice A2 x.f2.length c3) 25).1 qa
        have qb2 := pw_cell_below (box3 wr (.int .i64 x.f0) (.int .i64 x.f1) (.slice A2 x.f2.length c3) 25).1 qb
        have qc2 := pw_cell_below (box3 wr (.int .i64 x.f0) (.int .i64 x.f1) (.slice A2 x.f2.length c3) 25).1 qc
        have hbw : Below wr.heap.size wr ((wr.alloc (.cells #[.int .i64 x.f0, .int .i64 x.f1, .slice A2 x.f2.length c3] 25)).alloc (.cells #[.int .i64 y.f0, .int .i64 y.f1, .slice B2 y.f2.length c4] 25)) := by repeat (first | exact Below.refl _ _ | apply below_alloc)
        have hcl := same1_any x y A2 B2 c3 c4 _ (hx.below hbw) (hy.below hbw)
        cases hd : decide (cmpO x y = 0) with
        | true =>
          rw [hd] at hcl
          have HX := Aside0.mk ((cmpO_eq x y).1 (of_decide_eq_true hd))
          clear hd
          go_wp2_with (go_at_call 52; refine hcl.mono ?_; rintro e w2 ⟨rfl, h2⟩; have HB2 := Aside0.mk (below_then HB.out HB.out.size (below_then hbw hbw.size h2)))
          go_roundw
          case rel => exact ⟨k + 1, by omega, by go_num, ⟨by rw [HE.out.1, HE.out.2, HT.out, HX.out]⟩, HB2⟩
          case measure => simp [intOf]; omega
        | false =>
          rw [hd] at hcl
          have HX := Aside0.mk (show ¬ a = b from fun e => of_decide_eq_false hd ((cmpO_eq x y).2 (by
            have h1 := HF.out.1; have h2 := HF.out.2; rw [e, h2] at h1; exact (List.cons.inj h1).1.symm)))
          clear hd
          go_wp2_with (go_at_call 52; refine hcl.mono ?_; rintro e w2 ⟨rfl, h2⟩; have HB2 := Aside0.mk (below_then HB.out HB.out.size (below_then hbw hbw.size h2)))
          go_ret
          exact ⟨ret_bool (decide_eq_false HX.out).symm, HB2.out⟩
      · have HX := Aside0.mk (show a = b by
          have h1 := HT.out
          rwa [List.take_of_length_le (by omega), List.take_of_length_le (by have := HL.out; omega)] at h1)
        go_wp2
        go_ret
        exact ⟨ret_bool (decide_eq_true HX.out).symm, HB.out⟩
  · have hl2 : ((a.length : Int) == (b.length : Int)) = false := by simp; omega
    have hl3 : decide ((a.length : Int) = b.length) = false := by simp; omega
    have hl4 : ¬ ((a.length : Int) = b.length) := by omega
    have HN := Aside0.mk (show ¬ a = b from fun e => hl (by rw [e]))
    clear hl
    go_enter Try.func51, Try.ntmps51
    go_wp2
    go_ret
    exact ⟨ret_bool (decide_eq_false HN.out).symm, Below.refl _ _⟩

theorem occsSame_any (A B : Option Addr) (c c2 : Nat) (a b : List Occ) (w : World) (ha : kO.C w A a.length a) (hb : kO.C w B b.length b) :
    Calls Try.prog 20 #[.slice A a.length c, .slice B b.length c2] w fun e w' => e = .returned (.bool (decide (a = b))) ∧ Below w.heap.size w w' := by
  have hcl := equalF_any A B c c2 a b w ha hb
  go_enter Try.func20, Try.ntmps20
  go_wp2_with (go_at_call 51; refine hcl.mono ?_; rintro e w2 ⟨rfl, h2⟩; have HB := Aside0.mk h2)
  go_ret
  exact ⟨rfl, HB.out⟩

theorem boxes3 (w : World) (cs0 cs1 cs2 : Array Value) (t0 t1 t2 : TypeId) :
    Below w.heap.size w (((w.alloc (.cells cs0 t0)).alloc (.cells cs1 t1)).alloc (.cells cs2 t2)) ∧
    (((w.alloc (.cells cs0 t0)).alloc (.cells cs1 t1)).alloc (.cells cs2 t2)).heap[w.heap.size]? = some (.cells cs0 t0 (0, 0)) ∧
    (((w.alloc (.cells cs0 t0)).alloc (.cells cs1 t1)).alloc (.cells cs2 t2)).heap[w.heap.size + 1]? = some (.cells cs1 t1 (0, 0)) ∧
    (((w.alloc (.cells cs0 t0)).alloc (.cells cs1 t1)).alloc (.cells cs2 t2)).heap[w.heap.size + 1 + 1]? = some (.cells cs2 t2 (0, 0)) := by
  refine ⟨by repeat (first | exact Below.refl _ _ | apply below_alloc), blk_alloc (blk_alloc (blk_new _ _) _) _, blk_alloc ?_ _, ?_⟩
  · have := blk_new (w.alloc (.cells cs0 t0)) (.cells cs1 t1)
    simpa using this
  · have := blk_new ((w.alloc (.cells cs0 t0)).alloc (.cells cs1 t1)) (.cells cs2 t2)
    simpa using this
def set3 (w : World) (G : Nat) (u0 u1 u2 : Value) : World := ((w.setCell ⟨G, 0, none⟩ u0).setCell ⟨G, 1, none⟩ u1).setCell ⟨G, 2, none⟩ u2
theorem set3_blk {w : World} {G : Nat} {t : TypeId} {z0 z1 z2 : Value} (u0 u1 u2 : Value) (b : w.heap[G]? = some (.cells #[z0, z1, z2] t (0, 0))) : (set3 w G u0 u1 u2).heap[G]? = some (.cells #[u0, u1, u2] t (0, 0)) :=
  blk_put (cs := #[u0, u1, z2]) (blk_put (cs := #[u0, z1, z2]) (blk_put b 0 _ rfl) 1 _ rfl) 2 _ rfl
theorem set3_below {w0 w : World} {B G : Nat} (h : Below B w0 w) (hG : B ≤ G) (u0 u1 u2 : Value) : Below B w0 (set3 w G u0 u1 u2) := ((h.setCell (p := ⟨G, 0, none⟩) hG _).setCell (p := ⟨G, 1, none⟩) hG _).setCell (p := ⟨G, 2, none⟩) hG _
theorem set3_R {α : Type} {d : Kd α} {e : Nat} {w : World} {base G : Nat} {ok : Nat → Prop} {v : Value} {xs : List α} {t : TypeId} {cs : Array Value} (h : d.R e w base ok v xs) (b : w.heap[G]? = some (.cells cs t (0, 0))) (ht : ∀ q, q ∈ e :: d.E → q ≠ t) (u0 u1 u2 : Value) :
    d.R e (set3 w G u0 u1 u2) base ok v xs := Kd.R_set (Kd.R_set (Kd.R_set h b ht 0 u0) (blk_set b 0 u0) ht 1 u1) (blk_set (blk_set b 0 u0) 1 u1) ht 2 u2
def joinO (x y : Occ) : Occ := if okO x && okO y then join x y else zO

set_option maxHeartbeats 1000000 in
set_option maxRecDepth 100000 in
theorem occJoin_any (x y : Occ) (A B : Option Addr) (c c2 : Nat) (w : World) (hx : IsO w x A c) (hy : IsO w y B c2) (lx : x.f2.length ≤ 1048576) (ly : y.f2.length ≤ 1048576) :
    Calls Try.prog 14 #[.agg #[.int .i64 x.f0, .int .i64 x.f1, .slice A x.f2.length c], .agg #[.int .i64 y.f0, .int .i64 y.f1, .slice B y.f2.length c2]] w fun e w' =>
      ∃ v, e = .returned (.agg #[.int .i64 (joinO x y).f0, .int .i64 (joinO x y).f1, v]) ∧ (Kd.int .i64).R 3 w' w.heap.size (fun _ => True) v (joinO x y).f2 ∧ Below w.heap.size w w' := by
  obtain ⟨hb, b0, b1, b2⟩ := boxes3 w #[.int .i64 x.f0, .int .i64 x.f1, .slice A x.f2.length c] #[.int .i64 y.f0, .int .i64 y.f1, .slice B y.f2.length c2] #[.int .i64 0, .int .i64 0, .slice none 0 0] 25 25 25
  have hcx := occOk_any x A c _ (hx.below hb)
  cases hqx : okO x with
  | false =>
    have HE := Aside0.mk (show joinO x y = zO by unfold joinO; rw [hqx]; rfl)
    rw [hqx] at hcx
    clear hqx
    go_enter Try.func14, Try.ntmps14
    go_wp2_with (go_at_call 10; refine hcx.mono ?_; rintro e w2 ⟨rfl, h2⟩; have d2 := blk_below b2 h2; have q0 := (blk_cell d2 0).trans rfl; have q1 := (blk_cell d2 1).trans rfl; have q2 := (blk_cell d2 2).trans rfl; have g0 := blk_frozen d2 0; have g1 := blk_frozen d2 1; have g2 := blk_frozen d2 2; have HB := Aside0.mk (below_then hb hb.size h2); clear h2)
    refine bodyPost_ret (results_cell_row rfl _ _ (w.heap.size + 1 + 1) 25 #[.int .i64 0, .int .i64 0, .slice none 0 0] (0, 0) _ rfl (set3_blk _ _ _ d2) Try.underlying25 rfl (by kernel_rfl)) rfl ?_
    exact ⟨_, by rw [HE.out]; rfl, by rw [HE.out]; exact Kd.R_nil _ _ _ _ _, set3_below HB.out (by omega) _ _ _⟩
  | true =>
    rw [hqx] at hcx
    have hcy := fun (w2 : World) (h : Below w.heap.size w w2) => occOk_any y B c2 w2 (hy.below h)
    cases hqy : okO y with
    | false =>
      have HE := Aside0.mk (show joinO x y = zO by unfold joinO; rw [hqx, hqy]; rfl)
      rw [hqy] at hcy
      clear hqy hqx
      go_enter Try.func14, Try.ntmps14
      go_wp2_with (first
        | (go_at_call 10; refine (hcy _ HB.out).mono ?_; rintro e w3 ⟨rfl, h3⟩; have d3 := blk_below d2 h3; have q0 := (blk_cell d3 0).trans rfl; have q1 := (blk_cell d3 1).trans rfl; have q2 := (blk_cell d3 2).trans rfl; have g0 := blk_frozen d3 0; have g1 := blk_frozen d3 1; have g2 := blk_frozen d3 2; have HB3 := Aside0.mk (below_then HB.out HB.out.size h3); clear h3)
        | (go_at_call 10; refine hcx.mono ?_; rintro e w2 ⟨rfl, h2⟩; have e1 := blk_below b1 h2; have p0 := (blk_cell e1 0).trans rfl; have p1 := (blk_cell e1 1).trans rfl; have p2 := (blk_cell e1 2).trans rfl; have d2 := blk_below b2 h2; have HB := Aside0.mk (below_then hb hb.size h2); clear h2))
      refine bodyPost_ret (results_cell_row rfl _ _ (w.heap.size + 1 + 1) 25 #[.int .i64 0, .int .i64 0, .slice none 0 0] (0, 0) _ rfl (set3_blk _ _ _ d3) Try.underlying25 rfl (by kernel_rfl)) rfl ?_
      exact ⟨_, by rw [HE.out]; rfl, by rw [HE.out]; exact Kd.R_nil _ _ _ _ _, set3_below HB3.out (by omega) _ _ _⟩
    | true =>
      have HE := Aside0.mk (show joinO x y = join x y by unfold joinO; rw [hqx, hqy]; rfl)
      have HX := Aside0.mk (okO_iff.1 hqx)
      have HY := Aside0.mk (okO_iff.1 hqy)
      rw [hqy] at hcy
      clear hqy hqx
      go_enter Try.func14, Try.ntmps14
      go_wp2_with (first
        | (go_at_call 40; refine (join_any x y A B c c2 _ (hx.below HB3.out) (hy.below HB3.out) HX.out.asc HY.out.asc lx ly).mono ?_; rintro e w4 ⟨v4, rfl, ho4, h4⟩; obtain ⟨A4, c4, rfl⟩ := Kd.R_slice ho4; have d4 := blk_below d3 h4; have q0 := (blk_cell d4 0).trans rfl; have q1 := (blk_cell d4 1).trans rfl; have q2 := (blk_cell d4 2).trans rfl; have g0 := blk_frozen d4 0; have g1 := blk_frozen d4 1; have g2 := blk_frozen d4 2; have HB4 := Aside0.mk (below_then HB3.out HB3.out.size h4); have HO := Aside0.mk (Kd.R_lower ho4 HB3.out.size); clear h4 ho4)
        | (go_at_call 10; refine (hcy _ HB.out).mono ?_; rintro e w3 ⟨rfl, h3⟩; have f0 := blk_below e0 h3; have f1 := blk_below e1 h3; have p0 := (blk_cell f0 0).trans rfl; have p1 := (blk_cell f0 1).trans rfl; have p2 := (blk_cell f0 2).trans rfl; have r0 := (blk_cell f1 0).trans rfl; have r1 := (blk_cell f1 1).trans rfl; have r2 := (blk_cell f1 2).trans rfl; have d3 := blk_below d2 h3; have HB3 := Aside0.mk (below_then HB.out HB.out.size h3); clear h3)
        | (go_at_call 10; refine hcx.mono ?_; rintro e w2 ⟨rfl, h2⟩; have e0 := blk_below b0 h2; have e1 := blk_below b1 h2; have p0 := (blk_cell e1 0).trans rfl; have p1 := (blk_cell e1 1).trans rfl; have p2 := (blk_cell e1 2).trans rfl; have d2 := blk_below b2 h2; have HB := Aside0.mk (below_then hb hb.size h2); clear h2))
      refine bodyPost_ret (results_cell_row rfl _ _ (w.heap.size + 1 + 1) 25 #[.int .i64 (join x y).f0, .int .i64 (join x y).f1, .slice A4 (join x y).f2.length c4] (0, 0) _ rfl (set3_blk _ _ _ d4) Try.underlying25 rfl (by kernel_rfl)) rfl ?_
      exact ⟨_, by rw [HE.out], by rw [HE.out]; exact set3_R HO.out d4 (by decide) _ _ _, set3_below HB4.out (by omega) _ _ _⟩

def putO (l : List Occ) (o : Occ) : List Occ := if okOs l && okO o then put l o else []
theorem box1 (w : World) (u0 u1 u2 : Value) (t : TypeId) : (w.alloc (.cells #[u0, u1, u2] t)).heap[w.heap.size]? = some (.cells #[u0, u1, u2] t (0, 0)) := blk_new _ _

set_option maxHeartbeats 1000000 in
set_option maxRecDepth 100000 in
theorem occsPut_any (A B : Option Addr) (c c2 : Nat) (l : List Occ) (o : Occ) (w : World) (hl : IsL w l A c) (ho : IsO w o B c2) (ll : l.length ≤ 1048575) (lo : o.f2.length ≤ 1048576) (li : ∀ x ∈ l, x.f2.length ≤ 1048576) :
    Calls Try.prog 15 #[.slice A l.length c, .agg #[.int .i64 o.f0, .int .i64 o.f1, .slice B o.f2.length c2]] w fun e w' =>
      ∃ v, e = .returned v ∧ Kd.S kO 25 w' w.heap.size (fun _ => True) v (putO l o) ∧ Below w.heap.size w w' := by
  obtain ⟨hb, k0, k1, k2⟩ := box3 w (.int .i64 o.f0) (.int .i64 o.f1) (.slice B o.f2.length c2) 25
  have hcl := occsOk_any A c l _ (hl.below hb).rd
  cases hql : okOs l with
  | false =>
    have HE := Aside0.mk (show putO l o = [] by unfold putO; rw [hql]; rfl)
    rw [hql] at hcl
    clear hql
    go_enter Try.func15, Try.ntmps15
    go_wp2_with (go_at_call 12; refine hcl.mono ?_; rintro e w2 ⟨rfl, h2⟩; have HB := Aside0.mk (below_then hb hb.size h2); clear h2)
    go_ret
    exact ⟨_, rfl, by rw [HE.out]; exact Kd.S_nil _ _ _ _ _, HB.out⟩
  | true =>
    have HL := Aside0.mk (okOs_iff.1 hql).1
    have hco := fun (w2 : World) (h : Below w.heap.size w w2) => occOk_any o B c2 w2 (ho.below h)
    cases hqo : okO o with
    | false =>
      have HE := Aside0.mk (show putO l o = [] by unfold putO; rw [hql, hqo]; rfl)
      rw [hql] at hcl
      rw [hqo] at hco
      clear hql hqo
      go_enter Try.func15, Try.ntmps15
      go_wp2_with (first
        | (go_at_call 10; refine (hco _ HB.out).mono ?_; rintro e w3 ⟨rfl, h3⟩; have HB3 := Aside0.mk (below_then HB.out HB.out.size h3); clear h3)
        | (go_at_call 12; refine hcl.mono ?_; rintro e w2 ⟨rfl, h2⟩; have p0 := pw_cell_below h2 k0; have p1 := pw_cell_below h2 k1; have p2 := pw_cell_below h2 k2; have HB := Aside0.mk (below_then hb hb.size h2); clear h2))
      go_ret
      exact ⟨_, rfl, by rw [HE.out]; exact Kd.S_nil _ _ _ _ _, HB3.out⟩
    | true =>
      have HE := Aside0.mk (show putO l o = put l o by unfold putO; rw [hql, hqo]; rfl)
      have hlp := len_put l o
      have hli : ∀ x ∈ put l o, x.f2.length ≤ 1048576 := fun x hx => by
        rcases (mem_put o x l).1 hx with rfl | h
        · exact lo
        · exact li x h
      rw [hql] at hcl
      rw [hqo] at hco
      clear hql hqo
      go_enter Try.func15, Try.ntmps15
      go_wp2_with (first
        | (go_at_call 41; refine (cloneOccs_any A4 c4 (put l o) _ (by omega) hli HL4.out).mono ?_; rintro e w5 ⟨v5, rfl, hs5, h5⟩; have HS5 := Aside0.mk (Kd.S_lower hs5 HB4.out.size); have HB5 := Aside0.mk (below_then HB4.out HB4.out.size h5); clear hs5 h5)
        | (go_at_call 42; refine (put_any A B c c2 l o _ HL.out.sorted (by omega) hl.cap (hl.below HB3.out).rd (ho.below HB3.out)).mono ?_; rintro e w4 ⟨A4, c4, rfl, hc4, hr4, h4⟩; have HL4 := Aside0.mk (IsL.mk hc4 hr4); have HB4 := Aside0.mk (below_then HB3.out HB3.out.size h4); clear hc4 hr4 h4)
        | (go_at_call 10; refine (hco _ HB.out).mono ?_; rintro e w3 ⟨rfl, h3⟩; have p0 := pw_cell_below h3 q0; have p1 := pw_cell_below h3 q1; have p2 := pw_cell_below h3 q2; have HB3 := Aside0.mk (below_then HB.out HB.out.size h3); clear h3)
        | (go_at_call 12; refine hcl.mono ?_; rintro e w2 ⟨rfl, h2⟩; have q0 := pw_cell_below h2 k0; have q1 := pw_cell_below h2 k1; have q2 := pw_cell_below h2 k2; have HB := Aside0.mk (below_then hb hb.size h2); clear h2))
      go_ret
      exact ⟨_, rfl, by rw [HE.out]; exact HS5.out, HB5.out⟩
end Go.Proofs.Ytjeojdbfpncnkaa.Cg
