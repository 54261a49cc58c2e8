
import Derived.Test.YtccenpmaooailaaGreatLB1
import Derived.Test.YtccenpmaooailaaGreatLB0
import Derived.Deep.RegionHeld3
/- Lists without some, lists of those that hold: the program's. -/
set_option linter.unusedVariables false
set_option linter.unusedSimpArgs false
namespace Go.Proofs.YtccenpmaooailaaGreat.Ia
open Go.RowKit Go.Proofs.YtccenpmaooailaaGreatW.PrintWords Go.Proofs.YtccenpmaooailaaGreat.Wd Go.Proofs.YtccenpmaooailaaGreat.Pu Go.Proofs.YtccenpmaooailaaGreat.Pv Go.Proofs.YtccenpmaooailaaGreat.Ca Go.Proofs.YtccenpmaooailaaGreat.Cp Go.Proofs.YtccenpmaooailaaGreat.Cd Go.Proofs.YtccenpmaooailaaGreat.Ci Go.Proofs.YtccenpmaooailaaGreat.Ce Go.Proofs.YtccenpmaooailaaGreat.Cf

/-- a list of one's own whose occurrences came in by w -/
abbrev Fx (w wr : World) (v : Value) (l : List Occ) : Prop := (Kd.fixed kO w).R 43 wr w.heap.size (fun _ => True) v l
theorem Fx.isL {w wr : World} {A : Option Addr} {n c : Nat} {l : List Occ} (h : Fx w wr (.slice A n c) l) (hb : Below w.heap.size w wr) : n = l.length ∧ IsL wr l A c := by
  have hq := Kd.R_reads' h
  refine ⟨hq.1, ⟨by have := hq.2.1; omega, C_fixed hq.2.2 hb⟩⟩
theorem Fx.nil (w wr : World) : Fx w wr (.slice none 0 0) [] := Kd.R_nil _ _ _ _ _
theorem filter_snoc (p : Occ → Bool) (l : List Occ) (o : Occ) : (l ++ [o]).filter p = if p o then l.filter p ++ [o] else l.filter p := by
  rw [List.filter_append]
  cases h : p o <;> simp [h]
theorem hit_mem {l : List Occ} {o : Occ} {p : Nat} (hs : Sorted l) (h : At l o p) : hit l o p = decide (o ∈ l) := by
  cases hh : hit l o p with
  | true =>
    unfold hit at hh
    simp only [Bool.and_eq_true, decide_eq_true_eq] at hh
    have e := (cmpO_eq _ _).1 hh.2
    rw [eq_comm, decide_eq_true_eq, ← e]
    exact getD_mem hh.1
  | false =>
    rw [eq_comm, decide_eq_false_iff_not]
    intro hm
    obtain ⟨j, hj, e⟩ := List.mem_iff_getElem.1 hm
    have e2 : l.getD j zO = o := by rw [List.getD_eq_getElem?_getD, List.getElem?_eq_getElem hj]; exact e
    by_cases h1 : j < p
    · have := h.lo j h1
      rw [e2] at this
      exact lt_irrefl _ this
    · by_cases h2 : j = p
      · have hc : hit l o p = true := by unfold hit; rw [← h2, e2, cmpO_refl]; simp; omega
        rw [hc] at hh; cases hh
      · have h3 := sorted_getD hs (i := p) (j := j) (by omega) hj
        rw [e2] at h3
        exact h.hi p (Nat.le_refl _) (by omega) h3

set_option maxHeartbeats 1000000 in
set_option maxRecDepth 100000 in
theorem without_any (A B : Option Addr) (c c2 : Nat) (l m : List Occ) (w : World) (hs : Sorted m) (hm : m.length ≤ 1048576) (hl : l.length ≤ 1048576) (hL : IsL w l A c) (hM : IsL w m B c2) :
    Calls Tryz.prog 85 #[.slice A l.length c, .slice B m.length c2] w fun e w' =>
      ∃ A' c', e = .returned (.slice A' (without l m).length c') ∧ IsL w' (without l m) A' c' ∧ Below w.heap.size w w' := by
  go_enter Tryz.func85, Tryz.ntmps85
  go_wp2
  go_loopw [5, 12] (fun v5 vi wr => ∃ (k : Nat) (v : Value), k ≤ l.length ∧ vi = .int .i64 k ∧ v = v5 ∧ Aside0 (Fx w wr v (without (l.take k) m)) ∧ Aside0 (Below w.heap.size w wr)) (fun _ vi _ => l.length - (intOf vi).toNat)
  case atStart => exact ⟨0, _, Nat.zero_le _, rfl, rfl, ⟨by simpa [without] using Fx.nil w w⟩, ⟨Below.refl _ _⟩⟩
  case round =>
    obtain ⟨k, v, hk, rfl, rfl, HF, HB⟩ := hrel
    by_cases hlt : k < l.length
    · obtain ⟨ad, A2, c3, rfl, ha, hb, hc, hl2, hC2⟩ := atO (hL.below HB.out).rd k hlt
      obtain ⟨ad0, A20, c30, e0, ha0, hb0, hc0, hl20, hC20⟩ := atO hL.rd k hlt
      cases e0
      have hsame : A20 = A2 ∧ c30 = c3 := by have := pw_cell_below HB.out hc0; rw [hc] at this; injection this with this; injection this with h1 h2 h3; exact ⟨h1.symm, h3.symm⟩
      obtain ⟨rfl, rfl⟩ := hsame
      have hT := take_succ_getD l k zO hlt
      have hIs : IsO wr (l.getD k zO) A20 c30 := ⟨hl2, hC2⟩
      have hIw : IsO w (l.getD k zO) A20 c30 := ⟨hl20, hC20⟩
      have hln : (without (l.take k) m).length ≤ k := by unfold without; exact Nat.le_trans (List.length_filter_le _ _) (by rw [List.length_take]; omega)
      clear hl2 hC2 hl20 hC20 ha0 hb0 hc0
      generalize l.getD k zO = o at ha hb hc hIs hIw hT
      have HT := Aside0.mk (show without (l.take (k + 1)) m = if (!decide (o ∈ m)) then without (l.take k) m ++ [o] else without (l.take k) m by rw [hT]; exact filter_snoc _ _ _)
      clear hT
      have hbx := (box3 wr (.int .i64 o.f0) (.int .i64 o.f1) (.slice A20 o.f2.length c30) 43).1
      have hown : ∀ j, v.ownBlock = some j → j < wr.heap.size := Kd.R_lt HF.out
      go_wp2_with (first
        | (go_at_call 103; refine (bs_any B A20 c2 c30 m o _ hs hm (hM.below (below_then HB.out HB.out.size hbx)).rd (hIs.below hbx)).mono ?_; rintro e w1 ⟨p, hAt, rfl, hb1⟩; rw [hit_mem hs hAt]; have HB1 := Aside0.mk (below_then hbx hbx.size hb1); have q0 := pw_cell_below hb1 (box3 wr (.int .i64 o.f0) (.int .i64 o.f1) (.slice A20 o.f2.length c30) 43).2.1; have q1 := pw_cell_below hb1 (box3 wr (.int .i64 o.f0) (.int .i64 o.f1) (.slice A20 o.f2.length c30) 43).2.2.1; have q2 := pw_cell_below hb1 (box3 wr (.int .i64 o.f0) (.int .i64 o.f1) (.slice A20 o.f2.length c30) 43).2.2.2; clear hb1 hAt; cases hd : decide (o ∈ m))
        | ((with_reducible refine gate_dst (N := 27) rfl ?_); refine Kd.R_append (Kd.fixed kO w) (w0 := w) w.heap.size rfl _ _ 23 43 (.agg #[.int .i64 0, .int .i64 0, .slice none 0 0]) 40 rfl Tryz.underlying23 infoO rfl (szO w) (by decide) v (without (l.take k) m) o [.int .i64 o.f0, .int .i64 o.f1, .slice A20 o.f2.length c30] (fun _ => True) (fun _ => False) rfl rfl (kO_mk w o hIw.1 hIw.2) (fun _ h => h.elim) (fun _ _ => trivial) (Kd.R_below HF.out HB1.out) (below_then HB.out HB.out.size HB1.out) (Nat.le_trans HB.out.size HB1.out.size) (by omega) ?_; intro v3 w3 hs3 hb3 _ _; have HS3 := Aside0.mk hs3; have HB3 := Aside0.mk hb3; clear hs3 hb3))
      · go_roundw
        case rel => exact ⟨k + 1, _, by omega, by go_num, rfl, ⟨by rw [HT.out, hd]; exact HS3.out⟩, HB3⟩
        case measure => simp [intOf]; omega
      · go_roundw
        case rel => exact ⟨k + 1, _, by omega, by go_num, rfl, ⟨by rw [HT.out, hd]; exact Kd.R_below HF.out HB1.out⟩, ⟨below_then HB.out HB.out.size HB1.out⟩⟩
        case measure => simp [intOf]; omega
    · have hke : k = l.length := by omega
      subst hke
      have HL := HF.out
      rw [List.take_length] at HL
      obtain ⟨A9, c9, rfl⟩ := Kd.R_slice HL
      have HX := Aside0.mk (Fx.isL HL HB.out)
      clear HL
      go_wp2
      go_ret
      exact ⟨A9, c9, rfl, HX.out.2, HB.out⟩
end Go.Proofs.YtccenpmaooailaaGreat.Ia

/- Lists of those that hold: the program's. -/
set_option linter.unusedVariables false
set_option linter.unusedSimpArgs false
namespace Go.Proofs.YtccenpmaooailaaGreat.Ib
open Go.RowKit Go.Proofs.YtccenpmaooailaaGreatW.PrintWords Go.Proofs.YtccenpmaooailaaGreat.Wd Go.Proofs.YtccenpmaooailaaGreat.Pu Go.Proofs.YtccenpmaooailaaGreat.Pv Go.Proofs.YtccenpmaooailaaGreat.Ca Go.Proofs.YtccenpmaooailaaGreat.Cp Go.Proofs.YtccenpmaooailaaGreat.Cd Go.Proofs.YtccenpmaooailaaGreat.Ci Go.Proofs.YtccenpmaooailaaGreat.Ce Go.Proofs.YtccenpmaooailaaGreat.Cf Go.Proofs.YtccenpmaooailaaGreat.Ia

/-- over before a time -/
def bef (f : Int) : Occ → Bool := fun s => decide (s.f1 < f)
def isAt (t : Int) : Occ → Bool := fun s => decide (s.f1 = t)

set_option maxRecDepth 100000 in
theorem bef1_any (x : Occ) (A : Option Addr) (c O : Nat) (t : Int) (w : World) (hO : w.cell? ⟨O, 0, none⟩ = some (.int .i64 t)) :
    Calls Tryz.prog 111 #[.agg #[.int .i64 x.f0, .int .i64 x.f1, .slice A x.f2.length c], .pointer (some ⟨O, 0, none⟩)] w fun e w' => e = .returned (.bool (bef t x)) ∧ Below w.heap.size w w' := by
  have hb := (box3 w (.int .i64 x.f0) (.int .i64 x.f1) (.slice A x.f2.length c) 43).1
  have h1 := pw_cell_below hb hO
  go_enter Tryz.func111, Tryz.ntmps111
  go_wp2
  go_ret
  exact ⟨ret_bool (by rfl), hb⟩

set_option maxHeartbeats 1000000 in
set_option maxRecDepth 100000 in
theorem bef_any (A : Option Addr) (c O : Nat) (t : Int) (l : List Occ) (w : World) (hl : l.length ≤ 1048576) (hL : IsL w l A c) (hO : w.cell? ⟨O, 0, none⟩ = some (.int .i64 t)) :
    Calls Tryz.prog 110 #[.slice A l.length c, .func (.func 111) #[] #[.pointer (some ⟨O, 0, none⟩)]] w fun e w' =>
      ∃ A' c', e = .returned (.slice A' (l.filter (bef t)).length c') ∧ IsL w' (l.filter (bef t)) A' c' ∧ Below w.heap.size w w' := by
  go_enter Tryz.func110, Tryz.ntmps110
  go_wp2
  go_loopw [5, 10] (fun v5 vi wr => ∃ (k : Nat) (v : Value), k ≤ l.length ∧ vi = .int .i64 k ∧ v = v5 ∧ Aside0 (Fx w wr v ((l.take k).filter (bef t))) ∧ Aside0 (Below w.heap.size w wr)) (fun _ vi _ => l.length - (intOf vi).toNat)
  case atStart => exact ⟨0, _, Nat.zero_le _, rfl, rfl, ⟨by simpa using Fx.nil w w⟩, ⟨Below.refl _ _⟩⟩
  case round =>
    obtain ⟨k, v, hk, rfl, rfl, HF, HB⟩ := hrel
    by_cases hlt : k < l.length
    · obtain ⟨ad, A2, c3, rfl, ha, hb, hc, hl2, hC2⟩ := atO (hL.below HB.out).rd k hlt
      obtain ⟨ad0, A20, c30, e0, ha0, hb0, hc0, hl20, hC20⟩ := atO hL.rd k hlt
      cases e0
      have hsame : A20 = A2 ∧ c30 = c3 := by have := pw_cell_below HB.out hc0; rw [hc] at this; injection this with this; injection this with h1 h2 h3; exact ⟨h1.symm, h3.symm⟩
      obtain ⟨rfl, rfl⟩ := hsame
      have hT := take_succ_getD l k zO hlt
      have hIw : IsO w (l.getD k zO) A20 c30 := ⟨hl20, hC20⟩
      have hln : ((l.take k).filter (bef t)).length ≤ k := Nat.le_trans (List.length_filter_le _ _) (by rw [List.length_take]; omega)
      clear hl2 hC2 hl20 hC20 ha0 hb0 hc0
      generalize l.getD k zO = o at ha hb hc hIw hT
      have HT := Aside0.mk (show (l.take (k + 1)).filter (bef t) = if bef t o then (l.take k).filter (bef t) ++ [o] else (l.take k).filter (bef t) by rw [hT]; exact filter_snoc _ _ _)
      clear hT
      have hbx := (box3 wr (.int .i64 o.f0) (.int .i64 o.f1) (.slice A20 o.f2.length c30) 43).1
      have hO2 := pw_cell_below (below_then HB.out HB.out.size hbx) hO
      go_wp2_with (first
        | (go_at_call 111; refine (bef1_any o A20 c30 O t _ hO2).mono ?_; rintro e w1 ⟨rfl, hb1⟩; have HB1 := Aside0.mk (below_then hbx hbx.size hb1); have q0 := pw_cell_below hb1 (box3 wr (.int .i64 o.f0) (.int .i64 o.f1) (.slice A20 o.f2.length c30) 43).2.1; have q1 := pw_cell_below hb1 (box3 wr (.int .i64 o.f0) (.int .i64 o.f1) (.slice A20 o.f2.length c30) 43).2.2.1; have q2 := pw_cell_below hb1 (box3 wr (.int .i64 o.f0) (.int .i64 o.f1) (.slice A20 o.f2.length c30) 43).2.2.2; clear hb1; cases hd : bef t o)
        | ((with_reducible refine gate_dst (N := 20) rfl ?_); refine Kd.R_append (Kd.fixed kO w) (w0 := w) w.heap.size rfl _ _ 23 43 (.agg #[.int .i64 0, .int .i64 0, .slice none 0 0]) 40 rfl Tryz.underlying23 infoO rfl (szO w) (by decide) v ((l.take k).filter (bef t)) o [.int .i64 o.f0, .int .i64 o.f1, .slice A20 o.f2.length c30] (fun _ => True) (fun _ => False) rfl rfl (kO_mk w o hIw.1 hIw.2) (fun _ h => h.elim) (fun _ _ => trivial) (Kd.R_below HF.out HB1.out) (below_then HB.out HB.out.size HB1.out) (Nat.le_trans HB.out.size HB1.out.size) (by omega) ?_; intro v3 w3 hs3 hb3 _ _; have HS3 := Aside0.mk hs3; have HB3 := Aside0.mk hb3; clear hs3 hb3))
      · go_roundw
        case rel => exact ⟨k + 1, _, by omega, by go_num, rfl, ⟨by rw [HT.out, hd]; exact Kd.R_below HF.out HB1.out⟩, ⟨below_then HB.out HB.out.size HB1.out⟩⟩
        case measure => simp [intOf]; omega
      · go_roundw
        case rel => exact ⟨k + 1, _, by omega, by go_num, rfl, ⟨by rw [HT.out, hd]; exact HS3.out⟩, HB3⟩
        case measure => simp [intOf]; omega
    · have hke : k = l.length := by omega
      subst hke
      have HL := HF.out
      rw [List.take_length] at HL
      obtain ⟨A9, c9, rfl⟩ := Kd.R_slice HL
      have HX := Aside0.mk (Fx.isL HL HB.out)
      clear HL
      go_wp2
      go_ret
      exact ⟨A9, c9, rfl, HX.out.2, HB.out⟩

set_option maxRecDepth 100000 in
theorem isAt1_any (x : Occ) (A : Option Addr) (c O : Nat) (t : Int) (w : World) (hO : w.cell? ⟨O, 0, none⟩ = some (.int .i64 t)) :
    Calls Tryz.prog 122 #[.agg #[.int .i64 x.f0, .int .i64 x.f1, .slice A x.f2.length c], .pointer (some ⟨O, 0, none⟩)] w fun e w' => e = .returned (.bool (isAt t x)) ∧ Below w.heap.size w w' := by
  have hb := (box3 w (.int .i64 x.f0) (.int .i64 x.f1) (.slice A x.f2.length c) 43).1
  have h1 := pw_cell_below hb hO
  go_enter Tryz.func122, Tryz.ntmps122
  go_wp2
  go_ret
  exact ⟨ret_bool (by unfold isAt; rw [Bool.eq_iff_iff]; simp), hb⟩

set_option maxHeartbeats 1000000 in
set_option maxRecDepth 100000 in
theorem isAt_any (A : Option Addr) (c O : Nat) (t : Int) (l : List Occ) (w : World) (hl : l.length ≤ 1048576) (hL : IsL w l A c) (hO : w.cell? ⟨O, 0, none⟩ = some (.int .i64 t)) :
    Calls Tryz.prog 110 #[.slice A l.length c, .func (.func 122) #[] #[.pointer (some ⟨O, 0, none⟩)]] w fun e w' =>
      ∃ A' c', e = .returned (.slice A' (l.filter (isAt t)).length c') ∧ IsL w' (l.filter (isAt t)) A' c' ∧ Below w.heap.size w w' := by
  go_enter Tryz.func110, Tryz.ntmps110
  go_wp2
  go_loopw [5, 10] (fun v5 vi wr => ∃ (k : Nat) (v : Value), k ≤ l.length ∧ vi = .int .i64 k ∧ v = v5 ∧ Aside0 (Fx w wr v ((l.take k).filter (isAt t))) ∧ Aside0 (Below w.heap.size w wr)) (fun _ vi _ => l.length - (intOf vi).toNat)
  case atStart => exact ⟨0, _, Nat.zero_le _, rfl, rfl, ⟨by simpa using Fx.nil w w⟩, ⟨Below.refl _ _⟩⟩
  case round =>
    obtain ⟨k, v, hk, rfl, rfl, HF, HB⟩ := hrel
    by_cases hlt : k < l.length
    · obtain ⟨ad, A2, c3, rfl, ha, hb, hc, hl2, hC2⟩ := atO (hL.below HB.out).rd k hlt
      obtain ⟨ad0, A20, c30, e0, ha0, hb0, hc0, hl20, hC20⟩ := atO hL.rd k hlt
      cases e0
      have hsame : A20 = A2 ∧ c30 = c3 := by have := pw_cell_below HB.out hc0; rw [hc] at this; injection this with this; injection this with h1 h2 h3; exact ⟨h1.symm, h3.symm⟩
      obtain ⟨rfl, rfl⟩ := hsame
      have hT := take_succ_getD l k zO hlt
      have hIw : IsO w (l.getD k zO) A20 c30 := ⟨hl20, hC20⟩
      have hln : ((l.take k).filter (isAt t)).length ≤ k := Nat.le_trans (List.length_filter_le _ _) (by rw [List.length_take]; omega)
      clear hl2 hC2 hl20 hC20 ha0 hb0 hc0
      generalize l.getD k zO = o at ha hb hc hIw hT
      have HT := Aside0.mk (show (l.take (k + 1)).filter (isAt t) = if isAt t o then (l.take k).filter (isAt t) ++ [o] else (l.take k).filter (isAt t) by rw [hT]; exact filter_snoc _ _ _)
      clear hT
      have hbx := (box3 wr (.int .i64 o.f0) (.int .i64 o.f1) (.slice A20 o.f2.length c30) 43).1
      have hO2 := pw_cell_below (below_then HB.out HB.out.size hbx) hO
      go_wp2_with (first
        | (go_at_call 122; refine (isAt1_any o A20 c30 O t _ hO2).mono ?_; rintro e w1 ⟨rfl, hb1⟩; have HB1 := Aside0.mk (below_then hbx hbx.size hb1); have q0 := pw_cell_below hb1 (box3 wr (.int .i64 o.f0) (.int .i64 o.f1) (.slice A20 o.f2.length c30) 43).2.1; have q1 := pw_cell_below hb1 (box3 wr (.int .i64 o.f0) (.int .i64 o.f1) (.slice A20 o.f2.length c30) 43).2.2.1; have q2 := pw_cell_below hb1 (box3 wr (.int .i64 o.f0) (.int .i64 o.f1) (.slice A20 o.f2.length c30) 43).2.2.2; clear hb1; cases hd : isAt t o)
        | ((with_reducible refine gate_dst (N := 20) rfl ?_); refine Kd.R_append (Kd.fixed kO w) (w0 := w) w.heap.size rfl _ _ 23 43 (.agg #[.int .i64 0, .int .i64 0, .slice none 0 0]) 40 rfl Tryz.underlying23 infoO rfl (szO w) (by decide) v ((l.take k).filter (isAt t)) o [.int .i64 o.f0, .int .i64 o.f1, .slice A20 o.f2.length c30] (fun _ => True) (fun _ => False) rfl rfl (kO_mk w o hIw.1 hIw.2) (fun _ h => h.elim) (fun _ _ => trivial) (Kd.R_below HF.out HB1.out) (below_then HB.out HB.out.size HB1.out) (Nat.le_trans HB.out.size HB1.out.size) (by omega) ?_; intro v3 w3 hs3 hb3 _ _; have HS3 := Aside0.mk hs3; have HB3 := Aside0.mk hb3; clear hs3 hb3))
      · go_roundw
        case rel => exact ⟨k + 1, _, by omega, by go_num, rfl, ⟨by rw [HT.out, hd]; exact Kd.R_below HF.out HB1.out⟩, ⟨below_then HB.out HB.out.size HB1.out⟩⟩
        case measure => simp [intOf]; omega
      · go_roundw
        case rel => exact ⟨k + 1, _, by omega, by go_num, rfl, ⟨by rw [HT.out, hd]; exact HS3.out⟩, HB3⟩
        case measure => simp [intOf]; omega
    · have hke : k = l.length := by omega
      subst hke
      have HL := HF.out
      rw [List.take_length] at HL
      obtain ⟨A9, c9, rfl⟩ := Kd.R_slice HL
      have HX := Aside0.mk (Fx.isL HL HB.out)
      clear HL
      go_wp2
      go_ret
      exact ⟨A9, c9, rfl, HX.out.2, HB.out⟩
end Go.Proofs.YtccenpmaooailaaGreat.Ib

/- One and those that wait: the program's. -/
set_option linter.unusedVariables false
set_option linter.unusedSimpArgs false
namespace Go.Proofs.YtccenpmaooailaaGreat.Ic
open Go.RowKit Go.Proofs.YtccenpmaooailaaGreatW.PrintWords Go.Proofs.YtccenpmaooailaaGreat.Wd Go.Proofs.YtccenpmaooailaaGreat.Pu Go.Proofs.YtccenpmaooailaaGreat.Pv Go.Proofs.YtccenpmaooailaaGreat.Ca Go.Proofs.YtccenpmaooailaaGreat.Cc Go.Proofs.YtccenpmaooailaaGreat.Cp Go.Proofs.YtccenpmaooailaaGreat.Cd Go.Proofs.YtccenpmaooailaaGreat.Ci Go.Proofs.YtccenpmaooailaaGreat.Ce Go.Proofs.YtccenpmaooailaaGreat.Cf Go.Proofs.YtccenpmaooailaaGreat.Cg Go.Proofs.YtccenpmaooailaaGreat.Ia Go.Proofs.YtccenpmaooailaaGreat.Ib

theorem okIds_len : ∀ {l : List Int} {last : Int}, last ≤ 23 → okIds last l = true → (l.length : Int) ≤ 23 - last
  | [], _, h, _ => by simp; omega
  | z :: l, last, h, hk => by
    simp only [okIds, inb, Bool.and_eq_true, decide_eq_true_eq] at hk
    have := okIds_len hk.1.2 hk.2
    simp only [List.length_cons]
    omega
theorem isOk_24 {o : Occ} (h : IsOk o) : o.f2.length ≤ 24 := by
  have h2 := okO_iff.2 h
  unfold okO at h2
  simp only [Bool.and_eq_true] at h2
  have := okIds_len (by omega) h2.1
  omega
theorem isOk_big {o : Occ} (h : IsOk o) : o.f2.length ≤ 1048576 := by have := isOk_24 h; omega
theorem add0 (ad : Addr) : ad.add 0 = ad := by cases ad; unfold Addr.add; split <;> simp_all
theorem one_L {w : World} {B : Nat} {t : TypeId} {o : Occ} {A : Option Addr} {c : Nat} (hB : w.heap[B]? = some (.cells #[.int .i64 o.f0, .int .i64 o.f1, .slice A o.f2.length c] t (0, 0))) (ho : IsO w o A c) : IsL w [o] (some ⟨B, 0, none⟩) 1 := by
  refine ⟨by simp, ⟨rfl, by simp, fun _ => ⟨_, rfl, fun j q hj => ?_⟩⟩⟩
  obtain ⟨rfl, rfl⟩ : j = 0 ∧ q = o := by
    rcases j with _ | j
    · exact ⟨rfl, by simpa using hj.symm⟩
    · simp at hj
  refine ⟨_, rfl, kO_mk w q ho.1 ho.2, fun i u hi => ?_⟩
  rw [add_plain, Nat.zero_mul, Nat.zero_add, blk_cell hB i]
  simpa using hi
theorem take_any (ad : Addr) (n c m : Nat) (hm : m ≤ c) (W : World) : (Instr.slice 23 (.slice (some ad) n c) none (some (.int .i64 (m : Int))) none).run Tryz.prog W = .ok (.slice (some ad) m c) W := by
  have hel : Tryz.prog.elem 23 = 43 := by simp [Program.elem, Tryz.underlying23]
  have hu : Tryz.prog.underlying 23 = some (.slice (Tryz.prog.elem 23)) := by rw [hel]; exact Tryz.underlying23
  obtain ⟨i, hi, hi2⟩ := Option.map_eq_some_iff.1 sizeO
  rw [run_slice_h W _ (some ad) n c hu .i64 (m : Int) (Int.natCast_nonneg _) (by omega), hel]
  simp [sizeOf, typeInfo, hi, hi2, sliced, Result.andThen, add0]
theorem IsL.take {w : World} {l : List Occ} {ad : Addr} {c m : Nat} (h : IsL w l (some ad) c) (hm : m ≤ l.length) : IsL w (l.take m) (some ad) c := by
  refine ⟨by rw [List.length_take]; have := h.cap; omega, ⟨rfl, by rw [List.length_take]; have := h.rd.2.1; omega, fun h0 => ?_⟩⟩
  obtain ⟨ad', e, hc⟩ := h.rd.2.2 (by rw [List.length_take] at h0; omega)
  exact ⟨ad', e, fun j q hj => hc j q (by rw [List.getElem?_take] at hj; split at hj; exact hj; cases hj)⟩
theorem IsL.nil (w : World) : IsL w [] none 0 := ⟨Nat.le_refl _, ⟨rfl, by decide, fun h => by simp at h⟩⟩

def CombOut (w w' : World) (mode : Int) (o : Occ) (l : List Occ) (e : Ending) : Prop :=
  ∃ A1 c1 A2 c2, e = .returned (.tuple #[.slice A1 (combine mode o l).1.length c1, .slice A2 (combine mode o l).2.length c2]) ∧ IsL w' (combine mode o l).1 A1 c1 ∧ IsL w' (combine mode o l).2 A2 c2 ∧ Below w.heap.size w w'
theorem combOut {w w' : World} {mode : Int} {o : Occ} {l r1 r2 : List Occ} {A1 A2 : Option Addr} {n1 n2 c1 c2 : Nat} (h : combine mode o l = (r1, r2)) (h1 : n1 = r1.length) (h2 : n2 = r2.length) (h3 : IsL w' r1 A1 c1) (h4 : IsL w' r2 A2 c2) (hb : Below w.heap.size w w') :
    CombOut w w' mode o l (.returned (.tuple #[.slice A1 n1 c1, .slice A2 n2 c2])) := by
  subst h1 h2
  exact ⟨A1, c1, A2, c2, by rw [h], by rw [h]; exact h3, by rw [h]; exact h4, hb⟩

set_option maxHeartbeats 2000000 in
set_option maxRecDepth 100000 in
theorem combine_any (mode : Int) (hm : 0 ≤ mode ∧ mode ≤ 4) (o : Occ) (B : Option Addr) (cb : Nat) (A : Option Addr) (c : Nat) (l : List Occ) (w : World) (ho : IsO w o B cb) (hok : IsOk o) (hls : ∀ x ∈ l, IsOk x) (hl : l.length ≤ 1048576) (hL : IsL w l A c) :
    Calls Tryz.prog 83 #[.int .i64 mode, .agg #[.int .i64 o.f0, .int .i64 o.f1, .slice B o.f2.length cb], .slice A l.length c] w fun e w' => CombOut w w' mode o l e := by
  have hbx := box3 w (.int .i64 o.f0) (.int .i64 o.f1) (.slice B o.f2.length cb) 43
  have bx : (w.alloc (.cells #[.int .i64 o.f0, .int .i64 o.f1, .slice B o.f2.length cb] 43)).heap[w.heap.size]? = some (.cells #[.int .i64 o.f0, .int .i64 o.f1, .slice B o.f2.length cb] 43 (0, 0)) := blk_new _ _
  by_cases h0 : l.length = 0
  · obtain rfl : l = [] := List.eq_nil_of_length_eq_zero h0
    have HP := Aside0.mk (show CombOut w (w.alloc (.cells #[.int .i64 o.f0, .int .i64 o.f1, .slice B o.f2.length cb] 43)) mode o [] (.returned (.tuple #[.slice none 0 0, .slice none 0 0])) from combOut (r1 := []) (r2 := []) rfl rfl rfl (IsL.nil _) (IsL.nil _) hbx.1)
    go_enter Tryz.func83, Tryz.ntmps83
    go_wp2
    go_ret2
    exact HP.out
  have hlz : ((l.length : Int) == 0) = false := by rw [beq_eq_false_iff_ne]; omega
  have hlz2 : ¬ ((l.length : Int) = 0) := by omega
  have hpos : 0 < l.length := by omega
  obtain ⟨ad, A2, c2, rfl, qa, qb, qc, ql, qC⟩ := atO hL.rd 0 hpos
  have HL := Aside0.mk hL
  have HO := Aside0.mk ho
  have HK := Aside0.mk hok
  have HS := Aside0.mk hls
  obtain rfl | rfl | rfl | hm03 : mode = 1 ∨ mode = 2 ∨ mode = 4 ∨ (mode = 0 ∨ mode = 3) := by omega
  · -- the last one
    obtain ⟨ad', A3, c3, e3, pa, pb, pc, pl, pC⟩ := atO hL.rd (l.length - 1) (by omega)
    cases e3
    obtain ⟨n, hn⟩ : ∃ n, l.length = n + 1 := ⟨l.length - 1, by omega⟩
    have hIy : IsO w (l.getD (l.length - 1) zO) A3 c3 := ⟨pl, pC⟩
    have hy := hls _ (getD_mem (l := l) (i := l.length - 1) (by omega))
    have HE := Aside0.mk (show combine 1 o l = ([join o (l.getD (l.length - 1) zO)], []) by unfold combine; rw [if_neg h0]; simp)
    generalize l.getD (l.length - 1) zO = y at pa pb pc hIy hy HE
    have HY := Aside0.mk hy
    have HN := Aside0.mk hn
    rw [hn] at pa pb pc
    rw [Nat.add_sub_cancel] at pa pb pc
    have i0 : (0 : Int) ≤ (n : Int) := by omega
    have i1 : (n : Int) < n + 1 := by omega
    have i2 : n < n + 1 := by omega
    have w1' : IntKind.i64.wrap (n : Int) = n := by rw [IntKind.wrap_i64]; omega
    have w2' : IntKind.i64.wrap ((n : Int) + 1 - 1) = n := by rw [IntKind.wrap_i64]; have := hn; omega
    have w3' : IntKind.i64.wrap ((n : Int) + 1) = (n : Int) + 1 := by rw [IntKind.wrap_i64]; omega
    rw [hn] at hlz hlz2
    rw [hn]
    clear hn pl pC ql qC qa qb qc hy hls hok ho hL h0 hpos
    go_enter Tryz.func83, Tryz.ntmps83
    go_wp2
    generalize w.alloc (.cells #[.int .i64 o.f0, .int .i64 o.f1, .slice B o.f2.length cb] 43) = W at hbx bx ⊢
    have HIy := Aside0.mk (hIy.below hbx.1)
    have HIo := Aside0.mk (HO.out.below hbx.1)
    have HBW := Aside0.mk hbx.1
    have F : ∀ w', Below W.heap.size W w' → w'.cell? ⟨w.heap.size, 0, none⟩ = some (.int .i64 o.f0) ∧ w'.cell? ⟨w.heap.size, 1, none⟩ = some (.int .i64 o.f1) ∧ w'.cell? ⟨w.heap.size, 2, none⟩ = some (.slice B o.f2.length cb) ∧ w'.cell? (ad.add (n * 3)) = some (.int .i64 y.f0) ∧ w'.cell? ⟨(ad.add (n * 3)).block, (ad.add (n * 3)).off + 1, none⟩ = some (.int .i64 y.f1) ∧ w'.cell? ⟨(ad.add (n * 3)).block, (ad.add (n * 3)).off + 2, none⟩ = some (.slice A3 y.f2.length c3) :=
      fun w' h => ⟨pw_cell_below h hbx.2.1, pw_cell_below h hbx.2.2.1, pw_cell_below h hbx.2.2.2, pw_cell_below (below_then hbx.1 hbx.1.size h) pa, pw_cell_below (below_then hbx.1 hbx.1.size h) pb, pw_cell_below (below_then hbx.1 hbx.1.size h) pc⟩
    clear pa pb pc hbx bx hIy
    go_region_held3 (fun w' => w'.cell? ⟨w.heap.size, 0, none⟩ = some (.int .i64 o.f0) ∧ w'.cell? ⟨w.heap.size, 1, none⟩ = some (.int .i64 o.f1) ∧ w'.cell? ⟨w.heap.size, 2, none⟩ = some (.slice B o.f2.length cb) ∧ w'.cell? (ad.add (n * 3)) = some (.int .i64 y.f0) ∧ w'.cell? ⟨(ad.add (n * 3)).block, (ad.add (n * 3)).off + 1, none⟩ = some (.int .i64 y.f1) ∧ w'.cell? ⟨(ad.add (n * 3)).block, (ad.add (n * 3)).off + 2, none⟩ = some (.slice A3 y.f2.length c3))
      (first | (with_reducible exact F _ (Below.refl _ _)) | (with_reducible exact F _ (below_drew (Below.refl _ _))) | (with_reducible exact F _ HJ) | (with_reducible exact F _ (below_alloc HJ _)))
      (first
        | (go_at_call 66; refine (join_any o y B A3 cb c3 _ (HIo.out.below (below_drew (Below.refl _ _))) (HIy.out.below (below_drew (Below.refl _ _))) HK.out.asc HY.out.asc (isOk_big HK.out) (isOk_big HY.out)).mono ?_; rintro e wj ⟨vj, rfl, hj, hbj⟩; obtain ⟨Aj, cj, rfl⟩ := Kd.R_slice hj; have HJ : Below W.heap.size W wj := keepD hbj; have hjq := Kd.R_reads' hj; have HIj : Aside0 (IsO wj (join o y) Aj cj) := ⟨⟨hjq.2.1, hjq.2.2⟩⟩; clear hj hjq hbj))
    have HP := Aside0.mk (show CombOut w _ 1 o l (.returned (.tuple #[.slice (some ⟨wj.heap.size, 0, none⟩) 1 1, .slice none 0 0])) from combOut (w' := wj.alloc (.cells #[.int .i64 (join o y).f0, .int .i64 (join o y).f1, .slice Aj (join o y).f2.length cj] 43)) HE.out rfl rfl (one_L (blk_new _ _) (HIj.out.below (below_alloc (Below.refl _ _) _))) (IsL.nil _) (below_then HBW.out HBW.out.size (below_alloc HJ _)))
    go_wp2
    go_ret2
    exact HP.out
  · -- the first one
    have hIy : IsO w (l.getD 0 zO) A2 c2 := ⟨ql, qC⟩
    have hy := hls _ (getD_mem (l := l) (i := 0) hpos)
    have HE := Aside0.mk (show combine 2 o l = ([join o (l.getD 0 zO)], l.take 1) by unfold combine; rw [if_neg h0]; simp)
    have hTL := IsL.take hL (m := 1) hpos
    generalize l.getD 0 zO = y at qa qb qc hIy hy HE
    have HY := Aside0.mk hy
    have HTL := Aside0.mk hTL
    have htl : (l.take 1).length = 1 := by rw [List.length_take]; omega
    rw [Nat.zero_mul, add0] at qa qb qc
    have htk : ∀ W, (Instr.slice 23 (.slice (some ad) l.length c) none (some (.int .i64 1)) none).run Tryz.prog W = .ok (.slice (some ad) 1 c) W := fun W => take_any ad l.length c 1 (by have := hL.cap; omega) W
    have i1 : (0 : Int) < l.length := by omega
    have HT := Aside0.mk htl
    clear ql qC hy hls hok ho hL h0 hTL htl
    go_enter Tryz.func83, Tryz.ntmps83
    go_wp2
    generalize w.alloc (.cells #[.int .i64 o.f0, .int .i64 o.f1, .slice B o.f2.length cb] 43) = W at hbx bx ⊢
    have HIy := Aside0.mk (hIy.below hbx.1)
    have HIo := Aside0.mk (HO.out.below hbx.1)
    have HBW := Aside0.mk hbx.1
    have F : ∀ w', Below W.heap.size W w' → w'.cell? ⟨w.heap.size, 0, none⟩ = some (.int .i64 o.f0) ∧ w'.cell? ⟨w.heap.size, 1, none⟩ = some (.int .i64 o.f1) ∧ w'.cell? ⟨w.heap.size, 2, none⟩ = some (.slice B o.f2.length cb) ∧ w'.cell? ad = some (.int .i64 y.f0) ∧ w'.cell? ⟨ad.block, ad.off + 1, none⟩ = some (.int .i64 y.f1) ∧ w'.cell? ⟨ad.block, ad.off + 2, none⟩ = some (.slice A2 y.f2.length c2) :=
      fun w' h => ⟨pw_cell_below h hbx.2.1, pw_cell_below h hbx.2.2.1, pw_cell_below h hbx.2.2.2, pw_cell_below (below_then hbx.1 hbx.1.size h) qa, pw_cell_below (below_then hbx.1 hbx.1.size h) qb, pw_cell_below (below_then hbx.1 hbx.1.size h) qc⟩
    clear qa qb qc hbx bx hIy
    go_region_held3 (fun w' => w'.cell? ⟨w.heap.size, 0, none⟩ = some (.int .i64 o.f0) ∧ w'.cell? ⟨w.heap.size, 1, none⟩ = some (.int .i64 o.f1) ∧ w'.cell? ⟨w.heap.size, 2, none⟩ = some (.slice B o.f2.length cb) ∧ w'.cell? ad = some (.int .i64 y.f0) ∧ w'.cell? ⟨ad.block, ad.off + 1, none⟩ = some (.int .i64 y.f1) ∧ w'.cell? ⟨ad.block, ad.off + 2, none⟩ = some (.slice A2 y.f2.length c2))
      (first | (with_reducible exact F _ (Below.refl _ _)) | (with_reducible exact F _ (below_drew (Below.refl _ _))) | (with_reducible exact F _ HJ) | (with_reducible exact F _ (below_alloc HJ _)))
      (first
        | (go_at_call 66; refine (join_any o y B A2 cb c2 _ (HIo.out.below (below_drew (Below.refl _ _))) (HIy.out.below (below_drew (Below.refl _ _))) HK.out.asc HY.out.asc (isOk_big HK.out) (isOk_big HY.out)).mono ?_; rintro e wj ⟨vj, rfl, hj, hbj⟩; obtain ⟨Aj, cj, rfl⟩ := Kd.R_slice hj; have HJ : Below W.heap.size W wj := keepD hbj; have hjq := Kd.R_reads' hj; have HIj : Aside0 (IsO wj (join o y) Aj cj) := ⟨⟨hjq.2.1, hjq.2.2⟩⟩; clear hj hjq hbj))
    all_goals
      have HP := Aside0.mk (show CombOut w _ 2 o l (.returned (.tuple #[.slice (some ⟨wj.heap.size, 0, none⟩) 1 1, .slice (some ad) 1 c])) from combOut (w' := wj.alloc (.cells #[.int .i64 (join o y).f0, .int .i64 (join o y).f1, .slice Aj (join o y).f2.length cj] 43)) HE.out rfl HT.out.symm (one_L (blk_new _ _) (HIj.out.below (below_alloc (Below.refl _ _) _))) (HTL.out.below (below_then HBW.out HBW.out.size (below_alloc HJ _))) (below_then HBW.out HBW.out.size (below_alloc HJ _)))
      go_wp2
      go_ret2
      exact HP.out
  · -- the sum
    have HE := Aside0.mk (show combine 4 o l = ([l.foldl join o], l) by unfold combine; rw [if_neg h0]; simp)
    clear qa qb qc ql qC hls hok ho h0
    go_enter Tryz.func83, Tryz.ntmps83
    go_wp2
    have HW := Aside0.mk hbx.1
    clear hbx
    go_loopw [41] (fun vi wr => ∃ (k : Nat) (x : Occ) (Ax : Option Addr) (cx : Nat), k ≤ l.length ∧ vi = .int .i64 k ∧ Aside0 (x = (l.take k).foldl join o ∧ IsOk x) ∧ Aside0 (IsO wr x Ax cx) ∧ wr.heap[w.heap.size]? = some (.cells #[.int .i64 x.f0, .int .i64 x.f1, .slice Ax x.f2.length cx] 43 (0, 0)) ∧ Aside0 (Below w.heap.size w wr)) (fun vi _ => l.length - (intOf vi).toNat)
    case atStart => exact ⟨0, o, B, cb, Nat.zero_le _, rfl, ⟨by simp, HK.out⟩, ⟨HO.out.below HW.out⟩, bx, HW⟩
    case round =>
      obtain ⟨k, x, Ax, cx, hk, rfl, HX, HI, hb1, HB⟩ := hrel
      clear bx
      have b0 := (blk_cell hb1 0).trans rfl
      have b1 := (blk_cell hb1 1).trans rfl
      have b2 := (blk_cell hb1 2).trans rfl
      have z0 := blk_frozen hb1 0
      have z1 := blk_frozen hb1 1
      have z2 := blk_frozen hb1 2
      have hgw : w.heap.size < wr.heap.size := blk_lt hb1
      by_cases hlt : k < l.length
      · obtain ⟨ad', A3, c3, e3, pa, pb, pc, pl, pC⟩ := atO (HL.out.below HB.out).rd k hlt
        cases e3
        have hT := take_succ_getD l k zO hlt
        have hIy : IsO wr (l.getD k zO) A3 c3 := ⟨pl, pC⟩
        have hy := HS.out _ (getD_mem (l := l) (i := k) hlt)
        generalize l.getD k zO = y at pa pb pc hIy hy hT
        have HT := Aside0.mk hT
        have HY := Aside0.mk hy
        clear pl pC hy hT
        have hb3 := box3 wr (.int .i64 y.f0) (.int .i64 y.f1) (.slice A3 y.f2.length c3) 43
        have HIx := Aside0.mk (HI.out.below hb3.1)
        have HIy := Aside0.mk (hIy.below hb3.1)
        have bo := blk_alloc hb1 (.cells #[.int .i64 y.f0, .int .i64 y.f1, .slice A3 y.f2.length c3] 43)
        have HB3 := Aside0.mk hb3.1
        go_wp2_with (go_at_call 66; refine (join_any x y Ax A3 cx c3 _ HIx.out HIy.out HX.out.2.asc HY.out.asc (isOk_big HX.out.2) (isOk_big HY.out)).mono ?_; rintro e wj ⟨vj, rfl, hj, hbj⟩; obtain ⟨Aj, cj, rfl⟩ := Kd.R_slice hj; have bj := blk_below bo hbj; have q0 := (blk_cell bj 0).trans rfl; have q1 := (blk_cell bj 1).trans rfl; have q2 := (blk_cell bj 2).trans rfl; have g0 := blk_frozen bj 0; have g1 := blk_frozen bj 1; have g2 := blk_frozen bj 2; have HJ := Aside0.mk (below_then HB3.out HB3.out.size hbj); have HR := Aside0.mk hj; clear hj hbj)
        have r3 := set3_R HR.out bj (by decide) (.int .i64 (join x y).f0) (.int .i64 (join x y).f1) (.slice Aj (join x y).f2.length cj)
        have b3 := set3_blk (.int .i64 (join x y).f0) (.int .i64 (join x y).f1) (.slice Aj (join x y).f2.length cj) bj
        have hq := Kd.R_reads' r3
        have HB4 := Aside0.mk (set3_below (below_then HB.out HB.out.size HJ.out) (Nat.le_refl _) (.int .i64 (join x y).f0) (.int .i64 (join x y).f1) (.slice Aj (join x y).f2.length cj))
        go_roundw
        case rel => exact ⟨k + 1, join x y, Aj, cj, by omega, by go_num, ⟨by rw [HT.out, List.foldl_append, ← HX.out.1]; rfl, isOk_join HX.out.2 HY.out⟩, ⟨⟨hq.2.1, hq.2.2⟩⟩, b3, HB4⟩
        case measure => simp [intOf]; omega
      · have hke : k = l.length := by omega
        subst hke
        have hX := HX.out.1
        rw [List.take_length] at hX
        have HP := Aside0.mk (show CombOut w _ 4 o l (.returned (.tuple #[.slice (some ⟨wr.heap.size, 0, none⟩) 1 1, .slice (some ad) l.length c])) from combOut (w' := wr.alloc (.cells #[.int .i64 x.f0, .int .i64 x.f1, .slice Ax x.f2.length cx] 43)) (by rw [HE.out, hX]) rfl rfl (one_L (blk_new _ _) (HI.out.below (below_alloc (Below.refl _ _) _))) (HL.out.below (below_alloc HB.out _)) (below_alloc HB.out _))
        clear hX
        go_wp2
        go_ret2
        exact HP.out
  · -- all, or each
    have HE : Aside0 (combine mode o l = (putAll [] (l.map (join o)), if mode = 3 then l else [])) := ⟨by unfold combine; rw [if_neg h0, if_neg (by omega), if_neg (by omega), if_neg (by omega)]⟩
    clear qa qb qc ql qC hls hok ho h0
    have m1 : (mode == 1) = false := by rw [beq_eq_false_iff_ne]; omega
    have m2 : (mode == 2) = false := by rw [beq_eq_false_iff_ne]; omega
    have m4 : (mode == 4) = false := by rw [beq_eq_false_iff_ne]; omega
    go_enter Tryz.func83, Tryz.ntmps83
    go_wp2
    have HW := Aside0.mk hbx.1
    clear hbx
    generalize w.alloc (.cells #[.int .i64 o.f0, .int .i64 o.f1, .slice B o.f2.length cb] 43) = W at HW bx ⊢
    go_loopw [6, 54] (fun v6 vi wr => ∃ (k : Nat) (A' : Option Addr) (n c' : Nat), k ≤ l.length ∧ vi = .int .i64 k ∧ v6 = .slice A' n c' ∧ Aside0 (n = (putAll [] ((l.take k).map (join o))).length ∧ IsL wr (putAll [] ((l.take k).map (join o))) A' c') ∧ Aside0 (Below W.heap.size W wr)) (fun _ vi _ => l.length - (intOf vi).toNat)
    case atStart => exact ⟨0, none, 0, 0, Nat.zero_le _, rfl, rfl, ⟨by simp [putAll], by simpa [putAll] using IsL.nil _⟩, ⟨Below.refl _ _⟩⟩
    case round =>
      obtain ⟨k, A1, n, c1, hk, rfl, rfl, HI, HB⟩ := hrel
      have hb1 := blk_below bx HB.out
      have hgw : w.heap.size < wr.heap.size := blk_lt hb1
      have b0 := (blk_cell hb1 0).trans rfl
      have b1 := (blk_cell hb1 1).trans rfl
      have b2 := (blk_cell hb1 2).trans rfl
      by_cases hlt : k < l.length
      · have HBw := below_then HW.out HW.out.size HB.out
        obtain ⟨ad', A3, c3, e3, pa, pb, pc, pl, pC⟩ := atO (HL.out.below HBw).rd k hlt
        cases e3
        have hT := take_succ_getD l k zO hlt
        have hIy : IsO wr (l.getD k zO) A3 c3 := ⟨pl, pC⟩
        have hy := HS.out _ (getD_mem (l := l) (i := k) hlt)
        have hln := len_putAll [] ((l.take k).map (join o))
        rw [List.length_map, List.length_take] at hln
        generalize l.getD k zO = y at pa pb pc hIy hy hT
        have HT := Aside0.mk (show putAll [] ((l.take (k + 1)).map (join o)) = put (putAll [] ((l.take k).map (join o))) (join o y) by rw [hT, List.map_append, putAll_append]; rfl)
        have HY := Aside0.mk hy
        have hsp : Sorted (putAll [] ((l.take k).map (join o))) := sorted_putAll List.Pairwise.nil
        obtain ⟨hn, hL1⟩ := HI.out
        have HL1 := Aside0.mk hL1
        clear pl pC hy hT HI hL1
        generalize putAll [] ((l.take k).map (join o)) = L at *
        subst hn
        have hb3 := box3 wr (.int .i64 y.f0) (.int .i64 y.f1) (.slice A3 y.f2.length c3) 43
        have HIx := Aside0.mk ((HO.out.below HBw).below hb3.1)
        have HIy := Aside0.mk (hIy.below hb3.1)
        have HB3 := Aside0.mk hb3.1
        have hsp2 := isOk_big (isOk_join HK.out HY.out)
        go_wp2_with (first
          | (go_at_call 65; refine (put_any A1 Aj c1 cj L (join o y) _ hsp (by simp at hln; omega) HL1.out.cap (HL1.out.below (below_then HB3.out HB3.out.size HJ.out)).rd HIj.out).mono ?_; rintro e w3 ⟨A4, c4, rfl, h1, h2, h3⟩; have HB5 := Aside0.mk (below_then HB.out HB.out.size (below_then HB3.out HB3.out.size (below_then HJ.out HJ.out.size h3))); have HL5 := Aside0.mk (IsL.mk h1 h2); clear h1 h2 h3)
          | (go_at_call 66; refine (join_any o y B A3 cb c3 _ HIx.out HIy.out HK.out.asc HY.out.asc (isOk_big HK.out) (isOk_big HY.out)).mono ?_; rintro e wj ⟨vj, rfl, hj, hbj⟩; obtain ⟨Aj, cj, rfl⟩ := Kd.R_slice hj; have hjq := Kd.R_reads' hj; have HIj : Aside0 (IsO wj (join o y) Aj cj) := ⟨⟨hjq.2.1, hjq.2.2⟩⟩; have HJ := Aside0.mk hbj; clear hj hbj hjq))
        go_roundw
        case rel => exact ⟨k + 1, A4, _, c4, by omega, by go_num, rfl, ⟨by rw [HT.out], by rw [HT.out]; exact HL5.out⟩, HB5⟩
        case measure => simp [intOf]; omega
      · have hke : k = l.length := by omega
        subst hke
        have hI := HI.out
        rw [List.take_length] at hI
        have hbW := below_then HW.out HW.out.size HB.out
        by_cases hm3 : mode = 3
        · subst hm3
          have HP := Aside0.mk (show CombOut w wr 3 o l (.returned (.tuple #[.slice A1 n c1, .slice (some ad) l.length c])) from combOut HE.out hI.1 rfl hI.2 (HL.out.below hbW) hbW)
          clear hI hbW
          go_wp2
          go_ret2
          exact HP.out
        · have hm0 : mode = 0 := by omega
          subst hm0
          have HP := Aside0.mk (show CombOut w wr 0 o l (.returned (.tuple #[.slice A1 n c1, .slice none 0 0])) from combOut HE.out hI.1 rfl hI.2 (IsL.nil _) hbW)
          clear hI hbW
          go_wp2
          go_ret2
          exact HP.out
end Go.Proofs.YtccenpmaooailaaGreat.Ic

/- A conjunction at one point in time: the program's. -/
set_option linter.unusedVariables false
set_option linter.unusedSimpArgs false
namespace Go.Proofs.YtccenpmaooailaaGreat.Id
open Go.RowKit Go.Proofs.YtccenpmaooailaaGreatW.PrintWords Go.Proofs.YtccenpmaooailaaGreat.Wd Go.Proofs.YtccenpmaooailaaGreat.Pu Go.Proofs.YtccenpmaooailaaGreat.Pv Go.Proofs.YtccenpmaooailaaGreat.Ca Go.Proofs.YtccenpmaooailaaGreat.Cc Go.Proofs.YtccenpmaooailaaGreat.Cp Go.Proofs.YtccenpmaooailaaGreat.Cd Go.Proofs.YtccenpmaooailaaGreat.Ci Go.Proofs.YtccenpmaooailaaGreat.Ce Go.Proofs.YtccenpmaooailaaGreat.Cf Go.Proofs.YtccenpmaooailaaGreat.Cg Go.Proofs.YtccenpmaooailaaGreat.Ia Go.Proofs.YtccenpmaooailaaGreat.Ib Go.Proofs.YtccenpmaooailaaGreat.Ic

/-! what is read keeps where a block without numbers is written -/
def NI (w : World) (g : Nat) : Prop := ∀ o k z, w.cell? ⟨g, o, none⟩ ≠ some (.int k z)
theorem ni_ne {w : World} {g : Nat} (h : NI w g) {p : Addr} {k : IntKind} {z : Int} (hp : w.cell? p = some (.int k z)) : p.block ≠ g := by
  intro e
  obtain ⟨b, o, s⟩ := p
  simp only at e
  subst e
  cases s with
  | none => exact h o k z hp
  | some s =>
    unfold World.cell? at hp
    simp at hp
    split at hp <;> simp at hp
theorem ni_two {w : World} {g : Nat} {A B : Option Addr} {n m c d : Nat} {t : TypeId} {fr : Nat × Nat} (h : w.heap[g]? = some (.cells #[.slice A n c, .slice B m d] t fr)) : NI w g := by
  intro o k z he
  unfold World.cell? at he
  simp only [h] at he
  rcases o with _ | _ | o <;> simp at he
theorem add_block (ad : Addr) (n : Nat) : (ad.add n).block = ad.block := by unfold Addr.add; split <;> rfl
section
variable {w w' : World} {g : Nat}
theorem ints_far (hni : NI w g) (hk : ∀ b, b ≠ g → b < w.heap.size → w'.heap[b]? = w.heap[b]?) {A : Option Addr} {n : Nat} {xs : List Int} (h : (Kd.int .i64).C w A n xs) : (Kd.int .i64).C w' A n xs :=
  ⟨h.1, h.2.1, fun h0 => by
    obtain ⟨ad, e, hc⟩ := h.2.2 h0
    refine ⟨ad, e, fun j p hj => ?_⟩
    obtain ⟨c, h1, h2, h3⟩ := hc j p hj
    refine ⟨c, h1, h2, fun i u hi => ?_⟩
    have h4 := h3 i u hi
    have h2' : c = [.int .i64 p] := h2
    have hu : u = .int .i64 p := by
      rw [h2'] at hi
      rcases i with _ | i
      · simpa using hi.symm
      · simp at hi
    have hne := ni_ne hni (by rw [hu] at h4; exact h4)
    exact (World.cell?_of_block (hk _ hne (World.block_lt_of_cell? w _ h4))).trans h4⟩
theorem IsO.away {x : Occ} {A : Option Addr} {c : Nat} (hni : NI w g) (hk : ∀ b, b ≠ g → b < w.heap.size → w'.heap[b]? = w.heap[b]?) (h : IsO w x A c) : IsO w' x A c := ⟨h.1, ints_far hni hk h.2⟩
theorem IsL.away {l : List Occ} {A : Option Addr} {c : Nat} (hni : NI w g) (hk : ∀ b, b ≠ g → b < w.heap.size → w'.heap[b]? = w.heap[b]?) (h : IsL w l A c) : IsL w' l A c :=
  ⟨h.cap, ⟨h.rd.1, h.rd.2.1, fun h0 => by
    obtain ⟨ad, e, hc⟩ := h.rd.2.2 h0
    refine ⟨ad, e, fun j p hj => ?_⟩
    obtain ⟨cs, h1, h2, h3⟩ := hc j p hj
    obtain ⟨A2, c2, rfl, l2, g2⟩ := kO_open h2
    refine ⟨_, h1, kO_mk w' p l2 (ints_far hni hk g2), fun i u hi => ?_⟩
    have h4 := h3 0 _ rfl
    have hne := ni_ne hni h4
    rw [add_block] at hne
    have h5 := h3 i u hi
    exact (World.cell?_of_block (hk _ (by rw [add_block]; exact hne) (World.block_lt_of_cell? w _ h5))).trans h5⟩⟩
theorem keep_set (w : World) (g j : Nat) (u : Value) : ∀ b, b ≠ g → b < w.heap.size → (w.setCell ⟨g, j, none⟩ u).heap[b]? = w.heap[b]? := fun b hb _ => Below.heap_setCell w ⟨g, j, none⟩ u b hb
end
def set2 (w : World) (G : Nat) (u0 u1 : Value) : World := (w.setCell ⟨G, 0, none⟩ u0).setCell ⟨G, 1, none⟩ u1
theorem set2_blk {w : World} {G : Nat} {t : TypeId} {z0 z1 : Value} (u0 u1 : Value) (b : w.heap[G]? = some (.cells #[z0, z1] t (0, 0))) : (set2 w G u0 u1).heap[G]? = some (.cells #[u0, u1] t (0, 0)) :=
  blk_put (cs := #[u0, z1]) (blk_put b 0 _ rfl) 1 _ rfl
theorem set2_below {w0 w : World} {B G : Nat} (h : Below B w0 w) (hG : B ≤ G) (u0 u1 : Value) : Below B w0 (set2 w G u0 u1) := (h.setCell (p := ⟨G, 0, none⟩) hG _).setCell (p := ⟨G, 1, none⟩) hG _
end Go.Proofs.YtccenpmaooailaaGreat.Id

/- A conjunction at one point in time: the walk. -/
set_option linter.unusedVariables false
set_option linter.unusedSimpArgs false
namespace Go.Proofs.YtccenpmaooailaaGreat.Ie
open Go.RowKit Go.Proofs.YtccenpmaooailaaGreatW.PrintWords Go.Proofs.YtccenpmaooailaaGreat.Wd Go.Proofs.YtccenpmaooailaaGreat.Pu Go.Proofs.YtccenpmaooailaaGreat.Pv Go.Proofs.YtccenpmaooailaaGreat.Ca Go.Proofs.YtccenpmaooailaaGreat.Cc Go.Proofs.YtccenpmaooailaaGreat.Cp Go.Proofs.YtccenpmaooailaaGreat.Cd Go.Proofs.YtccenpmaooailaaGreat.Ci Go.Proofs.YtccenpmaooailaaGreat.Ce Go.Proofs.YtccenpmaooailaaGreat.Cf Go.Proofs.YtccenpmaooailaaGreat.Cg Go.Proofs.YtccenpmaooailaaGreat.Ia Go.Proofs.YtccenpmaooailaaGreat.Ib Go.Proofs.YtccenpmaooailaaGreat.Ic Go.Proofs.YtccenpmaooailaaGreat.Id

theorem pair_set {w : World} {P : Nat} {A B : Option Addr} {n m c d : Nat} {t : TypeId} (h : w.heap[P]? = some (.cells #[.slice A n c, .slice B m d] t (0, 0))) (A' : Option Addr) (n' c' : Nat) :
    (w.setCell ⟨P, 0, none⟩ (.slice A' n' c')).heap[P]? = some (.cells #[.slice A' n' c', .slice B m d] t (0, 0)) ∧ (w.setCell ⟨P, 1, none⟩ (.slice A' n' c')).heap[P]? = some (.cells #[.slice A n c, .slice A' n' c'] t (0, 0)) :=
  ⟨blk_put h 0 _ rfl, blk_put h 1 _ rfl⟩
end Go.Proofs.YtccenpmaooailaaGreat.Ie

/- A sequence at one point in time: the walk. -/
set_option linter.unusedVariables false
set_option linter.unusedSimpArgs false
namespace Go.Proofs.YtccenpmaooailaaGreat.If
open Go.RowKit Go.Proofs.YtccenpmaooailaaGreatW.PrintWords Go.Proofs.YtccenpmaooailaaGreat.Wd Go.Proofs.YtccenpmaooailaaGreat.Pu Go.Proofs.YtccenpmaooailaaGreat.Pv Go.Proofs.YtccenpmaooailaaGreat.Ca Go.Proofs.YtccenpmaooailaaGreat.Cc Go.Proofs.YtccenpmaooailaaGreat.Cp Go.Proofs.YtccenpmaooailaaGreat.Cd Go.Proofs.YtccenpmaooailaaGreat.Ci Go.Proofs.YtccenpmaooailaaGreat.Ce Go.Proofs.YtccenpmaooailaaGreat.Cf Go.Proofs.YtccenpmaooailaaGreat.Cg Go.Proofs.YtccenpmaooailaaGreat.Ia Go.Proofs.YtccenpmaooailaaGreat.Ib Go.Proofs.YtccenpmaooailaaGreat.Ic Go.Proofs.YtccenpmaooailaaGreat.Id Go.Proofs.YtccenpmaooailaaGreat.Ie

theorem before_bef (o : Occ) : before o = bef o.f0 := rfl
structure SeqLen (st : List Occ × List Occ) (a c : Nat) : Prop where
  ok1 : AreOk st.1
  ok2 : AreOk st.2
  own : st.1.length ≤ a
  out : st.2.length ≤ c
theorem seqLen_step {mode : Int} {st : List Occ × List Occ} {a c : Nat} (h : SeqLen st a c) {o : Occ} (ho : IsOk o) : SeqLen (seqStep mode st o) a (c + a) := by
  obtain ⟨h1, h2⟩ := seqStep_ok (mode := mode) h.ok1 h.ok2 ho
  refine ⟨h1, h2, ?_, ?_⟩
  · have := len_without st.1 (combine mode o (st.1.filter (before o))).2; have := h.own; simp only [seqStep]; omega
  · have h1 := len_putAll1 st.2 (combine mode o (st.1.filter (before o))).1
    have h2 := len_combine mode o (st.1.filter (before o))
    have h3 := List.length_filter_le (before o) st.1
    have := h.own; have := h.out; simp only [seqStep]; omega
def SeqOut (w w' : World) (l r out : List Occ) (e : Ending) : Prop :=
  ∃ Al cl Ar cr Ao co, e = .returned (.tuple #[.agg #[.slice Al l.length cl, .slice Ar r.length cr], .slice Ao out.length co]) ∧ IsL w' l Al cl ∧ IsL w' r Ar cr ∧ IsL w' out Ao co ∧ Below w.heap.size w w'
structure SeqMem (w wr : World) (st : List Occ × List Occ) (r : List Occ) (B : Option Addr) (cb : Nat) (vo : Value) (Al : Option Addr) (nl cl : Nat) : Prop where
  bP : wr.heap[w.heap.size]? = some (.cells #[.slice Al nl cl, .slice B r.length cb] 78 (0, 0))
  bR : wr.heap[w.heap.size + 1]? = some (.cells #[.slice none 0 0, .slice none 0 0] 78 (0, 0))
  nl : nl = st.1.length
  own : IsL wr st.1 Al cl
  out : ∃ Ao co, vo = .slice Ao st.2.length co ∧ IsL wr st.2 Ao co
  bel : Below w.heap.size w wr

set_option maxHeartbeats 4000000 in
set_option maxRecDepth 100000 in
theorem seq_any (mode : Int) (hm : 0 ≤ mode ∧ mode ≤ 4) (A B C D : Option Addr) (ca cb cc cd : Nat) (l r left right : List Occ) (w : World) (hl : AreOk l) (hle : ∀ o ∈ left, IsOk o) (hri : ∀ o ∈ right, IsOk o)
    (n1 : l.length + left.length ≤ 500) (n2 : right.length ≤ 500) (hL : IsL w l A ca) (hR : IsL w r B cb) (hE : IsL w left C cc) (hI : IsL w right D cd) :
    Calls Tryz.prog 68 #[.agg #[.slice A l.length ca, .slice B r.length cb], .int .i64 mode, .slice C left.length cc, .slice D right.length cd] w fun e w' => SeqOut w w' (seqI mode l left right).1 r (seqI mode l left right).2 e := by
  have hmf : ∀ (fn : Fn) (first cap : Array Value) (w : World), (Instr.makeFunc fn first cap).run Tryz.prog w = .ok (.func fn first cap) w := fun _ _ _ _ => rfl
  have hb0 : Below w.heap.size w ((w.alloc (.cells #[.slice A l.length ca, .slice B r.length cb] 78)).alloc (.cells #[.slice none 0 0, .slice none 0 0] 78)) := below_alloc (below_alloc (Below.refl _ _) _) _
  have HM : Aside0 (SeqMem w ((w.alloc (.cells #[.slice A l.length ca, .slice B r.length cb] 78)).alloc (.cells #[.slice none 0 0, .slice none 0 0] 78)) (l, []) r B cb (.slice none 0 0) A l.length ca) :=
    ⟨⟨blk_alloc (blk_new _ _) _, by have := blk_new (w.alloc (.cells #[.slice A l.length ca, .slice B r.length cb] 78)) (.cells #[.slice none 0 0, .slice none 0 0] 78); simpa using this, rfl, hL.below hb0, ⟨none, 0, rfl, IsL.nil _⟩, hb0⟩⟩
  have LENS : Aside0 (SeqLen (l, []) l.length (0 * 500)) := ⟨⟨hl, AreOk.nil, Nat.le_refl _, Nat.le_refl _⟩⟩
  have HLE := Aside0.mk hE
  have HRI := Aside0.mk hI
  have HRR := Aside0.mk hR
  have HOKL := Aside0.mk hle
  have HOKR := Aside0.mk hri
  clear hL hR hE hI hle hri hb0 hl
  go_enter Tryz.func68, Tryz.ntmps68
  go_wp2
  go_loopw [10, 17] (fun vo vi wr => ∃ (k : Nat) (st : List Occ × List Occ) (v : Value) (Al : Option Addr) (nl cl : Nat), k ≤ right.length ∧ vi = .int .i64 k ∧ v = vo ∧ Aside0 (st = (right.take k).foldl (seqStep mode) (l, [])) ∧ Aside0 (SeqLen st l.length (k * 500)) ∧ Aside0 (SeqMem w wr st r B cb v Al nl cl)) (fun _ vi _ => right.length - (intOf vi).toNat)
  case atStart => exact ⟨0, _, _, _, _, _, Nat.zero_le _, rfl, rfl, ⟨by simp⟩, LENS, HM⟩
  case round =>
    clear HM LENS
    obtain ⟨k, st, vo, Al, nl, cl, hk, rfl, rfl, HST, HLN, HM⟩ := hrel
    have hP := HM.out.bP
    have hR := HM.out.bR
    have hPs := blk_lt hP
    have hRs := blk_lt hR
    have hn1 : nl = st.1.length := HM.out.nl
    subst hn1
    have hOwn : IsL wr st.1 Al cl := HM.out.own
    obtain ⟨Ao, co, hvo, hLo⟩ := HM.out.out
    subst hvo
    have HLo := Aside0.mk hLo
    have HBel := Aside0.mk HM.out.bel
    have HLN5 := HLN.out.own
    have hout5 := HLN.out.out
    have p0 := (blk_cell hP 0).trans rfl
    have z0 := blk_frozen hP 0
    clear hLo HM
    by_cases hlt : k < right.length
    · obtain ⟨ad', A3, c3, e3, pa, pb, pc, pl, pC⟩ := atO (HRI.out.below HBel.out).rd k hlt
      cases e3
      have hIy : IsO wr (right.getD k zO) A3 c3 := ⟨pl, pC⟩
      have hy := HOKR.out _ (getD_mem (l := right) (i := k) hlt)
      have hT := foldl_take (seqStep mode) (l, []) right k hlt
      rw [← HST.out] at hT
      generalize right.getD k zO = y at pa pb pc hIy hy hT
      have HT := Aside0.mk hT
      have HY := Aside0.mk hy
      have HN2 := Aside0.mk (seqLen_step (mode := mode) HLN.out hy)
      clear pl pC hy hT
      have hb3 := box3 wr (.int .i64 y.f0) (.int .i64 y.f1) (.slice A3 y.f2.length c3) 43
      have bY : (wr.alloc (.cells #[.int .i64 y.f0, .int .i64 y.f1, .slice A3 y.f2.length c3] 43)).heap[wr.heap.size]? = some (.cells #[.int .i64 y.f0, .int .i64 y.f1, .slice A3 y.f2.length c3] 43 (0, 0)) := blk_new _ _
      have HIy := Aside0.mk (hIy.below hb3.1)
      have HLo2 := Aside0.mk (HLo.out.below hb3.1)
      have HOw2 := Aside0.mk (hOwn.below hb3.1)
      have HB2 := Aside0.mk (below_then HBel.out HBel.out.size hb3.1)
      have bP2 := blk_alloc hP (.cells #[.int .i64 y.f0, .int .i64 y.f1, .slice A3 y.f2.length c3] 43)
      have bR2 := blk_alloc hR (.cells #[.int .i64 y.f0, .int .i64 y.f1, .slice A3 y.f2.length c3] 43)
      have HSO := Aside0.mk HLN.out
      have hfl := List.length_filter_le (before y) st.1
      have hcl := len_combine mode y (st.1.filter (before y))
      have hgl := len_gone mode y (st.1.filter (before y))
      have hfs : AreOk (st.1.filter (before y)) := HLN.out.ok1.filter _
      have hgs := gone_sub (mode := mode) (o := y) hfs.sorted
      have HFS := Aside0.mk hfs
      have HGS := Aside0.mk hgs
      have hne : w.heap.size ≠ wr.heap.size := by omega
      clear hIy hOwn hfs hgs
      go_upto_region 5 with fail
      go_wp2_with fail
      clear hb3 pa pb pc p0 z0 hP hR
      generalize hW : wr.alloc (.cells #[.int .i64 y.f0, .int .i64 y.f1, .slice A3 y.f2.length c3] 43) = W at bY HIy HLo2 HOw2 HB2 bP2 bR2 ⊢
      clear hW
      have F : ∀ w', Below W.heap.size W w' → w'.cell? ⟨wr.heap.size, 0, none⟩ = some (.int .i64 y.f0) ∧ w'.cell? ⟨wr.heap.size, 1, none⟩ = some (.int .i64 y.f1) ∧ w'.cell? ⟨wr.heap.size, 2, none⟩ = some (.slice A3 y.f2.length c3) ∧ w'.cell? ⟨w.heap.size, 0, none⟩ = some (.slice Al st.1.length cl) :=
        fun w' h => ⟨pw_cell_below h ((blk_cell bY 0).trans rfl), pw_cell_below h ((blk_cell bY 1).trans rfl), pw_cell_below h ((blk_cell bY 2).trans rfl), pw_cell_below h ((blk_cell bP2 0).trans rfl)⟩
      have hO2 := (F _ (Below.refl _ _)).1
      go_region_held3 (fun w' => w'.cell? ⟨wr.heap.size, 0, none⟩ = some (.int .i64 y.f0) ∧ w'.cell? ⟨wr.heap.size, 1, none⟩ = some (.int .i64 y.f1) ∧ w'.cell? ⟨wr.heap.size, 2, none⟩ = some (.slice A3 y.f2.length c3) ∧ w'.cell? ⟨w.heap.size, 0, none⟩ = some (.slice Al st.1.length cl))
        (first | (with_reducible exact F _ (Below.refl _ _)) | (with_reducible exact F _ (below_drew (Below.refl _ _))) | (with_reducible exact F _ HB0) | (with_reducible exact F _ HB1))
        (first
          | (go_at_call 83; refine (combine_any mode hm y A3 c3 A5 c5 (st.1.filter (before y)) _ (HIy.out.below HB0) HY.out HFS.out.all (by omega) HL5.out).mono ?_; rintro e w1 ⟨Af, cf, Ag, cg, rfl, hf, hg, hb1⟩; have HB1 : Below W.heap.size W w1 := below_then HB0 HB0.size hb1; have HF := Aside0.mk hf; have HG := Aside0.mk hg; clear hf hg hb1)
          | (go_at_call 110; refine (bef_any Al cl wr.heap.size y.f0 st.1 _ (by omega) (HOw2.out.below (below_drew (Below.refl _ _))) hO2).mono ?_; rw [← before_bef]; rintro e w5 ⟨A5, c5, rfl, hl5, hb5⟩; have HB0 : Below W.heap.size W w5 := keepD hb5; have HL5 := Aside0.mk hl5; clear hl5 hb5))
      have bP1 := blk_below bP2 HB1
      have bR1 := blk_below bR2 HB1
      have HBB1 := Aside0.mk HB1
      have hPs1 := blk_lt bP1
      clear F hO2 HB1 HB0 bY HL5 HIy bP2 bR2 HFS
      go_wp2_with (first
        | (go_at_call 85; refine (without_any Al Ag cl cg st.1 (combine mode y (st.1.filter (before y))).2 _ HGS.out (by omega) (by omega) (HOw2.out.below HB3.out) HG3.out).mono ?_; rintro e w4 ⟨A4, c4, rfl, ht4, hb4⟩; have bP4 := blk_below bP3 hb4; have bR4 := blk_below bR3 hb4; have z4 := blk_frozen bP4 0; have q4 := (blk_cell bP4 0).trans rfl; have HB4 := Aside0.mk (below_then HB3.out HB3.out.size hb4); have HT4 := Aside0.mk ht4; have HO4 := Aside0.mk (HO3.out.below hb4); clear ht4 hb4)
        | (go_at_call 71; refine (putAll_any Ao Af co cf st.2 (combine mode y (st.1.filter (before y))).1 _ HSO.out.ok2.sorted (by omega) (HLo2.out.below HBB1.out) HF.out).mono ?_; rintro e w3 ⟨A6, c6, rfl, ho3, hb3⟩; have bP3 := blk_below bP1 hb3; have bR3 := blk_below bR1 hb3; have q3 := (blk_cell bP3 0).trans rfl; have HB3 := Aside0.mk (below_then HBB1.out HBB1.out.size hb3); have HO3 := Aside0.mk ho3; have HG3 := Aside0.mk (HG.out.below hb3); clear ho3 hb3))
      go_roundw
      case rel =>
        refine ⟨k + 1, seqStep mode st y, _, _, _, _, by omega, by go_num, rfl, ⟨HT.out.symm⟩, ⟨⟨HN2.out.ok1, HN2.out.ok2, HN2.out.own, by have := HN2.out.out; omega⟩⟩, ⟨⟨(pair_set bP4 A4 _ c4).1, blk_far bR4 (by simp) _, rfl, ?_, ⟨A6, c6, rfl, IsL.away (ni_two bP4) (keep_set _ _ _ _) HO4.out⟩, ?_⟩⟩⟩
        · exact IsL.away (ni_two bP4) (keep_set _ _ _ _) HT4.out
        · exact (below_then HB2.out HB2.out.size HB4.out).setCell (p := ⟨w.heap.size, 0, none⟩) (Nat.le_refl _) _
      case measure => simp [intOf]; omega
    · have hke : k = right.length := by omega
      subst hke
      have hF := HST.out
      rw [List.take_length] at hF
      have hG : seqI mode l left right = (putAll st.1 left, st.2) := by unfold seqI; rw [← hF]
      have HG := Aside0.mk hG
      have hso := HLN.out.ok1.sorted
      have HLE2 := Aside0.mk (HLE.out.below HBel.out)
      have HOwn := Aside0.mk hOwn
      clear hF hG hOwn
      go_wp2_with (go_at_call 71; refine (putAll_any Al C cl cc st.1 left _ hso (by omega) HOwn.out HLE2.out).mono ?_; rintro e w3 ⟨A6, c6, rfl, ho3, hb3⟩; have bP3 := blk_below hP hb3; have bR3 := blk_below hR hb3; have q3 := (blk_cell bP3 0).trans rfl; have q31 := (blk_cell bP3 1).trans rfl; have z3 := blk_frozen bP3 0; have r30 := (blk_cell bR3 0).trans rfl; have r31 := (blk_cell bR3 1).trans rfl; have f30 := blk_frozen bR3 0; have f31 := blk_frozen bR3 1; have HB3 := Aside0.mk (below_then HBel.out HBel.out.size hb3); have HO3 := Aside0.mk ho3; have HLo3 := Aside0.mk (HLo.out.below hb3); clear ho3 hb3)
      have hp4 := (pair_set bP3 A6 (putAll st.1 left).length c6).1
      have hr4 := blk_far bR3 (p := ⟨w.heap.size, 0, none⟩) (by simp) (.slice A6 (putAll st.1 left).length c6)
      have hk4 := keep_set w3 w.heap.size 0 (.slice A6 (putAll st.1 left).length c6)
      have hB4 := HB3.out.setCell (p := ⟨w.heap.size, 0, none⟩) (Nat.le_refl _) (.slice A6 (putAll st.1 left).length c6)
      have HL4 := Aside0.mk (IsL.away (ni_two bP3) hk4 HO3.out)
      have HO4 := Aside0.mk (IsL.away (ni_two bP3) hk4 HLo3.out)
      have HRR4 := Aside0.mk (HRR.out.below hB4)
      clear hk4
      refine bodyPost_ret (results_ct rfl _ _ (w.heap.size + 1) 78 #[.slice A6 (putAll st.1 left).length c6, .slice B r.length cb] (0, 0) _ rfl (set2_blk _ _ hr4) Tryz.underlying78 rfl (by kernel_rfl)) rfl ?_
      rw [HG.out]
      have hk1 := keep_set (w3.setCell ⟨w.heap.size, 0, none⟩ (.slice A6 (putAll st.1 left).length c6)) (w.heap.size + 1) 0 (.slice A6 (putAll st.1 left).length c6)
      have hR1 : ((w3.setCell ⟨w.heap.size, 0, none⟩ (.slice A6 (putAll st.1 left).length c6)).setCell ⟨w.heap.size + 1, 0, none⟩ (.slice A6 (putAll st.1 left).length c6)).heap[w.heap.size + 1]? = some (.cells #[.slice A6 (putAll st.1 left).length c6, .slice none 0 0] 78 (0, 0)) := blk_put hr4 0 _ rfl
      have hk2 := keep_set ((w3.setCell ⟨w.heap.size, 0, none⟩ (.slice A6 (putAll st.1 left).length c6)).setCell ⟨w.heap.size + 1, 0, none⟩ (.slice A6 (putAll st.1 left).length c6)) (w.heap.size + 1) 1 (.slice B r.length cb)
      have G : ∀ {x : List Occ} {X : Option Addr} {cx : Nat}, IsL (w3.setCell ⟨w.heap.size, 0, none⟩ (.slice A6 (putAll st.1 left).length c6)) x X cx → IsL (set2 (w3.setCell ⟨w.heap.size, 0, none⟩ (.slice A6 (putAll st.1 left).length c6)) (w.heap.size + 1) (.slice A6 (putAll st.1 left).length c6) (.slice B r.length cb)) x X cx := fun h => IsL.away (ni_two hR1) hk2 (IsL.away (ni_two hr4) hk1 h)
      exact ⟨A6, c6, B, cb, Ao, co, rfl, G HL4.out, G HRR4.out, G HO4.out, set2_below hB4 (by omega) _ _⟩
end Go.Proofs.YtccenpmaooailaaGreat.If

/- PairSeq, PairAnd: the program's. -/
set_option linter.unusedVariables false
set_option linter.unusedSimpArgs false
namespace Go.Proofs.YtccenpmaooailaaGreat.Ig
open Go.RowKit Go.Proofs.YtccenpmaooailaaGreatW.PrintWords Go.Proofs.YtccenpmaooailaaGreat.Wd Go.Proofs.YtccenpmaooailaaGreat.Pu Go.Proofs.YtccenpmaooailaaGreat.Pv Go.Proofs.YtccenpmaooailaaGreat.Ca Go.Proofs.YtccenpmaooailaaGreat.Cb Go.Proofs.YtccenpmaooailaaGreat.Cc Go.Proofs.YtccenpmaooailaaGreat.Cp Go.Proofs.YtccenpmaooailaaGreat.Cd Go.Proofs.YtccenpmaooailaaGreat.Ci Go.Proofs.YtccenpmaooailaaGreat.Ce Go.Proofs.YtccenpmaooailaaGreat.Cf Go.Proofs.YtccenpmaooailaaGreat.Cg Go.Proofs.YtccenpmaooailaaGreat.Ia Go.Proofs.YtccenpmaooailaaGreat.Ib Go.Proofs.YtccenpmaooailaaGreat.Ic Go.Proofs.YtccenpmaooailaaGreat.Id Go.Proofs.YtccenpmaooailaaGreat.Ie Go.Proofs.YtccenpmaooailaaGreat.If

theorem isMode_any (m : Int) (w : World) : Calls Tryz.prog 82 #[.int .i64 m] w fun e w' => e = .returned (.bool (inb m 0 4)) ∧ w' = w := by
  go_enter Tryz.func82, Tryz.ntmps82
  go_wp2_with (go_at_call 102; refine (in_any m 0 4 _).mono ?_; rintro e w' ⟨rfl, rfl⟩)
  go_ret
  exact ⟨rfl, rfl⟩
theorem pairOk_any (A B : Option Addr) (ca cb : Nat) (l r : List Occ) (w : World) (hL : IsL w l A ca) (hR : IsL w r B cb) :
    Calls Tryz.prog 128 #[.agg #[.slice A l.length ca, .slice B r.length cb]] w fun e w' => e = .returned (.bool (okOs l && okOs r)) ∧ Below w.heap.size w w' := by
  have hb0 := below_alloc (Below.refl w.heap.size w) (.cells #[.slice A l.length ca, .slice B r.length cb] 78)
  have bP := blk_new w (.cells #[.slice A l.length ca, .slice B r.length cb] 78)
  have h1 := occsOk_any A ca l _ (hL.below hb0).rd
  have h2 := fun (w2 : World) (h : Below w.heap.size w w2) => occsOk_any B cb r w2 (hR.below h).rd
  cases h : okOs l with
  | false =>
    rw [h] at h1
    clear h
    go_enter Tryz.func128, Tryz.ntmps128
    go_wp2_with (go_at_call 57; refine h1.mono ?_; rintro e w2 ⟨rfl, hb⟩; have HB := Aside0.mk (below_then hb0 hb0.size hb))
    go_ret
    exact ⟨rfl, HB.out⟩
  | true =>
    rw [h] at h1
    clear h
    go_enter Tryz.func128, Tryz.ntmps128
    go_wp2_with (first
      | (go_at_call 57; refine (h2 _ HB.out).mono ?_; rintro e w3 ⟨rfl, hb3⟩; have HB3 := Aside0.mk (below_then HB.out HB.out.size hb3))
      | (go_at_call 57; refine h1.mono ?_; rintro e w2 ⟨rfl, hb⟩; have HB := Aside0.mk (below_then hb0 hb0.size hb); have b2 := blk_below bP hb; have q1 := (blk_cell b2 1).trans rfl))
    go_ret
    exact ⟨ret_bool (by simp), HB3.out⟩
def fits (mode : Int) (l r a b : List Occ) : Bool := ((inb mode 0 4 && (okOs l && okOs r)) && okOs a) && okOs b
set_option maxRecDepth 100000 in
theorem pairFits_any (mode : Int) (A B C D : Option Addr) (ca cb cc cd : Nat) (l r a b : List Occ) (w : World) (hL : IsL w l A ca) (hR : IsL w r B cb) (hE : IsL w a C cc) (hI : IsL w b D cd) :
    Calls Tryz.prog 109 #[.int .i64 mode, .agg #[.slice A l.length ca, .slice B r.length cb], .slice C a.length cc, .slice D b.length cd] w fun e w' => e = .returned (.bool (fits mode l r a b)) ∧ Below w.heap.size w w' := by
  have hb0 := below_alloc (Below.refl w.heap.size w) (.cells #[.slice A l.length ca, .slice B r.length cb] 78)
  have h0 := fun w2 => isMode_any mode w2
  have h1 := pairOk_any A B ca cb l r _ (hL.below hb0) (hR.below hb0)
  have h2 := fun (w2 : World) (h : Below w.heap.size w w2) => occsOk_any C cc a w2 (hE.below h).rd
  have h3 := fun (w2 : World) (h : Below w.heap.size w w2) => occsOk_any D cd b w2 (hI.below h).rd
  unfold fits
  cases q0 : inb mode 0 4 with
  | false =>
    simp only [q0] at h0
    clear q0
    go_enter Tryz.func109, Tryz.ntmps109
    go_wp2_with (go_at_call 82; refine (h0 _).mono ?_; rintro e w2 ⟨rfl, rfl⟩)
    go_ret
    exact ⟨rfl, hb0⟩
  | true =>
    simp only [q0] at h0
    clear q0
    cases q1 : (okOs l && okOs r) with
    | false =>
      rw [q1] at h1
      clear q1
      go_enter Tryz.func109, Tryz.ntmps109
      go_wp2_with (first
        | (go_at_call 128; refine h1.mono ?_; rintro e w2 ⟨rfl, hb⟩; have HB := Aside0.mk (below_then hb0 hb0.size hb))
        | (go_at_call 82; refine (h0 _).mono ?_; rintro e w2 ⟨rfl, rfl⟩))
      go_ret
      exact ⟨rfl, HB.out⟩
    | true =>
      rw [q1] at h1
      clear q1
      cases q2 : okOs a with
      | false =>
        simp only [q2] at h2
        clear q2
        go_enter Tryz.func109, Tryz.ntmps109
        go_wp2_with (first
          | (go_at_call 57; refine (h2 _ HB.out).mono ?_; rintro e w3 ⟨rfl, hb3⟩; have HB3 := Aside0.mk (below_then HB.out HB.out.size hb3))
          | (go_at_call 128; refine h1.mono ?_; rintro e w2 ⟨rfl, hb⟩; have HB := Aside0.mk (below_then hb0 hb0.size hb))
          | (go_at_call 82; refine (h0 _).mono ?_; rintro e w2 ⟨rfl, rfl⟩))
        go_ret
        exact ⟨rfl, HB3.out⟩
      | true =>
        simp only [q2] at h2
        clear q2
        go_enter Tryz.func109, Tryz.ntmps109
        go_wp2_with (first
          | (go_at_call 57; refine (h3 _ HB3.out).mono ?_; rintro e w4 ⟨rfl, hb4⟩; have HB4 := Aside0.mk (below_then HB3.out HB3.out.size hb4))
          | (go_at_call 57; refine (h2 _ HB.out).mono ?_; rintro e w3 ⟨rfl, hb3⟩; have HB3 := Aside0.mk (below_then HB.out HB.out.size hb3))
          | (go_at_call 128; refine h1.mono ?_; rintro e w2 ⟨rfl, hb⟩; have HB := Aside0.mk (below_then hb0 hb0.size hb))
          | (go_at_call 82; refine (h0 _).mono ?_; rintro e w2 ⟨rfl, rfl⟩))
        go_ret
        exact ⟨ret_bool (by simp), HB4.out⟩
abbrev SS (w : World) (base : Nat) (ok : Nat → Prop) (v : Value) (l : List Occ) : Prop := Kd.S kO 43 w base ok v l
def ne1 (u : Value) : Nat → Prop := fun k => some k ≠ u.ownBlock
theorem SS.two {w w1 w2 : World} {u v : Value} {l m : List Occ} (h : SS w1 w.heap.size (fun _ => True) u l) (g : SS w2 w1.heap.size (fun _ => True) v m) (hb : Below w1.heap.size w1 w2) (hs : w.heap.size ≤ w1.heap.size) :
    SS w2 w.heap.size (ne1 v) u l ∧ SS w2 w.heap.size (ne1 u) v m :=
  ⟨Kd.S_mono (Kd.S_elder' h (Kd.S_base g) hb) (fun _ hk => hk.2), Kd.S_lower (Kd.S_mono (Kd.S_new' g (Kd.S_lt h)) (fun _ hk => hk.2)) hs⟩
theorem SS.set2 {w : World} {base G : Nat} {ok : Nat → Prop} {v : Value} {xs : List Occ} {t : TypeId} {cs : Array Value} (h : SS w base ok v xs) (b : w.heap[G]? = some (.cells cs t (0, 0))) (ht : ∀ q, q ∈ 43 :: kO.E → q ≠ t) (u0 u1 : Value) : SS (Id.set2 w G u0 u1) base ok v xs :=
  Kd.S_set (Kd.S_set h b ht 0 u0) (blk_set b 0 u0) ht 1 u1
end Go.Proofs.YtccenpmaooailaaGreat.Ig

/- PairSeq, PairAnd: the program's. -/
set_option linter.unusedVariables false
set_option linter.unusedSimpArgs false
namespace Go.Proofs.YtccenpmaooailaaGreat.Ih
open Go.RowKit Go.Proofs.YtccenpmaooailaaGreatW.PrintWords Go.Proofs.YtccenpmaooailaaGreat.Wd Go.Proofs.YtccenpmaooailaaGreat.Pu Go.Proofs.YtccenpmaooailaaGreat.Pv Go.Proofs.YtccenpmaooailaaGreat.Ca Go.Proofs.YtccenpmaooailaaGreat.Cb Go.Proofs.YtccenpmaooailaaGreat.Cc Go.Proofs.YtccenpmaooailaaGreat.Cp Go.Proofs.YtccenpmaooailaaGreat.Cd Go.Proofs.YtccenpmaooailaaGreat.Ci Go.Proofs.YtccenpmaooailaaGreat.Ce Go.Proofs.YtccenpmaooailaaGreat.Cf Go.Proofs.YtccenpmaooailaaGreat.Cg Go.Proofs.YtccenpmaooailaaGreat.Ia Go.Proofs.YtccenpmaooailaaGreat.Ib Go.Proofs.YtccenpmaooailaaGreat.Ic Go.Proofs.YtccenpmaooailaaGreat.Id Go.Proofs.YtccenpmaooailaaGreat.Ie Go.Proofs.YtccenpmaooailaaGreat.If Go.Proofs.YtccenpmaooailaaGreat.Ig

theorem seqLen_fold {mode : Int} {a : Nat} : ∀ {right : List Occ} {st : List Occ × List Occ} {c : Nat}, SeqLen st a c → (∀ o ∈ right, IsOk o) → SeqLen (right.foldl (seqStep mode) st) a (c + right.length * a)
  | [], st, c, h, _ => by simpa using h
  | o :: os, st, c, h, hr => by
    have := seqLen_fold (mode := mode) (right := os) (seqLen_step (mode := mode) h (hr o (by simp))) (fun x hx => hr x (List.mem_cons_of_mem _ hx))
    rw [List.foldl_cons]
    refine ⟨this.ok1, this.ok2, this.own, ?_⟩
    have h2 := this.out
    rw [List.length_cons, Nat.add_mul, Nat.one_mul]
    omega
/-- what a pair comes to at one time: its two lists, what is found -/
structure P3 where
  a : List Occ
  b : List Occ
  c : List Occ
def seq3 (mode : Int) (l r left right : List Occ) : P3 := ⟨(seqI mode l left right).1, r, (seqI mode l left right).2⟩
def and3 (mode : Int) (l r left right : List Occ) : P3 := ⟨(andI mode l r left right).own, (andI mode l r left right).oth, (andI mode l r left right).out⟩
structure Ok3 (p : P3) : Prop where
  a : AreOk p.a
  b : AreOk p.b
  c : AreOk p.c
  la : p.a.length ≤ 1048576
  lb : p.b.length ≤ 1048576
  lc : p.c.length ≤ 1048576
theorem mul_le {a b c d : Nat} (h : a ≤ c) (h2 : b ≤ d) : a * b ≤ c * d := Nat.mul_le_mul h h2
theorem seq3_ok {mode : Int} (hm : 0 ≤ mode ∧ mode ≤ 4) {l r left right : List Occ} (hl : AreOk l) (hr : AreOk r) (ha : AreOk left) (hb : AreOk right) (n1 : l.length + left.length ≤ 500) (n2 : r.length + right.length ≤ 500) : Ok3 (seq3 mode l r left right) := by
  obtain ⟨h1, h2⟩ := seqI_ok hm hl ha.all hb.all
  have h3 := seqLen_fold (mode := mode) (a := l.length) (right := right) (st := (l, [])) (c := 0) ⟨hl, AreOk.nil, Nat.le_refl _, Nat.le_refl _⟩ hb.all
  refine ⟨h1, hr, h2, ?_, by show r.length ≤ _; omega, ?_⟩
  · have h4 := len_putAll1 (right.foldl (seqStep mode) (l, [])).1 left
    have h5 := h3.own
    show (putAll _ left).length ≤ _
    omega
  · have h5 := h3.out
    have h6 : right.length * l.length ≤ 500 * 500 := mul_le (by omega) (by omega)
    show (right.foldl (seqStep mode) (l, [])).2.length ≤ _
    omega
theorem fits_iff {mode : Int} {l r a b : List Occ} : fits mode l r a b = true ↔ (0 ≤ mode ∧ mode ≤ 4) ∧ (AreOk l ∧ l.length ≤ 40) ∧ (AreOk r ∧ r.length ≤ 40) ∧ (AreOk a ∧ a.length ≤ 40) ∧ (AreOk b ∧ b.length ≤ 40) := by
  unfold fits inb
  simp only [Bool.and_eq_true, decide_eq_true_eq, okOs_iff]
  constructor
  · rintro ⟨⟨⟨h1, h2, h3⟩, h4⟩, h5⟩; exact ⟨h1, h2, h3, h4, h5⟩
  · rintro ⟨h1, h2, h3, h4, h5⟩; exact ⟨⟨⟨h1, h2, h3⟩, h4⟩, h5⟩
theorem SS.three {w1 w2 : World} {v0 v1 v2 : Value} {a b c : List Occ} {B : Nat} (h0 : SS w1 B (ne1 v1) v0 a) (h1 : SS w1 B (ne1 v0) v1 b) (h2 : SS w2 w1.heap.size (fun _ => True) v2 c) (hb : Below w1.heap.size w1 w2) (hB : B ≤ w1.heap.size) :
    SS w2 B (fun k_ => some k_ ≠ (v1 : Value).ownBlock ∧ some k_ ≠ (v2 : Value).ownBlock) v0 a ∧ SS w2 B (fun k_ => some k_ ≠ (v0 : Value).ownBlock ∧ some k_ ≠ (v2 : Value).ownBlock) v1 b ∧ SS w2 B (fun k_ => some k_ ≠ (v0 : Value).ownBlock ∧ some k_ ≠ (v1 : Value).ownBlock) v2 c := by
  refine ⟨Kd.S_elder' h0 (Kd.S_base h2) hb, Kd.S_elder' h1 (Kd.S_base h2) hb, ?_⟩
  have e0 := Kd.S_new' h2 (Kd.S_lt h0)
  have e1 := Kd.S_new' e0 (Kd.S_lt h1)
  exact Kd.S_lower (Kd.S_mono e1 (fun _ hk => ⟨hk.1.2, hk.2⟩)) hB

end Go.Proofs.YtccenpmaooailaaGreat.Ih

/- PairSeq, PairAnd: the program's. -/
set_option linter.unusedVariables false
set_option linter.unusedSimpArgs false
namespace Go.Proofs.YtccenpmaooailaaGreat.Ii
open Go.RowKit Go.Proofs.YtccenpmaooailaaGreatW.PrintWords Go.Proofs.YtccenpmaooailaaGreat.Wd Go.Proofs.YtccenpmaooailaaGreat.Pu Go.Proofs.YtccenpmaooailaaGreat.Pv Go.Proofs.YtccenpmaooailaaGreat.Ca Go.Proofs.YtccenpmaooailaaGreat.Cb Go.Proofs.YtccenpmaooailaaGreat.Cc Go.Proofs.YtccenpmaooailaaGreat.Cp Go.Proofs.YtccenpmaooailaaGreat.Cd Go.Proofs.YtccenpmaooailaaGreat.Ci Go.Proofs.YtccenpmaooailaaGreat.Ce Go.Proofs.YtccenpmaooailaaGreat.Cf Go.Proofs.YtccenpmaooailaaGreat.Cg Go.Proofs.YtccenpmaooailaaGreat.Ia Go.Proofs.YtccenpmaooailaaGreat.Ib Go.Proofs.YtccenpmaooailaaGreat.Ic Go.Proofs.YtccenpmaooailaaGreat.Id Go.Proofs.YtccenpmaooailaaGreat.Ie Go.Proofs.YtccenpmaooailaaGreat.If Go.Proofs.YtccenpmaooailaaGreat.Ig Go.Proofs.YtccenpmaooailaaGreat.Ih


end Go.Proofs.YtccenpmaooailaaGreat.Ii

/- All points in time: the program's times, at, few. -/
set_option linter.unusedVariables false
set_option linter.unusedSimpArgs false
namespace Go.Proofs.YtccenpmaooailaaGreat.Ij
open Go.RowKit Go.Proofs.YtccenpmaooailaaGreatW.PrintWords Go.Proofs.YtccenpmaooailaaGreat.Wd Go.Proofs.YtccenpmaooailaaGreat.Pu Go.Proofs.YtccenpmaooailaaGreat.Pv Go.Proofs.YtccenpmaooailaaGreat.Ca Go.Proofs.YtccenpmaooailaaGreat.Cb Go.Proofs.YtccenpmaooailaaGreat.Cc Go.Proofs.YtccenpmaooailaaGreat.Cp Go.Proofs.YtccenpmaooailaaGreat.Cd Go.Proofs.YtccenpmaooailaaGreat.Ci Go.Proofs.YtccenpmaooailaaGreat.Ce Go.Proofs.YtccenpmaooailaaGreat.Cf Go.Proofs.YtccenpmaooailaaGreat.Cg Go.Proofs.YtccenpmaooailaaGreat.Ia Go.Proofs.YtccenpmaooailaaGreat.Ib Go.Proofs.YtccenpmaooailaaGreat.Ic Go.Proofs.YtccenpmaooailaaGreat.Id Go.Proofs.YtccenpmaooailaaGreat.Ie Go.Proofs.YtccenpmaooailaaGreat.If Go.Proofs.YtccenpmaooailaaGreat.Ig Go.Proofs.YtccenpmaooailaaGreat.Ih

abbrev kL : Kd (List Occ) := Kd.slice 43 kO
theorem atL {w : World} {A : Option Addr} {n : Nat} {xs : List (List Occ)} (h : kL.C w A n xs) (k : Nat) (hk : k < n) :
    ∃ ad A0 c0, A = some ad ∧ w.cell? (ad.add k) = some (.slice A0 (xs.getD k []).length c0) ∧ IsL w (xs.getD k []) A0 c0 := by
  obtain ⟨ad, c, e, _, hK, hc0⟩ := Kd.C_get h ([] : List Occ) (k : Int) (by omega) (by omega)
  rw [Int.toNat_natCast] at hK hc0
  have hc : ∀ j u, c[j]? = some u → w.cell? (ad.add (k * 1 + j)) = some u := hc0
  obtain ⟨A0, c0, rfl, l0, g0⟩ := hK
  exact ⟨ad, A0, c0, e, by have hq := hc 0 _ rfl; rwa [Nat.mul_one, Nat.add_zero] at hq, ⟨l0, g0⟩⟩
def tos (ls : List (List Occ)) : List Int := ls.flatten.map (fun o => o.f1)
theorem flat_take {α : Type} (ls : List (List α)) (k : Nat) (h : k < ls.length) : (ls.take (k + 1)).flatten = (ls.take k).flatten ++ ls.getD k [] := by
  rw [List.take_add_one, List.flatten_append, List.getD_eq_getElem?_getD, List.getElem?_eq_getElem h]
  simp
theorem flat_len {α : Type} (ls : List (List α)) (k : Nat) (h : k < ls.length) : ((ls.take k).flatten).length + (ls.getD k []).length ≤ ls.flatten.length := by
  have h1 : ls.flatten = (ls.take (k + 1)).flatten ++ (ls.drop (k + 1)).flatten := by rw [← List.flatten_append, List.take_append_drop]
  rw [h1, flat_take ls k h]
  simp only [List.length_append]
  omega
abbrev RI (w wr : World) (v : Value) (xs : List Int) : Prop := (Kd.int .i64).R 3 wr w.heap.size (fun _ => True) v xs
def TimesOut (w w' : World) (r : List Int) (e : Ending) : Prop := ∃ A c, e = .returned (.slice A r.length c) ∧ (Kd.int .i64).C w' A r.length r ∧ Below w.heap.size w w'

set_option maxHeartbeats 2000000 in
set_option maxRecDepth 100000 in
theorem times_any (G : Option Addr) (c : Nat) (ls : List (List Occ)) (w : World) (hl : ls.flatten.length ≤ 1048576) (hG : kL.C w G ls.length ls) :
    Calls Tryz.prog 98 #[.slice G ls.length c] w fun e w' => TimesOut w w' (Lib.compact ((tos ls).mergeSort Lays.leb)) e := by
  have hll := (C_len hG).2
  go_enter Tryz.func98, Tryz.ntmps98
  go_wp2
  go_loopw [3, 10] (fun v3 vi wr => ∃ (k : Nat) (v : Value), k ≤ ls.length ∧ vi = .int .i64 k ∧ v = v3 ∧ Aside0 (RI w wr v (tos (ls.take k))) ∧ Aside0 (Below w.heap.size w wr)) (fun _ vi _ => ls.length - (intOf vi).toNat)
  case atStart => exact ⟨0, _, Nat.zero_le _, rfl, rfl, ⟨by simpa [tos] using Kd.R_nil (Kd.int .i64) 3 w w.heap.size (fun _ => True)⟩, ⟨Below.refl _ _⟩⟩
  case round =>
    obtain ⟨k, v, hk, rfl, rfl, HR, HB⟩ := hrel
    by_cases hlt : k < ls.length
    · obtain ⟨ad, A0, c0, rfl, hc0, hL0⟩ := atL hG k hlt
      have hc := pw_cell_below HB.out hc0
      have hT := flat_take ls k hlt
      have hF := flat_len ls k hlt
      generalize ls.getD k [] = l at hc hc0 hL0 hT hF
      have HT := Aside0.mk hT
      have HL := Aside0.mk hL0
      obtain ⟨P, hP⟩ : ∃ P, P = (ls.take k).flatten := ⟨_, rfl⟩
      have hR2 : RI w wr v (P.map (fun o => o.f1)) := by rw [hP]; exact HR.out
      rw [← hP] at hF
      have HP := Aside0.mk hP
      have HR2 := Aside0.mk hR2
      clear hT hL0 hP hR2 HR hc0
      generalize wr = W1 at *
      go_wp2
      go_loopw [3, 16] (fun v3 vi w2 => ∃ (j : Nat) (v' : Value), j ≤ l.length ∧ vi = .int .i64 j ∧ v' = v3 ∧ Aside0 (RI w w2 v' (P.map (fun o => o.f1) ++ (l.take j).map (fun o => o.f1))) ∧ Aside0 (Below w.heap.size w w2)) (fun _ vi _ => l.length - (intOf vi).toNat)
      case atStart => exact ⟨0, _, Nat.zero_le _, rfl, rfl, ⟨by simpa using HR2.out⟩, HB⟩
      case round =>
        obtain ⟨j, v', hj, rfl, rfl, HR3, HB3⟩ := hrel
        by_cases hlj : j < l.length
        · obtain ⟨bd, A2, c3, rfl, pa, pb, pc, pl, pC⟩ := atO (HL.out.below HB3.out).rd j hlj
          have hT2 := take_succ_getD l j zO hlj
          generalize l.getD j zO = o at pa pb pc pl pC hT2
          have HT2 := Aside0.mk (show P.map (fun o => o.f1) ++ (l.take (j + 1)).map (fun o => o.f1) = (P.map (fun o => o.f1) ++ (l.take j).map (fun o => o.f1)) ++ [o.f1] by rw [hT2, List.map_append, List.append_assoc]; rfl)
          have hlen : (P.map (fun o => o.f1) ++ (l.take j).map (fun o => o.f1)).length ≤ 1048576 := by rw [List.length_append, List.length_map, List.length_map, List.length_take]; omega
          have hbx := box3 wr (.int .i64 o.f0) (.int .i64 o.f1) (.slice A2 o.f2.length c3) 43
          have HBx := Aside0.mk (below_then HB3.out HB3.out.size hbx.1)
          have HRx := Aside0.mk (Kd.R_below HR3.out hbx.1)
          have x1 := hbx.2.2.1
          clear pl pC hT2
          go_upto_region 8 with fail
          clear hbx
          generalize wr.alloc (.cells #[.int .i64 o.f0, .int .i64 o.f1, .slice A2 o.f2.length c3] 43) = W at HBx HRx x1 ⊢
          go_wp2_with ((with_reducible refine gate_dst (N := 24) rfl ?_); refine Kd.R_append (Kd.int .i64) (w0 := w) w.heap.size rfl _ _ 41 3 (.int .i64 0) 8 rfl Tryz.underlying41 Cc.infoI rfl (by decide) (by decide) v' (P.map (fun o => o.f1) ++ (l.take j).map (fun o => o.f1)) o.f1 [.int .i64 o.f1] (fun _ => True) (fun _ => False) rfl rfl rfl (fun _ h => h.elim) (fun _ _ => trivial) HRx.out HBx.out HBx.out.size (by omega) ?_; intro v4 w4 hr4 hb4 hg4 hat4; have HR4 := Aside0.mk hr4; have HB4 := Aside0.mk hb4; have HG4 := Aside0.mk hg4; clear hr4 hb4 hg4 hat4)
          go_roundw
          case rel => exact ⟨j + 1, _, by omega, by go_num, rfl, ⟨by rw [HT2.out]; exact HR4.out⟩, HB4⟩
          case measure => simp [intOf]; omega
        · have hke : j = l.length := by omega
          subst hke
          have hR3 := HR3.out
          rw [List.take_length] at hR3
          have HR5 := Aside0.mk (show RI w wr v' (tos (ls.take (k + 1))) by unfold tos; rw [HT.out, ← HP.out, List.map_append]; exact hR3)
          have HB5 := HB3
          clear hR3
          go_wp2
          go_roundw
          case rel => exact ⟨k + 1, _, by omega, by go_num, rfl, HR5, HB5⟩
          case measure => simp [intOf]; omega
    · have hke : k = ls.length := by omega
      subst hke
      have hR := HR.out
      rw [List.take_length] at hR
      have HR6 := Aside0.mk hR
      have hln : (tos ls).length ≤ 1048576 := by unfold tos; rw [List.length_map]; exact hl
      clear hR HR
      go_wp2_with (first
        | (go_at_call 108; refine (Lays.compact_any v w.heap.size (fun _ => True) ((tos ls).mergeSort Lays.leb) _ HR7.out (by rw [List.length_mergeSort]; omega)).mono ?_; rintro e w8 ⟨v8, rfl, hr8, hat8, hg8⟩; obtain ⟨A8, c8, rfl⟩ := Kd.R_slice hr8; have HR8 := Aside0.mk hr8; have HB8 := Aside0.mk (Below.grown HB7.out hg8 HB7.out.size (fun j hj => Kd.R_base HR7.out j hj)); clear hr8 hat8 hg8)
        | (go_at_call 107; refine (Lays.sort_any v w.heap.size (fun _ => True) (tos ls) _ HR6.out (by omega)).mono ?_; rintro e w7 ⟨rfl, hr7, hg7⟩; have HR7 := Aside0.mk hr7; have HB7 := Aside0.mk (Below.grown HB.out hg7 HB.out.size (fun j hj => Kd.R_base HR6.out j hj)); clear hr7 hg7))
      go_ret
      exact ⟨A8, c8, rfl, (Kd.R_reads' HR8.out).2.2, HB8.out⟩
end Go.Proofs.YtccenpmaooailaaGreat.Ij

/- All points in time: the program's at and few; plain laws on all points in time. -/
set_option linter.unusedVariables false
set_option linter.unusedSimpArgs false
namespace Go.Proofs.YtccenpmaooailaaGreat.Ik
open Go.RowKit Go.Proofs.YtccenpmaooailaaGreatW.PrintWords Go.Proofs.YtccenpmaooailaaGreat.Wd Go.Proofs.YtccenpmaooailaaGreat.Pu Go.Proofs.YtccenpmaooailaaGreat.Pv Go.Proofs.YtccenpmaooailaaGreat.Ca Go.Proofs.YtccenpmaooailaaGreat.Cb Go.Proofs.YtccenpmaooailaaGreat.Cc Go.Proofs.YtccenpmaooailaaGreat.Cp Go.Proofs.YtccenpmaooailaaGreat.Cd Go.Proofs.YtccenpmaooailaaGreat.Ci Go.Proofs.YtccenpmaooailaaGreat.Ce Go.Proofs.YtccenpmaooailaaGreat.Cf Go.Proofs.YtccenpmaooailaaGreat.Cg Go.Proofs.YtccenpmaooailaaGreat.Ia Go.Proofs.YtccenpmaooailaaGreat.Ib Go.Proofs.YtccenpmaooailaaGreat.Ic Go.Proofs.YtccenpmaooailaaGreat.Id Go.Proofs.YtccenpmaooailaaGreat.Ie Go.Proofs.YtccenpmaooailaaGreat.If Go.Proofs.YtccenpmaooailaaGreat.Ig Go.Proofs.YtccenpmaooailaaGreat.Ih Go.Proofs.YtccenpmaooailaaGreat.Ij

theorem atT_isAt (l : List Occ) (t : Int) : l.filter (isAt t) = atT l t := rfl
def AtOut (w w' : World) (l : List Occ) (e : Ending) : Prop := ∃ A c, e = .returned (.slice A l.length c) ∧ IsL w' l A c ∧ Below w.heap.size w w'
set_option maxRecDepth 100000 in
theorem at_any (A : Option Addr) (c : Nat) (l : List Occ) (t : Int) (w : World) (hl : l.length ≤ 1048576) (hL : IsL w l A c) :
    Calls Tryz.prog 99 #[.slice A l.length c, .int .i64 t] w fun e w' => AtOut w w' (atT l t) e := by
  have hmf : ∀ (fn : Fn) (first cap : Array Value) (w : World), (Instr.makeFunc fn first cap).run Tryz.prog w = .ok (.func fn first cap) w := fun _ _ _ _ => rfl
  have hb := below_alloc (Below.refl w.heap.size w) (.cells #[.int .i64 t] 3)
  have h1 : (w.alloc (.cells #[.int .i64 t] 3)).cell? ⟨w.heap.size, 0, none⟩ = some (.int .i64 t) := by simp
  have hc := isAt_any A c w.heap.size t l _ hl (hL.below hb) h1
  rw [atT_isAt] at hc
  clear h1
  go_enter Tryz.func99, Tryz.ntmps99
  go_wp2_with (go_at_call 110; refine hc.mono ?_; rintro e w5 ⟨A5, c5, rfl, hl5, hb5⟩; have HL := Aside0.mk hl5; have HB := Aside0.mk (below_then hb hb.size hb5); clear hl5 hb5)
  go_ret
  exact ⟨A5, c5, rfl, HL.out, HB.out⟩
/-- what is told of a list, if it is not too long -/
def told (l : List Occ) : List Occ × Bool := if l.length > 40 then ([], false) else (l, true)
def ToldOut (w w' : World) (p : List Occ × Bool) (e : Ending) : Prop := ∃ v, e = .returned (.tuple #[v, .bool p.2]) ∧ SS w' w.heap.size (fun _ => True) v p.1 ∧ Below w.heap.size w w'
set_option maxRecDepth 100000 in
theorem few_any (A : Option Addr) (c : Nat) (l : List Occ) (w : World) (hi : ∀ x ∈ l, x.f2.length ≤ 1048576) (hL : IsL w l A c) :
    Calls Tryz.prog 70 #[.slice A l.length c] w fun e w' => ToldOut w w' (told l) e := by
  by_cases h : l.length > 40
  · have d1 : decide ((l.length : Int) > 40) = true := decide_eq_true (by omega)
    have HE := Aside0.mk (show told l = ([], false) by unfold told; rw [if_pos h])
    go_enter Tryz.func70, Tryz.ntmps70
    go_wp2
    go_ret2
    exact ⟨.slice none 0 0, by rw [HE.out]; rfl, by rw [HE.out]; exact Kd.S_nil _ _ _ _ _, Below.refl _ _⟩
  · have d1 : decide ((l.length : Int) > 40) = false := decide_eq_false (by omega)
    have HE := Aside0.mk (show told l = (l, true) by unfold told; rw [if_neg h])
    have hc := cloneOccs_any A c l w (by omega) hi hL
    go_enter Tryz.func70, Tryz.ntmps70
    go_wp2_with (go_at_call 46; refine hc.mono ?_; rintro e w5 ⟨v2, rfl, hs5, hb5⟩; have HS := Aside0.mk hs5; have HB := Aside0.mk hb5; clear hs5 hb5)
    go_ret2
    exact ⟨v2, by rw [HE.out]; rfl, by rw [HE.out]; exact HS.out, HB.out⟩

theorem merge_mem (l : List Int) (z : Int) : z ∈ l.mergeSort Lays.leb ↔ z ∈ l := List.mem_mergeSort
theorem times_tms {ls : List (List Occ)} (h : ∀ o ∈ ls.flatten, IsOk o) : Lib.compact ((tos ls).mergeSort Lays.leb) = tms ls.flatten := by
  obtain ⟨h1, h2⟩ := comp_sorted _ (sorted_merge (tos ls))
  refine tms_of h h1 (fun z => ?_)
  rw [h2, merge_mem]
  unfold tos
  rw [List.mem_map]

/-! all points in time, plain -/
def sumAt (l : List Occ) (ts : List Int) : Nat := (ts.map (fun t => (atT l t).length)).sum
theorem sumAt_le : ∀ {ts : List Int} {l : List Occ}, Asc ts → sumAt l ts ≤ l.length
  | [], l, _ => by simp [sumAt]
  | t :: ts, l, h => by
    obtain ⟨h1, h2⟩ := List.pairwise_cons.1 h
    have ih := sumAt_le (ts := ts) (l := l.filter (fun o => !decide (o.f1 = t))) h2
    have he : sumAt (l.filter (fun o => !decide (o.f1 = t))) ts = sumAt l ts := by
      unfold sumAt
      congr 1
      refine List.map_congr_left (fun u hu => ?_)
      unfold atT
      rw [List.filter_filter]
      congr 1
      refine List.filter_congr (fun o _ => ?_)
      have := h1 u hu
      by_cases e : o.f1 = u
      · simp [e]; omega
      · simp [e]
    rw [he] at ih
    have hs : (l.filter (fun o => decide (o.f1 = t))).length + (l.filter (fun o => !decide (o.f1 = t))).length = l.length := by
      clear he ih h h1 h2
      induction l with
      | nil => simp
      | cons x xs ihx => by_cases e : x.f1 = t <;> simp [e] <;> omega
    have hz : sumAt l (t :: ts) = (l.filter (fun o => decide (o.f1 = t))).length + sumAt l ts := by
      unfold sumAt atT
      rw [List.map_cons, List.sum_cons]
    omega
theorem sumAt_take {l : List Occ} {ts : List Int} {k : Nat} (h : k < ts.length) : sumAt l (ts.take (k + 1)) = sumAt l (ts.take k) + (atT l (ts.getD k 0)).length := by
  unfold sumAt
  rw [List.take_add_one, List.map_append, List.sum_append, List.getD_eq_getElem?_getD, List.getElem?_eq_getElem h]
  simp
theorem sumAt_mono {l : List Occ} {ts : List Int} (h : Asc ts) (k : Nat) : sumAt l (ts.take k) ≤ l.length := sumAt_le (h.sublist (List.take_sublist _ _))
def bothStep (stp : List Occ → List Occ → List Occ → List Occ → P3) (a b : List Occ) (st : P3) (t : Int) : P3 :=
  ⟨(stp st.a st.b (atT a t) (atT b t)).a, (stp st.a st.b (atT a t) (atT b t)).b, putAll st.c (stp st.a st.b (atT a t) (atT b t)).c⟩
def both (stp : List Occ → List Occ → List Occ → List Occ → P3) (a b : List Occ) (ts : List Int) : P3 := ts.foldl (bothStep stp a b) ⟨[], [], []⟩
theorem both_take {stp : List Occ → List Occ → List Occ → List Occ → P3} {a b : List Occ} {ts : List Int} {k : Nat} (h : k < ts.length) : both stp a b (ts.take (k + 1)) = bothStep stp a b (both stp a b (ts.take k)) (ts.getD k 0) := by
  unfold both
  rw [List.take_add_one, List.foldl_append, List.getD_eq_getElem?_getD, List.getElem?_eq_getElem h]
  rfl
/-- what a step must keep -/
structure StepOk (stp : List Occ → List Occ → List Occ → List Occ → P3) : Prop where
  ok : ∀ {l r a b}, AreOk l → AreOk r → AreOk a → AreOk b → l.length + a.length ≤ 500 → r.length + b.length ≤ 500 → Ok3 (stp l r a b)
  la : ∀ {l r a b}, AreOk l → AreOk r → AreOk a → AreOk b → (stp l r a b).a.length ≤ l.length + a.length
  lb : ∀ {l r a b}, AreOk l → AreOk r → AreOk a → AreOk b → (stp l r a b).b.length ≤ r.length + b.length
  lc : ∀ {l r a b}, AreOk l → AreOk r → AreOk a → AreOk b → l.length + a.length ≤ 40 → r.length + b.length ≤ 40 → (stp l r a b).c.length ≤ 40 * (a.length + b.length)
structure BothOk (a b : List Occ) (ts : List Int) (st : P3) : Prop where
  ka : AreOk st.a
  kb : AreOk st.b
  kc : AreOk st.c
  la : st.a.length ≤ sumAt a ts
  lb : st.b.length ≤ sumAt b ts
  lc : st.c.length ≤ 40 * (sumAt a ts + sumAt b ts)
theorem bothOk_step {stp : List Occ → List Occ → List Occ → List Occ → P3} (hs : StepOk stp) {a b : List Occ} (ha : AreOk a) (hb : AreOk b) (na : a.length ≤ 40) (nb : b.length ≤ 40) {ts : List Int} (hts : Asc ts) {k : Nat} (hk : k < ts.length) {st : P3} (h : BothOk a b (ts.take k) st) :
    BothOk a b (ts.take (k + 1)) (bothStep stp a b st (ts.getD k 0)) ∧ st.a.length + (atT a (ts.getD k 0)).length ≤ 40 ∧ st.b.length + (atT b (ts.getD k 0)).length ≤ 40 := by
  have e1 := sumAt_take (l := a) hk
  have e2 := sumAt_take (l := b) hk
  have m1 := sumAt_mono (l := a) hts (k + 1)
  have m2 := sumAt_mono (l := b) hts (k + 1)
  have h1 := h.la; have h2 := h.lb; have h3 := h.lc
  have hta : AreOk (atT a (ts.getD k 0)) := ha.filter _
  have htb : AreOk (atT b (ts.getD k 0)) := hb.filter _
  have b1 : st.a.length + (atT a (ts.getD k 0)).length ≤ 40 := by omega
  have b2 : st.b.length + (atT b (ts.getD k 0)).length ≤ 40 := by omega
  have ho := hs.ok h.ka h.kb hta htb (by omega) (by omega)
  have l1 := hs.la h.ka h.kb hta htb
  have l2 := hs.lb h.ka h.kb hta htb
  have l3 := hs.lc h.ka h.kb hta htb b1 b2
  have l4 := len_putAll1 st.c (stp st.a st.b (atT a (ts.getD k 0)) (atT b (ts.getD k 0))).c
  refine ⟨⟨ho.a, ho.b, h.kc.putAll ho.c.all, ?_, ?_, ?_⟩, b1, b2⟩
  · show (stp st.a st.b _ _).a.length ≤ _; omega
  · show (stp st.a st.b _ _).b.length ≤ _; omega
  · show (putAll st.c _).length ≤ _; omega
theorem bothOk_nil (a b : List Occ) (ts : List Int) : BothOk a b (ts.take 0) ⟨[], [], []⟩ := ⟨AreOk.nil, AreOk.nil, AreOk.nil, Nat.zero_le _, Nat.zero_le _, Nat.zero_le _⟩
theorem both_ok {stp : List Occ → List Occ → List Occ → List Occ → P3} (hs : StepOk stp) {a b : List Occ} (ha : AreOk a) (hb : AreOk b) (na : a.length ≤ 40) (nb : b.length ≤ 40) {ts : List Int} (hts : Asc ts) : ∀ k, k ≤ ts.length → BothOk a b (ts.take k) (both stp a b (ts.take k))
  | 0, _ => bothOk_nil a b ts
  | k + 1, h => by
    rw [both_take (by omega)]
    exact (bothOk_step hs ha hb na nb hts (by omega) (both_ok hs ha hb na nb hts k (by omega))).1
theorem seq3_step {mode : Int} (hm : 0 ≤ mode ∧ mode ≤ 4) : StepOk (seq3 mode) := by
  refine ⟨fun hl hr ha hb n1 n2 => seq3_ok hm hl hr ha hb n1 n2, ?_, ?_, ?_⟩
  · intro l r a b hl hr ha hb
    have h3 := seqLen_fold (mode := mode) (a := l.length) (right := b) (st := (l, [])) (c := 0) ⟨hl, AreOk.nil, Nat.le_refl _, Nat.le_refl _⟩ hb.all
    have h4 := len_putAll1 (b.foldl (seqStep mode) (l, [])).1 a
    have h5 := h3.own
    show (putAll _ a).length ≤ _
    omega
  · intro l r a b hl hr ha hb
    show r.length ≤ _
    omega
  · intro l r a b hl hr ha hb n1 n2
    have h3 := seqLen_fold (mode := mode) (a := l.length) (right := b) (st := (l, [])) (c := 0) ⟨hl, AreOk.nil, Nat.le_refl _, Nat.le_refl _⟩ hb.all
    have h5 := h3.out
    have h6 : b.length * l.length ≤ b.length * 40 := Nat.mul_le_mul_left _ (by omega)
    show (b.foldl (seqStep mode) (l, [])).2.length ≤ _
    omega
end Go.Proofs.YtccenpmaooailaaGreat.Ik
