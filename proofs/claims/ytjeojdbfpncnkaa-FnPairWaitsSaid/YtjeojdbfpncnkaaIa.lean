/- Lists without some, lists of those that hold: the program's. -/
import Derived.Test.YtjeojdbfpncnkaaCf
import Derived.Test.YtjeojdbfpncnkaaPv
set_option linter.unusedVariables false
set_option linter.unusedSimpArgs false
namespace Go.Proofs.Ytjeojdbfpncnkaa.Ia
open Go.RowKit Go.Proofs.YtjeojdbfpncnkaaW.PrintWords Go.Proofs.Ytjeojdbfpncnkaa.Wd Go.Proofs.Ytjeojdbfpncnkaa.Pu Go.Proofs.Ytjeojdbfpncnkaa.Pv Go.Proofs.Ytjeojdbfpncnkaa.Ca Go.Proofs.Ytjeojdbfpncnkaa.Cp Go.Proofs.Ytjeojdbfpncnkaa.Cd Go.Proofs.Ytjeojdbfpncnkaa.Ci Go.Proofs.Ytjeojdbfpncnkaa.Ce Go.Proofs.Ytjeojdbfpncnkaa.Cf

/-- a list of one's own whose occurrences came in by w -/
abbrev Fx (w wr : World) (v : Value) (l : List Occ) : Prop := (Kd.fixed kO w).R 25 wr w.heap.size (fun _ => True) v l
theorem Fx.isL {w wr : World} {A : Option Addr} {n c : Nat} {l : List Occ} (h : Fx w wr (.slice A n c) l) (hb : Below w.heap.size w wr) : n = l.length ∧ IsL wr l A c := by
  have hq := Kd.R_reads' h
  refine ⟨hq.1, ⟨by have := hq.2.1; omega, C_fixed hq.2.2 hb⟩⟩
theorem Fx.nil (w wr : World) : Fx w wr (.slice none 0 0) [] := Kd.R_nil _ _ _ _ _
theorem filter_snoc (p : Occ → Bool) (l : List Occ) (o : Occ) : (l ++ [o]).filter p = if p o then l.filter p ++ [o] else l.filter p := by
  rw [List.filter_append]
  cases h : p o <;> simp [h]
theorem hit_mem {l : List Occ} {o : Occ} {p : Nat} (hs : Sorted l) (h : At l o p) : hit l o p = decide (o ∈ l) := by
  cases hh : hit l o p with
  | true =>
    unfold hit at hh
    simp only [Bool.and_eq_true, decide_eq_true_eq] at hh
    have e := (cmpO_eq _ _).1 hh.2
    rw [eq_comm, decide_eq_true_eq, ← e]
    exact getD_mem hh.1
  | false =>
    rw [eq_comm, decide_eq_false_iff_not]
    intro hm
    obtain ⟨j, hj, e⟩ := List.mem_iff_getElem.1 hm
    have e2 : l.getD j zO = o := by rw [List.getD_eq_getElem?_getD, List.getElem?_eq_getElem hj]; exact e
    by_cases h1 : j < p
    · have := h.lo j h1
      rw [e2] at this
      exact lt_irrefl _ this
    · by_cases h2 : j = p
      · have hc : hit l o p = true := by unfold hit; rw [← h2, e2, cmpO_refl]; simp; omega
        rw [hc] at hh; cases hh
      · have h3 := sorted_getD hs (i := p) (j := j) (by omega) hj
        rw [e2] at h3
        exact h.hi p (Nat.le_refl _) (by omega) h3

set_option maxHeartbeats 1000000 in
set_option maxRecDepth 100000 in
theorem without_any (A B : Option Addr) (c c2 : Nat) (l m : List Occ) (w : World) (hs : Sorted m) (hm : m.length ≤ 1048576) (hl : l.length ≤ 1048576) (hL : IsL w l A c) (hM : IsL w m B c2) :
    Calls Try.prog 86 #[.slice A l.length c, .slice B m.length c2] w fun e w' =>
      ∃ A' c', e = .returned (.slice A' (without l m).length c') ∧ IsL w' (without l m) A' c' ∧ Below w.heap.size w w' := by
  go_enter Try.func86, Try.ntmps86
  go_wp2
  go_loopw [5, 12] (fun v5 vi wr => ∃ (k : Nat) (v : Value), k ≤ l.length ∧ vi = .int .i64 k ∧ v = v5 ∧ Aside0 (Fx w wr v (without (l.take k) m)) ∧ Aside0 (Below w.heap.size w wr)) (fun _ vi _ => l.length - (intOf vi).toNat)
  case atStart => exact ⟨0, _, Nat.zero_le _, rfl, rfl, ⟨by simpa [without] using Fx.nil w w⟩, ⟨Below.refl _ _⟩⟩
  case round =>
    obtain ⟨k, v, hk, rfl, rfl, HF, HB⟩ := hrel
    by_cases hlt : k < l.length
    · obtain ⟨ad, A2, c3, rfl, ha, hb, hc, hl2, hC2⟩ := atO (hL.below HB.out).rd k hlt
      obtain ⟨ad0, A20, c30, e0, ha0, hb0, hc0, hl20, hC20⟩ := atO hL.rd k hlt
      cases e0
      have hsame : A20 = A2 ∧ c30 = c3 := by have := pw_cell_below HB.out hc0; rw [hc] at this; injection this with this; injection this with h1 h2 h3; exact ⟨h1.symm, h3.symm⟩
      obtain ⟨rfl, rfl⟩ := hsame
      have hT := take_succ_getD l k zO hlt
      have hIs : IsO wr (l.getD k zO) A20 c30 := ⟨hl2, hC2⟩
      have hIw : IsO w (l.getD k zO) A20 c30 := ⟨hl20, hC20⟩
      have hln : (without (l.take k) m).length ≤ k := by unfold without; exact Nat.le_trans (List.length_filter_le _ _) (by rw [List.length_take]; omega)
      clear hl2 hC2 hl20 hC20 ha0 hb0 hc0
      generalize l.getD k zO = o at ha hb hc hIs hIw hT
      have HT := Aside0.mk (show without (l.take (k + 1)) m = if (!decide (o ∈ m)) then without (l.take k) m ++ [o] else without (l.take k) m by rw [hT]; exact filter_snoc _ _ _)
      clear hT
      have hbx := (box3 wr (.int .i64 o.f0) (.int .i64 o.f1) (.slice A20 o.f2.length c30) 25).1
      have hown : ∀ j, v.ownBlock = some j → j < wr.heap.size := Kd.R_lt HF.out
      go_wp2_with (first
        | (go_at_call 78; refine (bs_any B A20 c2 c30 m o _ hs hm (hM.below (below_then HB.out HB.out.size hbx)).rd (hIs.below hbx)).mono ?_; rintro e w1 ⟨p, hAt, rfl, hb1⟩; rw [hit_mem hs hAt]; have HB1 := Aside0.mk (below_then hbx hbx.size hb1); have q0 := pw_cell_below hb1 (box3 wr (.int .i64 o.f0) (.int .i64 o.f1) (.slice A20 o.f2.length c30) 25).2.1; have q1 := pw_cell_below hb1 (box3 wr (.int .i64 o.f0) (.int .i64 o.f1) (.slice A20 o.f2.length c30) 25).2.2.1; have q2 := pw_cell_below hb1 (box3 wr (.int .i64 o.f0) (.int .i64 o.f1) (.slice A20 o.f2.length c30) 25).2.2.2; clear hb1 hAt; cases hd : decide (o ∈ m))
        | ((with_reducible refine gate_dst (N := 27) rfl ?_); refine Kd.R_append (Kd.fixed kO w) (w0 := w) w.heap.size rfl _ _ 27 25 (.agg #[.int .i64 0, .int .i64 0, .slice none 0 0]) 40 rfl Try.underlying27 infoO rfl (szO w) (by decide) v (without (l.take k) m) o [.int .i64 o.f0, .int .i64 o.f1, .slice A20 o.f2.length c30] (fun _ => True) (fun _ => False) rfl rfl (kO_mk w o hIw.1 hIw.2) (fun _ h => h.elim) (fun _ _ => trivial) (Kd.R_below HF.out HB1.out) (below_then HB.out HB.out.size HB1.out) (Nat.le_trans HB.out.size HB1.out.size) (by omega) ?_; intro v3 w3 hs3 hb3 _ _; have HS3 := Aside0.mk hs3; have HB3 := Aside0.mk hb3; clear hs3 hb3))
      · go_roundw
        case rel => exact ⟨k + 1, _, by omega, by go_num, rfl, ⟨by rw [HT.out, hd]; exact HS3.out⟩, HB3⟩
        case measure => simp [intOf]; omega
      · go_roundw
        case rel => exact ⟨k + 1, _, by omega, by go_num, rfl, ⟨by rw [HT.out, hd]; exact Kd.R_below HF.out HB1.out⟩, ⟨below_then HB.out HB.out.size HB1.out⟩⟩
        case measure => simp [intOf]; omega
    · have hke : k = l.length := by omega
      subst hke
      have HL := HF.out
      rw [List.take_length] at HL
      obtain ⟨A9, c9, rfl⟩ := Kd.R_slice HL
      have HX := Aside0.mk (Fx.isL HL HB.out)
      clear HL
      go_wp2
      go_ret
      exact ⟨A9, c9, rfl, HX.out.2, HB.out⟩
end Go.Proofs.Ytjeojdbfpncnkaa.Ia
