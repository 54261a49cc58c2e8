/- What is put into a list of occurrences comes to. -/
import Derived.Test.YtjeojdbfpncnkaaCi
set_option linter.unusedVariables false
set_option linter.unusedSimpArgs false
namespace Go.Proofs.Ytjeojdbfpncnkaa.Ce
open Go.RowKit Go.Proofs.YtjeojdbfpncnkaaW.PrintWords Go.Proofs.Ytjeojdbfpncnkaa.Wd Go.Proofs.Ytjeojdbfpncnkaa.Pu Go.Proofs.Ytjeojdbfpncnkaa.Ca Go.Proofs.Ytjeojdbfpncnkaa.Cp Go.Proofs.Ytjeojdbfpncnkaa.Cd Go.Proofs.Ytjeojdbfpncnkaa.Ci

theorem at_hit {l : List Occ} {o : Occ} {p : Nat} (hs : Sorted l) (h : At l o p) (hh : hit l o p = true) : put l o = l := by
  unfold hit at hh
  simp only [Bool.and_eq_true, decide_eq_true_eq] at hh
  have e := (cmpO_eq _ _).1 hh.2
  exact put_mem hs (by rw [← e, List.getD_eq_getElem?_getD, List.getElem?_eq_getElem hh.1]; exact List.getElem_mem _)
theorem at_ins {l : List Occ} {o : Occ} {p : Nat} (hs : Sorted l) (h : At l o p) (hh : hit l o p = false) : insO l p o = put l o := by
  have hi : ∀ j, p ≤ j → j < l.length → lt o (l.getD j zO) := by
    intro j hj hjl
    have hp : p < l.length := by omega
    have hne : cmpO (l.getD p zO) o ≠ 0 := by
      intro e
      have ht : hit l o p = true := by
        unfold hit
        rw [e]
        simp [hp]
      rw [ht] at hh
      cases hh
    have h1 : lt o (l.getD p zO) := by
      rcases lt_tri (l.getD p zO) o with e | e | e
      · exact absurd e (h.hi p (Nat.le_refl _) hp)
      · exact absurd ((cmpO_eq _ _).2 e) hne
      · exact e
    by_cases e : j = p
    · rw [e]; exact h1
    · exact lt_trans h1 (sorted_getD hs (by omega) hjl)
  refine sorted_ext ?_ (sorted_put hs) (fun z => ?_)
  · unfold insO Sorted
    refine List.pairwise_append.2 ⟨hs.sublist (List.take_sublist _ _), List.pairwise_cons.2 ⟨?_, hs.sublist (List.drop_sublist _ _)⟩, ?_⟩
    · intro x hx
      obtain ⟨j, hj, rfl⟩ := List.mem_iff_getElem.1 hx
      rw [List.length_drop] at hj
      have := hi (p + j) (by omega) (by omega)
      rw [List.getD_eq_getElem?_getD, List.getElem?_eq_getElem (by omega)] at this
      simpa using this
    · intro x hx y hy
      obtain ⟨j, hj, rfl⟩ := List.mem_iff_getElem.1 hx
      rw [List.length_take] at hj
      have h1 := h.lo j (by omega)
      rw [List.getD_eq_getElem?_getD, List.getElem?_eq_getElem (by omega)] at h1
      replace h1 : lt (List.take p l)[j] o := by simpa using h1
      rcases List.mem_cons.1 hy with rfl | hy
      · exact h1
      · obtain ⟨k, hk, rfl⟩ := List.mem_iff_getElem.1 hy
        rw [List.length_drop] at hk
        have h2 := hi (p + k) (by omega) (by omega)
        rw [List.getD_eq_getElem?_getD, List.getElem?_eq_getElem (by omega)] at h2
        exact lt_trans h1 (by simpa using h2)
  · rw [mem_put]
    unfold insO
    rw [List.mem_append, List.mem_cons]
    conv => rhs; rw [← List.take_append_drop p l, List.mem_append]
    constructor
    · rintro (h | h | h)
      · exact .inr (.inl h)
      · exact .inl h
      · exact .inr (.inr h)
    · rintro (h | h | h)
      · exact .inr (.inl h)
      · exact .inl h
      · exact .inr (.inr h)
theorem len_put (l : List Occ) (o : Occ) : (put l o).length ≤ l.length + 1 := by
  induction l with
  | nil => simp [put]
  | cons x l ih => unfold put; repeat' split
                   all_goals simp; try omega
/-- a list that was read by a memory is read by a later one -/
theorem C_fixed {α : Type} {d : Kd α} {w w' : World} {A : Option Addr} {n : Nat} {xs : List α} (h : (Kd.fixed d w).C w' A n xs) (hb : Below w.heap.size w w') : d.C w' A n xs :=
  ⟨h.1, h.2.1, fun h0 => by obtain ⟨ad, e, hc⟩ := h.2.2 h0; exact ⟨ad, e, fun j p hj => by obtain ⟨c, h1, h2, h3⟩ := hc j p hj; exact ⟨c, h1, d.K_below hb h2, h3⟩⟩⟩
theorem keepD {W w3 : World} (h : Below W.drew.heap.size W.drew w3) : Below W.heap.size W w3 := ⟨h.os, h.tape, h.output, h.size, h.block⟩
theorem keepA {W w3 : World} {ob : Obj} (h : Below (W.alloc ob).drew.heap.size (W.alloc ob).drew w3) : Below W.heap.size W w3 := below_then (below_alloc (Below.refl _ _) ob) (by simp) (keepD h)

set_option maxHeartbeats 2000000 in
set_option maxRecDepth 100000 in
theorem put_any (A B : Option Addr) (c c2 : Nat) (l : List Occ) (o : Occ) (w : World) (hs : Sorted l) (hl : l.length ≤ 1048576) (hlc : l.length ≤ c) (hr : kO.C w A l.length l) (ho : IsO w o B c2) :
    Calls Try.prog 42 #[.slice A l.length c, .agg #[.int .i64 o.f0, .int .i64 o.f1, .slice B o.f2.length c2]] w fun e w' =>
      ∃ A' c', e = .returned (.slice A' (put l o).length c') ∧ (put l o).length ≤ c' ∧ kO.C w' A' (put l o).length (put l o) ∧ Below w.heap.size w w' := by
  have k0 : (w.alloc (.cells #[.int .i64 o.f0, .int .i64 o.f1, .slice B o.f2.length c2] 25)).cell? ⟨w.heap.size, 0, none⟩ = some (.int .i64 o.f0) := by simp
  have k1 : (w.alloc (.cells #[.int .i64 o.f0, .int .i64 o.f1, .slice B o.f2.length c2] 25)).cell? ⟨w.heap.size, 1, none⟩ = some (.int .i64 o.f1) := by simp
  have k2 : (w.alloc (.cells #[.int .i64 o.f0, .int .i64 o.f1, .slice B o.f2.length c2] 25)).cell? ⟨w.heap.size, 2, none⟩ = some (.slice B o.f2.length c2) := by simp
  have hb0 := below_alloc (Below.refl w.heap.size w) (.cells #[.int .i64 o.f0, .int .i64 o.f1, .slice B o.f2.length c2] 25)
  go_enter Try.func42, Try.ntmps42
  go_wp2_with ((go_at_call 78; refine (bs_any A B c c2 l o _ hs hl (Kd.C_below hr hb0) (ho.below hb0)).mono ?_; rintro e w1 ⟨p, hAt, rfl, hb1⟩; have q0 := pw_cell_below hb1 k0; have q1 := pw_cell_below hb1 k1; have q2 := pw_cell_below hb1 k2; have HB := Aside0.mk (below_then hb0 hb0.size hb1); have HA := Aside0.mk hAt; clear hb1 hAt; cases hhit : hit l o p))
  all_goals have HH := Aside0.mk hhit; clear hhit
  · have hE := at_ins hs HA.out HH.out
    have hple := HA.out.le
    have hrW := Kd.C_below hr HB.out
    have hoW := ho.below HB.out
    have hHW : w.heap.size < w1.heap.size := World.block_lt_of_cell? w1 _ q0
    clear k0 k1 k2 hb0 hr ho
    have hn1 : w.heap.size ≠ w1.heap.size := by omega
    have d0 : w1.drew.cell? ⟨w.heap.size, 0, none⟩ = some (.int .i64 o.f0) := q0
    have d1 : w1.drew.cell? ⟨w.heap.size, 1, none⟩ = some (.int .i64 o.f1) := q1
    have d2 : w1.drew.cell? ⟨w.heap.size, 2, none⟩ = some (.slice B o.f2.length c2) := q2
    have a0 := fun ob => pw_cell_below (below_alloc (Below.refl w1.heap.size w1) ob) q0
    have a1 := fun ob => pw_cell_below (below_alloc (Below.refl w1.heap.size w1) ob) q1
    have a2 := fun ob => pw_cell_below (below_alloc (Below.refl w1.heap.size w1) ob) q2
    have g0 := fun ob => pw_cell_below (below_drew (below_alloc (Below.refl w1.heap.size w1) ob)) q0
    have g1 := fun ob => pw_cell_below (below_drew (below_alloc (Below.refl w1.heap.size w1) ob)) q1
    have g2 := fun ob => pw_cell_below (below_drew (below_alloc (Below.refl w1.heap.size w1) ob)) q2
    go_wp2
    go_region_held3 (fun w' => w'.cell? ⟨w.heap.size, 0, none⟩ = some (.int .i64 o.f0) ∧ w'.cell? ⟨w.heap.size, 1, none⟩ = some (.int .i64 o.f1) ∧ w'.cell? ⟨w.heap.size, 2, none⟩ = some (.slice B o.f2.length c2)) (first | (with_reducible exact ⟨d0, d1, d2⟩) | (with_reducible exact ⟨f0, f1, f2⟩) | (with_reducible exact ⟨e0, e1, e2⟩) | (with_reducible exact ⟨a0 _, a1 _, a2 _⟩) | (with_reducible exact ⟨g0 _, g1 _, g2 _⟩) | (with_reducible exact ⟨pw_cell_below (below_alloc (Below.refl _ _) _) e0, pw_cell_below (below_alloc (Below.refl _ _) _) e1, pw_cell_below (below_alloc (Below.refl _ _) _) e2⟩))
      (first
        | (go_at_call 80; refine (cloneS_any A c l _ hl hlc (by first | exact Kd.C_drew hrW | exact Kd.C_drew (Kd.C_below hrW (below_alloc (Below.refl _ _) _)))).mono ?_; rintro e w3 ⟨v3, rfl, hR3, hb3⟩; have hk3 : Below w1.heap.size w1 w3 := by { first | exact keepD hb3 | exact keepA hb3 }; have e0 := pw_cell_below hk3 q0; have e1 := pw_cell_below hk3 q1; have e2 := pw_cell_below hk3 q2)
        | (go_at_call 79; refine (insert_any w1.drew w1.heap.size (fun _ => True) v3 l p o w3.heap.size [.int .i64 o.f0, .int .i64 o.f1, .slice B o.f2.length c2] _ hl hple (Kd.R_alloc hR3 _) (blk_new _ _) (kO_mk w1.drew o hoW.1 hoW.2) (fun h => by have := Kd.R_lt hR3 _ h.symm; omega) (Nat.le_trans hk3.size (by simp)) (fun _ _ => trivial)).mono ?_; rintro e w4 ⟨v4, rfl, hR4, hg4⟩; obtain ⟨A4, c4, rfl⟩ := Kd.R_slice hR4; have hk4 : Below w1.heap.size w1 w4 := Below.grown (hk3.alloc hk3.size _) hg4 (Nat.le_trans hk3.size (by simp)) (fun k hk => Kd.R_base hR3 k hk); have hkf : Below w1.drew.heap.size w1.drew w4 := ⟨hk4.os, hk4.tape, hk4.output, hk4.size, hk4.block⟩; have f0 := pw_cell_below hk4 q0; have f1 := pw_cell_below hk4 q1; have f2 := pw_cell_below hk4 q2)
        | (go_at_call 79; refine (insert_any _ _ (fun _ => True) v3 l p o w1.heap.size [.int .i64 o.f0, .int .i64 o.f1, .slice B o.f2.length c2] _ hl hple hR3 (blk_below (blk_drew (blk_new _ _)) hb3) (kO_mk _ o hoW.1 (Kd.C_drew (Kd.C_below hoW.2 (below_alloc (Below.refl _ _) _)))) (fun h => by have h1 := Kd.R_base hR3 _ h.symm; have h2 : w1.heap.size + 1 ≤ w1.heap.size := by { simpa using h1 }; omega) hb3.size (fun _ _ => trivial)).mono ?_; rintro e w4 ⟨v4, rfl, hR4, hg4⟩; obtain ⟨A4, c4, rfl⟩ := Kd.R_slice hR4; have hk4 : Below w1.heap.size w1 w4 := Below.grown hk3 hg4 hk3.size (fun k hk => by have h1 := Kd.R_base hR3 k hk; have h2 : w1.heap.size + 1 ≤ k := by { simpa using h1 }; omega); have hkf := Below.grown hb3 hg4 hb3.size (fun k hk => Kd.R_base hR3 k hk); have f0 := pw_cell_below hk4 q0; have f1 := pw_cell_below hk4 q1; have f2 := pw_cell_below hk4 q2))
    all_goals
      go_wp2
      go_ret
      rw [← hE]
      have hq := Kd.R_reads' hR4
      exact ⟨A4, c4, rfl, hq.2.1, C_fixed hq.2.2 hkf, below_then HB.out HB.out.size hk4⟩
  · have hE := at_hit hs HA.out HH.out
    go_wp2
    go_ret
    exact ⟨A, c, by rw [hE]; rfl, by rw [hE]; exact hlc, by rw [hE]; exact Kd.C_below hr HB.out, HB.out⟩
end Go.Proofs.Ytjeojdbfpncnkaa.Ce
