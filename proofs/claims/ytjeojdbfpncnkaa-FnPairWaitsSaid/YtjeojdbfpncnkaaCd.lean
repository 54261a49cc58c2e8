/- What a search in a list of occurrences comes to, and what is put into one. One walk each. -/
import Derived.Test.YtjeojdbfpncnkaaCc
set_option linter.unusedVariables false
set_option linter.unusedSimpArgs false
namespace Go.Proofs.Ytjeojdbfpncnkaa.Cd
open Go.RowKit Go.Proofs.YtjeojdbfpncnkaaW.PrintWords Go.Proofs.Ytjeojdbfpncnkaa.Wd Go.Proofs.Ytjeojdbfpncnkaa.Pu Go.Proofs.Ytjeojdbfpncnkaa.Ca

/-- where o is, or would be -/
structure At (l : List Occ) (o : Occ) (p : Nat) : Prop where
  le : p ≤ l.length
  lo : ∀ j, j < p → lt (l.getD j zO) o
  hi : ∀ j, p ≤ j → j < l.length → ¬ lt (l.getD j zO) o
theorem sorted_getD {l : List Occ} (h : Sorted l) {i j : Nat} (hij : i < j) (hj : j < l.length) : lt (l.getD i zO) (l.getD j zO) := by
  rw [List.getD_eq_getElem?_getD, List.getD_eq_getElem?_getD, List.getElem?_eq_getElem (by omega), List.getElem?_eq_getElem hj]
  exact List.pairwise_iff_getElem.1 h i j (by omega) hj hij
def hit (l : List Occ) (o : Occ) (p : Nat) : Bool := decide (p < l.length) && decide (cmpO (l.getD p zO) o = 0)

set_option maxRecDepth 100000 in
theorem bs_any (A B : Option Addr) (c c2 : Nat) (l : List Occ) (o : Occ) (w : World) (hs : Sorted l) (hl : l.length ≤ 1048576) (hr : kO.C w A l.length l) (ho : IsO w o B c2) :
    Calls Try.prog 78 #[.slice A l.length c, .agg #[.int .i64 o.f0, .int .i64 o.f1, .slice B o.f2.length c2], .func (.func 53) #[] #[]] w fun e w' =>
      ∃ p : Nat, At l o p ∧ e = .returned (.tuple #[.int .i64 p, .bool (hit l o p)]) ∧ Below w.heap.size w w' := by
  have k0 : (w.alloc (.cells #[.int .i64 o.f0, .int .i64 o.f1, .slice B o.f2.length c2] 25)).cell? ⟨w.heap.size, 0, none⟩ = some (.int .i64 o.f0) := by simp
  have k1 : (w.alloc (.cells #[.int .i64 o.f0, .int .i64 o.f1, .slice B o.f2.length c2] 25)).cell? ⟨w.heap.size, 1, none⟩ = some (.int .i64 o.f1) := by simp
  have k2 : (w.alloc (.cells #[.int .i64 o.f0, .int .i64 o.f1, .slice B o.f2.length c2] 25)).cell? ⟨w.heap.size, 2, none⟩ = some (.slice B o.f2.length c2) := by simp
  have hb0 := below_alloc (Below.refl w.heap.size w) (.cells #[.int .i64 o.f0, .int .i64 o.f1, .slice B o.f2.length c2] 25)
  go_enter Try.func78, Try.ntmps78
  go_wp2
  generalize w.alloc (.cells #[.int .i64 o.f0, .int .i64 o.f1, .slice B o.f2.length c2] 25) = W at k0 k1 k2 hb0 ⊢
  replace hr := Kd.C_below hr hb0
  replace ho := ho.below hb0
  have HB0 := Aside0.mk hb0
  clear hb0
  go_loopw [9, 10] (fun vi vj wr => ∃ (i j : Nat), i ≤ j ∧ j ≤ l.length ∧ vi = .int .i64 i ∧ vj = .int .i64 j ∧ Aside0 ((∀ k, k < i → lt (l.getD k zO) o) ∧ (∀ k, j ≤ k → k < l.length → ¬ lt (l.getD k zO) o)) ∧ Aside0 (Below W.heap.size W wr)) (fun vi vj _ => (intOf vj).toNat - (intOf vi).toNat)
  case atStart => exact ⟨0, l.length, by omega, by omega, rfl, rfl, ⟨⟨fun k h => by omega, fun k h1 h2 => by omega⟩⟩, ⟨Below.refl _ _⟩⟩
  case round =>
    obtain ⟨i, j, hij, hj, rfl, rfl, HI, HB⟩ := hrel
    by_cases hlt : i < j
    · obtain ⟨m, hm⟩ : ∃ m : Nat, m = (i + j) / 2 := ⟨_, rfl⟩
      have hme : ((i : Int) + j) / 2 = (m : Int) := by omega
      have hm1 : i ≤ m := by omega
      have hm2 : m < j := by omega
      have HME := Aside0.mk hme
      clear hme hm
      have hrr := Kd.C_below hr HB.out
      obtain ⟨ad, A2, c3, rfl, ha, hb, hc, hl2, hC2⟩ := atO hrr m (by omega)
      have hIs : IsO wr (l.getD m zO) A2 c3 := ⟨hl2, hC2⟩
      have hIo := ho.below HB.out
      have q0 := cellE (pw_cell_below HB.out k0)
      have q1 := cellE (pw_cell_below HB.out k1)
      have q2 := cellE (pw_cell_below HB.out k2)
      replace ha := cellE ha
      replace hb := cellE hb
      replace hc := cellE hc
      have hmj : (m : Int) < l.length := by omega
      clear hrr hl2 hC2
      have HG : Aside0 (l.getD m zO = l.getD m zO) := ⟨rfl⟩
      generalize hy : l.getD m zO = y at ha hb hc hIs
      have HY := Aside0.mk hy
      clear hy HG
      have hcl := fun s : Ext wr => compare_any y o A2 B c3 c2 s.1 (hIs.ext s) (hIo.ext s)
      by_cases hcm : cmpO y o < 0
      · have hd : decide (cmpO y o < 0) = true := decide_eq_true hcm
        have HI2 := Aside0.mk (show (∀ k, k < m + 1 → lt (l.getD k zO) o) ∧ (∀ k, j ≤ k → k < l.length → ¬ lt (l.getD k zO) o) from ⟨fun k hk => by
          by_cases e : k = m
          · subst e; rw [HY.out]; exact hcm
          · exact lt_trans (sorted_getD hs (by omega : k < m) (by omega)) (by rw [HY.out]; exact hcm), HI.out.2⟩)
        clear hcm
        go_wp2
        rw [HME.out]
        refine region_ext (W := wr) (Below.refl _ _) (by kernel_rfl) (by kernel_rfl) ?_
        repeat (first | go_big_quiet_step ((go_at_call 53; exact calls_ext (hcl _))) | quiet_step ((go_at_call 53; exact calls_ext (hcl _))))
        refine wpQuiet_nil ?_
        rintro _ ⟨s, rfl⟩
        have HB3 := Aside0.mk (below_then HB.out HB.out.size s.2)
        generalize s.1 = W2 at HB3
        go_wp2
        go_roundw
        case rel => exact ⟨m + 1, j, by omega, by omega, by go_num, rfl, HI2, HB3⟩
        case measure => simp [intOf]; omega
      · have hd : decide (cmpO y o < 0) = false := decide_eq_false hcm
        have HI2 := Aside0.mk (show (∀ k, k < i → lt (l.getD k zO) o) ∧ (∀ k, m ≤ k → k < l.length → ¬ lt (l.getD k zO) o) from ⟨HI.out.1, fun k hk hkl => by
          by_cases e : k = m
          · subst e; rw [HY.out]; exact hcm
          · intro hlt2
            exact hcm (by rw [← HY.out]; exact lt_trans (sorted_getD hs (by omega : m < k) hkl) hlt2)⟩)
        clear hcm
        go_wp2
        rw [HME.out]
        refine region_ext (W := wr) (Below.refl _ _) (by kernel_rfl) (by kernel_rfl) ?_
        repeat (first | go_big_quiet_step ((go_at_call 53; exact calls_ext (hcl _))) | quiet_step ((go_at_call 53; exact calls_ext (hcl _))))
        refine wpQuiet_nil ?_
        rintro _ ⟨s, rfl⟩
        have HB3 := Aside0.mk (below_then HB.out HB.out.size s.2)
        generalize s.1 = W2 at HB3
        go_wp2
        go_roundw
        case rel => exact ⟨i, m, by omega, by omega, rfl, rfl, HI2, HB3⟩
        case measure => simp [intOf]; omega
    · obtain rfl : i = j := by omega
      have HA := Aside0.mk (show At l o i from ⟨hj, HI.out.1, HI.out.2⟩)
      have q0 := cellE (pw_cell_below HB.out k0)
      have q1 := cellE (pw_cell_below HB.out k1)
      have q2 := cellE (pw_cell_below HB.out k2)
      by_cases hil : i < l.length
      · have hdl : decide (i < l.length) = true := decide_eq_true hil
        have hrr := Kd.C_below hr HB.out
        obtain ⟨ad, A2, c3, rfl, ha, hb, hc, hl2, hC2⟩ := atO hrr i hil
        have hIs : IsO wr (l.getD i zO) A2 c3 := ⟨hl2, hC2⟩
        have hIo := ho.below HB.out
        replace ha := cellE ha
        replace hb := cellE hb
        replace hc := cellE hc
        have HH := Aside0.mk (show hit l o i = (cmpO (l.getD i zO) o == 0) by unfold hit; simp [hil]; rw [Bool.eq_iff_iff]; simp)
        clear hrr hl2 hC2
        generalize l.getD i zO = y at ha hb hc hIs HH
        have hcl := fun s : Ext wr => compare_any y o A2 B c3 c2 s.1 (hIs.ext s) (hIo.ext s)
        go_wp2
        refine region_ext (W := wr) (Below.refl _ _) (by kernel_rfl) (by kernel_rfl) ?_
        repeat (first | go_big_quiet_step ((go_at_call 53; exact calls_ext (hcl _))) | quiet_step ((go_at_call 53; exact calls_ext (hcl _))))
        refine wpQuiet_nil ?_
        rintro _ ⟨s, rfl⟩
        have HB3 := Aside0.mk (below_then HB0.out HB0.out.size (below_then HB.out HB.out.size s.2))
        generalize s.1 = W2 at HB3
        go_wp2
        go_ret2
        exact ⟨i, HA.out, by rw [HH.out]; rfl, HB3.out⟩
      · have hdl : decide (i < l.length) = false := decide_eq_false hil
        have HH := Aside0.mk (show hit l o i = false by unfold hit; simp [hil])
        go_wp2
        refine region_ext (W := wr) (Below.refl _ _) (by kernel_rfl) (by kernel_rfl) ?_
        repeat (first | go_big_quiet_step (fail) | quiet_step (fail))
        refine wpQuiet_nil ?_
        rintro _ ⟨s, rfl⟩
        have HB3 := Aside0.mk (below_then HB0.out HB0.out.size (below_then HB.out HB.out.size s.2))
        generalize s.1 = W2 at HB3
        go_wp2
        go_ret2
        exact ⟨i, HA.out, by rw [HH.out]; rfl, HB3.out⟩
end Go.Proofs.Ytjeojdbfpncnkaa.Cd
