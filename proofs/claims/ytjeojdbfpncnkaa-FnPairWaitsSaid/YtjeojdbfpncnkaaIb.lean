/- Lists of those that hold: the program's. -/
import Derived.Test.YtjeojdbfpncnkaaIa
set_option linter.unusedVariables false
set_option linter.unusedSimpArgs false
namespace Go.Proofs.Ytjeojdbfpncnkaa.Ib
open Go.RowKit Go.Proofs.YtjeojdbfpncnkaaW.PrintWords Go.Proofs.Ytjeojdbfpncnkaa.Wd Go.Proofs.Ytjeojdbfpncnkaa.Pu Go.Proofs.Ytjeojdbfpncnkaa.Pv Go.Proofs.Ytjeojdbfpncnkaa.Ca Go.Proofs.Ytjeojdbfpncnkaa.Cp Go.Proofs.Ytjeojdbfpncnkaa.Cd Go.Proofs.Ytjeojdbfpncnkaa.Ci Go.Proofs.Ytjeojdbfpncnkaa.Ce Go.Proofs.Ytjeojdbfpncnkaa.Cf Go.Proofs.Ytjeojdbfpncnkaa.Ia

/-- over before a time -/
def bef (f : Int) : Occ → Bool := fun s => decide (s.f1 < f)
def isAt (t : Int) : Occ → Bool := fun s => decide (s.f1 = t)

set_option maxRecDepth 100000 in
theorem bef1_any (x : Occ) (A : Option Addr) (c O : Nat) (t : Int) (w : World) (hO : w.cell? ⟨O, 0, none⟩ = some (.int .i64 t)) :
    Calls Try.prog 98 #[.agg #[.int .i64 x.f0, .int .i64 x.f1, .slice A x.f2.length c], .pointer (some ⟨O, 0, none⟩)] w fun e w' => e = .returned (.bool (bef t x)) ∧ Below w.heap.size w w' := by
  have hb := (box3 w (.int .i64 x.f0) (.int .i64 x.f1) (.slice A x.f2.length c) 25).1
  have h1 := pw_cell_below hb hO
  go_enter Try.func98, Try.ntmps98
  go_wp2
  go_ret
  exact ⟨ret_bool (by rfl), hb⟩

set_option maxHeartbeats 1000000 in
set_option maxRecDepth 100000 in
theorem bef_any (A : Option Addr) (c O : Nat) (t : Int) (l : List Occ) (w : World) (hl : l.length ≤ 1048576) (hL : IsL w l A c) (hO : w.cell? ⟨O, 0, none⟩ = some (.int .i64 t)) :
    Calls Try.prog 97 #[.slice A l.length c, .func (.func 98) #[] #[.pointer (some ⟨O, 0, none⟩)]] w fun e w' =>
      ∃ A' c', e = .returned (.slice A' (l.filter (bef t)).length c') ∧ IsL w' (l.filter (bef t)) A' c' ∧ Below w.heap.size w w' := by
  go_enter Try.func97, Try.ntmps97
  go_wp2
  go_loopw [5, 10] (fun v5 vi wr => ∃ (k : Nat) (v : Value), k ≤ l.length ∧ vi = .int .i64 k ∧ v = v5 ∧ Aside0 (Fx w wr v ((l.take k).filter (bef t))) ∧ Aside0 (Below w.heap.size w wr)) (fun _ vi _ => l.length - (intOf vi).toNat)
  case atStart => exact ⟨0, _, Nat.zero_le _, rfl, rfl, ⟨by simpa using Fx.nil w w⟩, ⟨Below.refl _ _⟩⟩
  case round =>
    obtain ⟨k, v, hk, rfl, rfl, HF, HB⟩ := hrel
    by_cases hlt : k < l.length
    · obtain ⟨ad, A2, c3, rfl, ha, hb, hc, hl2, hC2⟩ := atO (hL.below HB.out).rd k hlt
      obtain ⟨ad0, A20, c30, e0, ha0, hb0, hc0, hl20, hC20⟩ := atO hL.rd k hlt
      cases e0
      have hsame : A20 = A2 ∧ c30 = c3 := by have := pw_cell_below HB.out hc0; rw [hc] at this; injection this with this; injection this with h1 h2 h3; exact ⟨h1.symm, h3.symm⟩
      obtain ⟨rfl, rfl⟩ := hsame
      have hT := take_succ_getD l k zO hlt
      have hIw : IsO w (l.getD k zO) A20 c30 := ⟨hl20, hC20⟩
      have hln : ((l.take k).filter (bef t)).length ≤ k := Nat.le_trans (List.length_filter_le _ _) (by rw [List.length_take]; omega)
      clear hl2 hC2 hl20 hC20 ha0 hb0 hc0
      generalize l.getD k zO = o at ha hb hc hIw hT
      have HT := Aside0.mk (show (l.take (k + 1)).filter (bef t) = if bef t o then (l.take k).filter (bef t) ++ [o] else (l.take k).filter (bef t) by rw [hT]; exact filter_snoc _ _ _)
      clear hT
      have hbx := (box3 wr (.int .i64 o.f0) (.int .i64 o.f1) (.slice A20 o.f2.length c30) 25).1
      have hO2 := pw_cell_below (below_then HB.out HB.out.size hbx) hO
      go_wp2_with (first
        | (go_at_call 98; refine (bef1_any o A20 c30 O t _ hO2).mono ?_; rintro e w1 ⟨rfl, hb1⟩; have HB1 := Aside0.mk (below_then hbx hbx.size hb1); have q0 := pw_cell_below hb1 (box3 wr (.int .i64 o.f0) (.int .i64 o.f1) (.slice A20 o.f2.length c30) 25).2.1; have q1 := pw_cell_below hb1 (box3 wr (.int .i64 o.f0) (.int .i64 o.f1) (.slice A20 o.f2.length c30) 25).2.2.1; have q2 := pw_cell_below hb1 (box3 wr (.int .i64 o.f0) (.int .i64 o.f1) (.slice A20 o.f2.length c30) 25).2.2.2; clear hb1; cases hd : bef t o)
        | ((with_reducible refine gate_dst (N := 20) rfl ?_); refine Kd.R_append (Kd.fixed kO w) (w0 := w) w.heap.size rfl _ _ 27 25 (.agg #[.int .i64 0, .int .i64 0, .slice none 0 0]) 40 rfl Try.underlying27 infoO rfl (szO w) (by decide) v ((l.take k).filter (bef t)) o [.int .i64 o.f0, .int .i64 o.f1, .slice A20 o.f2.length c30] (fun _ => True) (fun _ => False) rfl rfl (kO_mk w o hIw.1 hIw.2) (fun _ h => h.elim) (fun _ _ => trivial) (Kd.R_below HF.out HB1.out) (below_then HB.out HB.out.size HB1.out) (Nat.le_trans HB.out.size HB1.out.size) (by omega) ?_; intro v3 w3 hs3 hb3 _ _; have HS3 := Aside0.mk hs3; have HB3 := Aside0.mk hb3; clear hs3 hb3))
      · go_roundw
        case rel => exact ⟨k + 1, _, by omega, by go_num, rfl, ⟨by rw [HT.out, hd]; exact Kd.R_below HF.out HB1.out⟩, ⟨below_then HB.out HB.out.size HB1.out⟩⟩
        case measure => simp [intOf]; omega
      · go_roundw
        case rel => exact ⟨k + 1, _, by omega, by go_num, rfl, ⟨by rw [HT.out, hd]; exact HS3.out⟩, HB3⟩
        case measure => simp [intOf]; omega
    · have hke : k = l.length := by omega
      subst hke
      have HL := HF.out
      rw [List.take_length] at HL
      obtain ⟨A9, c9, rfl⟩ := Kd.R_slice HL
      have HX := Aside0.mk (Fx.isL HL HB.out)
      clear HL
      go_wp2
      go_ret
      exact ⟨A9, c9, rfl, HX.out.2, HB.out⟩

set_option maxRecDepth 100000 in
theorem isAt1_any (x : Occ) (A : Option Addr) (c O : Nat) (t : Int) (w : World) (hO : w.cell? ⟨O, 0, none⟩ = some (.int .i64 t)) :
    Calls Try.prog 115 #[.agg #[.int .i64 x.f0, .int .i64 x.f1, .slice A x.f2.length c], .pointer (some ⟨O, 0, none⟩)] w fun e w' => e = .returned (.bool (isAt t x)) ∧ Below w.heap.size w w' := by
  have hb := (box3 w (.int .i64 x.f0) (.int .i64 x.f1) (.slice A x.f2.length c) 25).1
  have h1 := pw_cell_below hb hO
  go_enter Try.func115, Try.ntmps115
  go_wp2
  go_ret
  exact ⟨ret_bool (by unfold isAt; rw [Bool.eq_iff_iff]; simp), hb⟩

set_option maxHeartbeats 1000000 in
set_option maxRecDepth 100000 in
theorem isAt_any (A : Option Addr) (c O : Nat) (t : Int) (l : List Occ) (w : World) (hl : l.length ≤ 1048576) (hL : IsL w l A c) (hO : w.cell? ⟨O, 0, none⟩ = some (.int .i64 t)) :
    Calls Try.prog 97 #[.slice A l.length c, .func (.func 115) #[] #[.pointer (some ⟨O, 0, none⟩)]] w fun e w' =>
      ∃ A' c', e = .returned (.slice A' (l.filter (isAt t)).length c') ∧ IsL w' (l.filter (isAt t)) A' c' ∧ Below w.heap.size w w' := by
  go_enter Try.func97, Try.ntmps97
  go_wp2
  go_loopw [5, 10] (fun v5 vi wr => ∃ (k : Nat) (v : Value), k ≤ l.length ∧ vi = .int .i64 k ∧ v = v5 ∧ Aside0 (Fx w wr v ((l.take k).filter (isAt t))) ∧ Aside0 (Below w.heap.size w wr)) (fun _ vi _ => l.length - (intOf vi).toNat)
  case atStart => exact ⟨0, _, Nat.zero_le _, rfl, rfl, ⟨by simpa using Fx.nil w w⟩, ⟨Below.refl _ _⟩⟩
  case round =>
    obtain ⟨k, v, hk, rfl, rfl, HF, HB⟩ := hrel
    by_cases hlt : k < l.length
    · obtain ⟨ad, A2, c3, rfl, ha, hb, hc, hl2, hC2⟩ := atO (hL.below HB.out).rd k hlt
      obtain ⟨ad0, A20, c30, e0, ha0, hb0, hc0, hl20, hC20⟩ := atO hL.rd k hlt
      cases e0
      have hsame : A20 = A2 ∧ c30 = c3 := by have := pw_cell_below HB.out hc0; rw [hc] at this; injection this with this; injection this with h1 h2 h3; exact ⟨h1.symm, h3.symm⟩
      obtain ⟨rfl, rfl⟩ := hsame
      have hT := take_succ_getD l k zO hlt
      have hIw : IsO w (l.getD k zO) A20 c30 := ⟨hl20, hC20⟩
      have hln : ((l.take k).filter (isAt t)).length ≤ k := Nat.le_trans (List.length_filter_le _ _) (by rw [List.length_take]; omega)
      clear hl2 hC2 hl20 hC20 ha0 hb0 hc0
      generalize l.getD k zO = o at ha hb hc hIw hT
      have HT := Aside0.mk (show (l.take (k + 1)).filter (isAt t) = if isAt t o then (l.take k).filter (isAt t) ++ [o] else (l.take k).filter (isAt t) by rw [hT]; exact filter_snoc _ _ _)
      clear hT
      have hbx := (box3 wr (.int .i64 o.f0) (.int .i64 o.f1) (.slice A20 o.f2.length c30) 25).1
      have hO2 := pw_cell_below (below_then HB.out HB.out.size hbx) hO
      go_wp2_with (first
        | (go_at_call 115; refine (isAt1_any o A20 c30 O t _ hO2).mono ?_; rintro e w1 ⟨rfl, hb1⟩; have HB1 := Aside0.mk (below_then hbx hbx.size hb1); have q0 := pw_cell_below hb1 (box3 wr (.int .i64 o.f0) (.int .i64 o.f1) (.slice A20 o.f2.length c30) 25).2.1; have q1 := pw_cell_below hb1 (box3 wr (.int .i64 o.f0) (.int .i64 o.f1) (.slice A20 o.f2.length c30) 25).2.2.1; have q2 := pw_cell_below hb1 (box3 wr (.int .i64 o.f0) (.int .i64 o.f1) (.slice A20 o.f2.length c30) 25).2.2.2; clear hb1; cases hd : isAt t o)
        | ((with_reducible refine gate_dst (N := 20) rfl ?_); refine Kd.R_append (Kd.fixed kO w) (w0 := w) w.heap.size rfl _ _ 27 25 (.agg #[.int .i64 0, .int .i64 0, .slice none 0 0]) 40 rfl Try.underlying27 infoO rfl (szO w) (by decide) v ((l.take k).filter (isAt t)) o [.int .i64 o.f0, .int .i64 o.f1, .slice A20 o.f2.length c30] (fun _ => True) (fun _ => False) rfl rfl (kO_mk w o hIw.1 hIw.2) (fun _ h => h.elim) (fun _ _ => trivial) (Kd.R_below HF.out HB1.out) (below_then HB.out HB.out.size HB1.out) (Nat.le_trans HB.out.size HB1.out.size) (by omega) ?_; intro v3 w3 hs3 hb3 _ _; have HS3 := Aside0.mk hs3; have HB3 := Aside0.mk hb3; clear hs3 hb3))
      · go_roundw
        case rel => exact ⟨k + 1, _, by omega, by go_num, rfl, ⟨by rw [HT.out, hd]; exact Kd.R_below HF.out HB1.out⟩, ⟨below_then HB.out HB.out.size HB1.out⟩⟩
        case measure => simp [intOf]; omega
      · go_roundw
        case rel => exact ⟨k + 1, _, by omega, by go_num, rfl, ⟨by rw [HT.out, hd]; exact HS3.out⟩, HB3⟩
        case measure => simp [intOf]; omega
    · have hke : k = l.length := by omega
      subst hke
      have HL := HF.out
      rw [List.take_length] at HL
      obtain ⟨A9, c9, rfl⟩ := Kd.R_slice HL
      have HX := Aside0.mk (Fx.isL HL HB.out)
      clear HL
      go_wp2
      go_ret
      exact ⟨A9, c9, rfl, HX.out.2, HB.out⟩
end Go.Proofs.Ytjeojdbfpncnkaa.Ib
