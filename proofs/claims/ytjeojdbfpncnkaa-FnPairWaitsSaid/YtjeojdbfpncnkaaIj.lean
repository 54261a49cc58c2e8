/- All points in time: the program's times, at, few. -/
import Derived.Test.YtjeojdbfpncnkaaIh
set_option linter.unusedVariables false
set_option linter.unusedSimpArgs false
namespace Go.Proofs.Ytjeojdbfpncnkaa.Ij
open Go.RowKit Go.Proofs.YtjeojdbfpncnkaaW.PrintWords Go.Proofs.Ytjeojdbfpncnkaa.Wd Go.Proofs.Ytjeojdbfpncnkaa.Pu Go.Proofs.Ytjeojdbfpncnkaa.Pv Go.Proofs.Ytjeojdbfpncnkaa.Ca Go.Proofs.Ytjeojdbfpncnkaa.Cb Go.Proofs.Ytjeojdbfpncnkaa.Cc Go.Proofs.Ytjeojdbfpncnkaa.Cp Go.Proofs.Ytjeojdbfpncnkaa.Cd Go.Proofs.Ytjeojdbfpncnkaa.Ci Go.Proofs.Ytjeojdbfpncnkaa.Ce Go.Proofs.Ytjeojdbfpncnkaa.Cf Go.Proofs.Ytjeojdbfpncnkaa.Cg Go.Proofs.Ytjeojdbfpncnkaa.Ia Go.Proofs.Ytjeojdbfpncnkaa.Ib Go.Proofs.Ytjeojdbfpncnkaa.Ic Go.Proofs.Ytjeojdbfpncnkaa.Id Go.Proofs.Ytjeojdbfpncnkaa.Ie Go.Proofs.Ytjeojdbfpncnkaa.If Go.Proofs.Ytjeojdbfpncnkaa.Ig Go.Proofs.Ytjeojdbfpncnkaa.Ih

abbrev kLs : Kd (List (List Occ)) := Kd.slice 25 kO |> fun d => Kd.slice 27 d
abbrev kL : Kd (List Occ) := Kd.slice 25 kO
theorem atL {w : World} {A : Option Addr} {n : Nat} {xs : List (List Occ)} (h : kL.C w A n xs) (k : Nat) (hk : k < n) :
    ∃ ad A0 c0, A = some ad ∧ w.cell? (ad.add k) = some (.slice A0 (xs.getD k []).length c0) ∧ IsL w (xs.getD k []) A0 c0 := by
  obtain ⟨ad, c, e, _, hK, hc0⟩ := Kd.C_get h ([] : List Occ) (k : Int) (by omega) (by omega)
  rw [Int.toNat_natCast] at hK hc0
  have hc : ∀ j u, c[j]? = some u → w.cell? (ad.add (k * 1 + j)) = some u := hc0
  obtain ⟨A0, c0, rfl, l0, g0⟩ := hK
  exact ⟨ad, A0, c0, e, by have hq := hc 0 _ rfl; rwa [Nat.mul_one, Nat.add_zero] at hq, ⟨l0, g0⟩⟩
def tos (ls : List (List Occ)) : List Int := ls.flatten.map (fun o => o.f1)
theorem flat_take {α : Type} (ls : List (List α)) (k : Nat) (h : k < ls.length) : (ls.take (k + 1)).flatten = (ls.take k).flatten ++ ls.getD k [] := by
  rw [List.take_add_one, List.flatten_append, List.getD_eq_getElem?_getD, List.getElem?_eq_getElem h]
  simp
theorem flat_len {α : Type} (ls : List (List α)) (k : Nat) (h : k < ls.length) : ((ls.take k).flatten).length + (ls.getD k []).length ≤ ls.flatten.length := by
  have h1 : ls.flatten = (ls.take (k + 1)).flatten ++ (ls.drop (k + 1)).flatten := by rw [← List.flatten_append, List.take_append_drop]
  rw [h1, flat_take ls k h]
  simp only [List.length_append]
  omega
abbrev RI (w wr : World) (v : Value) (xs : List Int) : Prop := (Kd.int .i64).R 3 wr w.heap.size (fun _ => True) v xs
def TimesOut (w w' : World) (r : List Int) (e : Ending) : Prop := ∃ A c, e = .returned (.slice A r.length c) ∧ (Kd.int .i64).C w' A r.length r ∧ Below w.heap.size w w'

set_option maxHeartbeats 2000000 in
set_option maxRecDepth 100000 in
theorem times_any (G : Option Addr) (c : Nat) (ls : List (List Occ)) (w : World) (hl : ls.flatten.length ≤ 1048576) (hG : kL.C w G ls.length ls) :
    Calls Try.prog 92 #[.slice G ls.length c] w fun e w' => TimesOut w w' (Lib.compact ((tos ls).mergeSort Lays.leb)) e := by
  have hll := (C_len hG).2
  go_enter Try.func92, Try.ntmps92
  go_wp2
  go_loopw [3, 10] (fun v3 vi wr => ∃ (k : Nat) (v : Value), k ≤ ls.length ∧ vi = .int .i64 k ∧ v = v3 ∧ Aside0 (RI w wr v (tos (ls.take k))) ∧ Aside0 (Below w.heap.size w wr)) (fun _ vi _ => ls.length - (intOf vi).toNat)
  case atStart => exact ⟨0, _, Nat.zero_le _, rfl, rfl, ⟨by simpa [tos] using Kd.R_nil (Kd.int .i64) 3 w w.heap.size (fun _ => True)⟩, ⟨Below.refl _ _⟩⟩
  case round =>
    obtain ⟨k, v, hk, rfl, rfl, HR, HB⟩ := hrel
    by_cases hlt : k < ls.length
    · obtain ⟨ad, A0, c0, rfl, hc0, hL0⟩ := atL hG k hlt
      have hc := pw_cell_below HB.out hc0
      have hT := flat_take ls k hlt
      have hF := flat_len ls k hlt
      generalize ls.getD k [] = l at hc hc0 hL0 hT hF
      have HT := Aside0.mk hT
      have HL := Aside0.mk hL0
      obtain ⟨P, hP⟩ : ∃ P, P = (ls.take k).flatten := ⟨_, rfl⟩
      have hR2 : RI w wr v (P.map (fun o => o.f1)) := by rw [hP]; exact HR.out
      rw [← hP] at hF
      have HP := Aside0.mk hP
      have HR2 := Aside0.mk hR2
      clear hT hL0 hP hR2 HR hc0
      generalize wr = W1 at *
      go_wp2
      go_loopw [3, 16] (fun v3 vi w2 => ∃ (j : Nat) (v' : Value), j ≤ l.length ∧ vi = .int .i64 j ∧ v' = v3 ∧ Aside0 (RI w w2 v' (P.map (fun o => o.f1) ++ (l.take j).map (fun o => o.f1))) ∧ Aside0 (Below w.heap.size w w2)) (fun _ vi _ => l.length - (intOf vi).toNat)
      case atStart => exact ⟨0, _, Nat.zero_le _, rfl, rfl, ⟨by simpa using HR2.out⟩, HB⟩
      case round =>
        obtain ⟨j, v', hj, rfl, rfl, HR3, HB3⟩ := hrel
        by_cases hlj : j < l.length
        · obtain ⟨bd, A2, c3, rfl, pa, pb, pc, pl, pC⟩ := atO (HL.out.below HB3.out).rd j hlj
          have hT2 := take_succ_getD l j zO hlj
          generalize l.getD j zO = o at pa pb pc pl pC hT2
          have HT2 := Aside0.mk (show P.map (fun o => o.f1) ++ (l.take (j + 1)).map (fun o => o.f1) = (P.map (fun o => o.f1) ++ (l.take j).map (fun o => o.f1)) ++ [o.f1] by rw [hT2, List.map_append, List.append_assoc]; rfl)
          have hlen : (P.map (fun o => o.f1) ++ (l.take j).map (fun o => o.f1)).length ≤ 1048576 := by rw [List.length_append, List.length_map, List.length_map, List.length_take]; omega
          have hbx := box3 wr (.int .i64 o.f0) (.int .i64 o.f1) (.slice A2 o.f2.length c3) 25
          have HBx := Aside0.mk (below_then HB3.out HB3.out.size hbx.1)
          have HRx := Aside0.mk (Kd.R_below HR3.out hbx.1)
          have x1 := hbx.2.2.1
          clear pl pC hT2
          go_upto_region 8 with fail
          clear hbx
          generalize wr.alloc (.cells #[.int .i64 o.f0, .int .i64 o.f1, .slice A2 o.f2.length c3] 25) = W at HBx HRx x1 ⊢
          go_wp2_with ((with_reducible refine gate_dst (N := 24) rfl ?_); refine Kd.R_append (Kd.int .i64) (w0 := w) w.heap.size rfl _ _ 23 3 (.int .i64 0) 8 rfl Try.underlying23 Cc.infoI rfl (by decide) (by decide) v' (P.map (fun o => o.f1) ++ (l.take j).map (fun o => o.f1)) o.f1 [.int .i64 o.f1] (fun _ => True) (fun _ => False) rfl rfl rfl (fun _ h => h.elim) (fun _ _ => trivial) HRx.out HBx.out HBx.out.size (by omega) ?_; intro v4 w4 hr4 hb4 hg4 hat4; have HR4 := Aside0.mk hr4; have HB4 := Aside0.mk hb4; have HG4 := Aside0.mk hg4; clear hr4 hb4 hg4 hat4)
          go_roundw
          case rel => exact ⟨j + 1, _, by omega, by go_num, rfl, ⟨by rw [HT2.out]; exact HR4.out⟩, HB4⟩
          case measure => simp [intOf]; omega
        · have hke : j = l.length := by omega
          subst hke
          have hR3 := HR3.out
          rw [List.take_length] at hR3
          have HR5 := Aside0.mk (show RI w wr v' (tos (ls.take (k + 1))) by unfold tos; rw [HT.out, ← HP.out, List.map_append]; exact hR3)
          have HB5 := HB3
          clear hR3
          go_wp2
          go_roundw
          case rel => exact ⟨k + 1, _, by omega, by go_num, rfl, HR5, HB5⟩
          case measure => simp [intOf]; omega
    · have hke : k = ls.length := by omega
      subst hke
      have hR := HR.out
      rw [List.take_length] at hR
      have HR6 := Aside0.mk hR
      have hln : (tos ls).length ≤ 1048576 := by unfold tos; rw [List.length_map]; exact hl
      clear hR HR
      go_wp2_with (first
        | (go_at_call 76; refine (Lays.compact_any v w.heap.size (fun _ => True) ((tos ls).mergeSort Lays.leb) _ HR7.out (by rw [List.length_mergeSort]; omega)).mono ?_; rintro e w8 ⟨v8, rfl, hr8, hat8, hg8⟩; obtain ⟨A8, c8, rfl⟩ := Kd.R_slice hr8; have HR8 := Aside0.mk hr8; have HB8 := Aside0.mk (Below.grown HB7.out hg8 HB7.out.size (fun j hj => Kd.R_base HR7.out j hj)); clear hr8 hat8 hg8)
        | (go_at_call 75; refine (Lays.sort_any v w.heap.size (fun _ => True) (tos ls) _ HR6.out (by omega)).mono ?_; rintro e w7 ⟨rfl, hr7, hg7⟩; have HR7 := Aside0.mk hr7; have HB7 := Aside0.mk (Below.grown HB.out hg7 HB.out.size (fun j hj => Kd.R_base HR6.out j hj)); clear hr7 hg7))
      go_ret
      exact ⟨A8, c8, rfl, (Kd.R_reads' HR8.out).2.2, HB8.out⟩
end Go.Proofs.Ytjeojdbfpncnkaa.Ij
