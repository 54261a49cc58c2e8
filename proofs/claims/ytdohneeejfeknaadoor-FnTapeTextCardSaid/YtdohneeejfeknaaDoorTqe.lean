
/- The reference's cutting of a text at its spaces: rows of texts. Printed by genTqe.py. -/
import Derived.Test.YtdohneeejfeknaaDoorTqd
import Derived.Test.YtdohneeejfeknaaDoorTp1
set_option linter.unusedVariables false
set_option linter.unusedSimpArgs false
namespace Go.Proofs.YtdohneeejfeknaaDoor.Tqe
open Go.RowKit Go.Proofs.YtdohneeejfeknaaDoorW.PrintWords Go.Proofs.YtdohneeejfeknaaDoor.Ja Go.Proofs.YtdohneeejfeknaaDoor.Tqa Go.Proofs.YtdohneeejfeknaaDoor.Tqb Go.Proofs.YtdohneeejfeknaaDoor.Tqc Go.Proofs.YtdohneeejfeknaaDoor.Tqd Go.Proofs.YtdohneeejfeknaaDoor.Tp1
theorem infoS : (Tryd.prog.info? 9).map (fun i => (i.zero, i.size, i.bytes)) = some (some (.string ⟨#[]⟩), 1, 16) := by kernel_rfl
abbrev RS (w : World) (base : Nat) (v : Value) (ws : List (List UInt8)) : Prop := Kd.string.R 9 w base (fun _ => True) v (ws.map bs)
/-- how far the text is cut -/
structure CutAt (l : List UInt8) (n i f : Nat) (ws : List (List UInt8)) : Prop where
  fi : f ≤ i
  wf : ws.length ≤ f
  go : i ≤ n → cutC 32 l = ws ++ cutC 32 (l.drop f) ∧ (32 : UInt8) ∉ (l.take i).drop f
  fin : ¬ i ≤ n → cutC 32 l = ws
theorem CutAt.start (l : List UInt8) (n : Nat) : CutAt l n 0 0 [] := ⟨Nat.le_refl _, Nat.le_refl _, fun _ => ⟨by simp, by simp⟩, fun h => absurd (Nat.zero_le _) h⟩
theorem CutAt.skip {l : List UInt8} {n i f : Nat} {ws : List (List UInt8)} (h : CutAt l n i f ws) (hn : l.length = n) (hi : i < n) (hb : ¬ l.getD i 0 = 32) : CutAt l n (i + 1) f ws := by
  refine ⟨by have := h.fi; omega, h.wf, fun _ => ⟨(h.go (by omega)).1, fun hm => ?_⟩, fun h2 => absurd hi (by omega)⟩
  rw [take_succ_getD l i 0 (by omega), List.drop_append_of_le_length (by rw [List.length_take]; have := h.fi; omega), List.mem_append] at hm
  rcases hm with hm | hm
  · exact (h.go (by omega)).2 hm
  · exact hb (by simpa using hm : (32 : UInt8) = _).symm
theorem CutAt.cut {l : List UInt8} {n i f : Nat} {ws : List (List UInt8)} (h : CutAt l n i f ws) (hn : l.length = n) (hi : i < n) (hb : l.getD i 0 = 32) : CutAt l n (i + 1) (i + 1) (ws ++ [(l.take i).drop f]) := by
  obtain ⟨h1, h2⟩ := h.go (by omega)
  have hf := h.fi
  refine ⟨Nat.le_refl _, by rw [List.length_append]; have := h.wf; simp; omega, fun _ => ⟨?_, by simp⟩, fun h3 => absurd hi (by omega)⟩
  have e : l.drop f = (l.take i).drop f ++ 32 :: l.drop (i + 1) := by
    conv => lhs; rw [← List.take_append_drop i l]
    rw [List.drop_append_of_le_length (by rw [List.length_take]; omega), drop_at l 0 i (by omega), hb]
  rw [h1, e, cutC_app _ _ _ h2, List.append_assoc]
  rfl
theorem CutAt.last {l : List UInt8} {n f : Nat} {ws : List (List UInt8)} (h : CutAt l n n f ws) (hn : l.length = n) : CutAt l n (n + 1) (n + 1) (ws ++ [(l.take n).drop f]) := by
  obtain ⟨h1, h2⟩ := h.go (Nat.le_refl _)
  rw [← hn, List.take_length] at h2
  refine ⟨Nat.le_refl _, by rw [List.length_append]; have := h.wf; have := h.fi; simp; omega, fun h3 => absurd h3 (by omega), fun _ => ?_⟩
  rw [h1, cutC_one _ _ h2, ← hn, List.take_length]
theorem RS.app {w : World} {base : Nat} {v : Value} {ws : List (List UInt8)} {x : List UInt8} (h : Kd.string.R 9 w base (fun _ => True) v (ws.map bs ++ [bs x])) : RS w base v (ws ++ [x]) := by
  unfold RS
  rw [List.map_append]
  exact h
set_option maxHeartbeats 2000000 in
set_option maxRecDepth 100000 in
theorem l14Cut_any (l : List UInt8) (hl : l.length ≤ 1048576) (w : World) : Calls Tryd.prog 16 #[.string (bs l), .int .u8 32] w fun e w' => ∃ v, e = .returned v ∧ RS w' w.heap.size v (cutC 32 l) ∧ Below w.heap.size w w' := by
  obtain ⟨n, hn⟩ : ∃ n, l.length = n := ⟨_, rfl⟩
  have hs : (bs l).size = n := by rw [bs_size, hn]
  rw [hn] at hl
  have HN := Aside0.mk hn
  have hba := below_alloc (Below.refl w.heap.size w) (.cells #[] 9)
  have HR0 : Aside0 (RS (w.alloc (.cells #[] 9)) w.heap.size (.slice (some ⟨w.heap.size, 0, none⟩) ([] : List (List UInt8)).length 0) []) := ⟨R_empty Kd.string (blk_new _ _) (Nat.le_refl _)⟩
  have HB0 := Aside0.mk hba
  have HC0 := Aside0.mk (CutAt.start l n)
  clear hba hn
  go_enter Tryd.func16, Tryd.ntmps16
  go_wp2
  go_loopw [5, 6, 7] (fun v5 v6 v7 wr => ∃ (i f : Nat) (ws : List (List UInt8)) (A : Option Addr) (c : Nat), v5 = .slice A ws.length c ∧ v6 = .int .i64 f ∧ v7 = .int .i64 i ∧ i ≤ n + 1 ∧ f ≤ i ∧ Aside0 (CutAt l n i f ws) ∧ Aside0 (RS wr w.heap.size (.slice A ws.length c) ws) ∧ Aside0 (Below w.heap.size w wr)) (fun _ _ v7 _ => n + 1 - (intOf v7).toNat)
  case atStart => exact ⟨0, 0, [], _, _, rfl, rfl, rfl, by omega, Nat.le_refl _, HC0, HR0, HB0⟩
  case round =>
    clear HR0 HB0 HC0
    obtain ⟨i, f, ws, A, c, rfl, rfl, rfl, hi, hf, HC, HO, HB⟩ := hrel
    have hwl : ws.length ≤ 1048578 := by have := HC.out.wf; omega
    by_cases hlt : i < n
    · have hg := bs_get l i
      have hx : (bs l).extract f i = bs ((l.take i).drop f) := bs_cut l f i (by rw [HN.out]; omega)
      have d0 : decide ((i : Int) ≤ n) = true := decide_eq_true (by omega)
      have d1 : ((i : Int) == (n : Int)) = false := by rw [beq_eq_false_iff_ne]; omega
      have HCS := Aside0.mk (HC.out.skip HN.out hlt)
      have HCC := Aside0.mk (HC.out.cut HN.out hlt)
      generalize l.getD i 0 = b at hg HCS HCC
      generalize (l.take i).drop f = x at hx HCC
      by_cases hb : b = 32
      · subst hb
        have d2 : ((((32 : UInt8).toNat : Nat) : Int) == 32) = true := by decide
        have HC2 := Aside0.mk (HCC.out rfl)
        clear HCS HCC
        go_wp2_with ((with_reducible refine gate_dst (N := 32) rfl ?_); refine Kd.R_append Kd.string (w0 := w) w.heap.size rfl _ _ 34 9 (.string ⟨#[]⟩) 16 rfl Tryd.underlying34 infoS rfl (by decide) (by decide) (.slice A ws.length c) (ws.map bs) (bs x) [.string (bs x)] (fun _ => True) (fun _ => False) rfl rfl rfl (fun _ h => h.elim) (fun _ _ => trivial) HO.out HB.out HB.out.size (by rw [List.length_map]; omega) ?_; intro v5 w5 hr5 hb5 _ _; have HO5 := Aside0.mk (RS.app hr5); have HB5 := Aside0.mk hb5; obtain ⟨A5, c5, rfl⟩ := Kd.R_slice hr5; rw [show (ws.map bs ++ [bs x]).length = (ws ++ [x]).length by simp] at HO5; clear hr5 hb5)
        go_roundw
        case rel => exact ⟨i + 1, i + 1, ws ++ [x], _, _, by rw [List.length_append]; rfl, by go_num, by go_num, by omega, by omega, HC2, HO5, HB5⟩
        case measure => simp [intOf] <;> omega
      · have d2 : (((b.toNat : Nat) : Int) == 32) = false := u8_ne 32 hb
        have HC2 := Aside0.mk (HCS.out hb)
        clear HCS HCC hb
        go_wp2
        go_roundw
        case rel => exact ⟨i + 1, f, ws, _, _, rfl, rfl, by go_num, by omega, by omega, HC2, HO, HB⟩
        case measure => simp [intOf] <;> omega
    · by_cases hin : i = n
      · subst hin
        have d0 : decide ((i : Int) ≤ i) = true := decide_eq_true (by omega)
        have d1 : ((i : Int) == (i : Int)) = true := by simp
        have hx : (bs l).extract f i = bs ((l.take i).drop f) := bs_cut l f i (by rw [HN.out]; omega)
        have HC2 := Aside0.mk (HC.out.last HN.out)
        generalize (l.take i).drop f = x at hx HC2
        go_wp2_with ((with_reducible refine gate_dst (N := 32) rfl ?_); refine Kd.R_append Kd.string (w0 := w) w.heap.size rfl _ _ 34 9 (.string ⟨#[]⟩) 16 rfl Tryd.underlying34 infoS rfl (by decide) (by decide) (.slice A ws.length c) (ws.map bs) (bs x) [.string (bs x)] (fun _ => True) (fun _ => False) rfl rfl rfl (fun _ h => h.elim) (fun _ _ => trivial) HO.out HB.out HB.out.size (by rw [List.length_map]; omega) ?_; intro v5 w5 hr5 hb5 _ _; have HO5 := Aside0.mk (RS.app hr5); have HB5 := Aside0.mk hb5; obtain ⟨A5, c5, rfl⟩ := Kd.R_slice hr5; rw [show (ws.map bs ++ [bs x]).length = (ws ++ [x]).length by simp] at HO5; clear hr5 hb5)
        go_roundw
        case rel => exact ⟨i + 1, i + 1, ws ++ [x], _, _, by rw [List.length_append]; rfl, by go_num, by go_num, by omega, by omega, HC2, HO5, HB5⟩
        case measure => simp [intOf] <;> omega
      · have d0 : decide ((i : Int) ≤ n) = false := decide_eq_false (by omega)
        have HE := Aside0.mk (HC.out.fin (by omega))
        go_wp2
        go_ret
        exact ⟨_, rfl, by rw [HE.out]; exact HO.out, HB.out⟩
end Go.Proofs.YtdohneeejfeknaaDoor.Tqe
