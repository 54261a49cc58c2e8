
/- FnExactEngOpen: the law's walk. Printed by genLo8.py. -/
import Derived.Test.YtckblabkapeigaaEs8
import Derived.Test.YtckblabkapeigaaMe8
import Derived.Test.YtckblabkapeigaaKc
set_option linter.unusedVariables false
set_option linter.unusedSimpArgs false
namespace Go.Proofs.Ytckblabkapeigaa.Lo8
open Go.RowKit Go.Proofs.YtckblabkapeigaaW.PrintWords Go.Proofs.Ytckblabkapeigaa.Ja Go.Proofs.Ytckblabkapeigaa.Jb Go.Proofs.Ytckblabkapeigaa.Jc Go.Proofs.Ytckblabkapeigaa.Jd Go.Proofs.Ytckblabkapeigaa.Jf Go.Proofs.Ytckblabkapeigaa.Jg Go.Proofs.Ytckblabkapeigaa.Jh Go.Proofs.Ytckblabkapeigaa.Ka Go.Proofs.Ytckblabkapeigaa.Kb Go.Proofs.Ytckblabkapeigaa.Kc Go.Proofs.Ytckblabkapeigaa.Kd2 Go.Proofs.Ytckblabkapeigaa.Nb Go.Proofs.Ytckblabkapeigaa.Ea8 Go.Proofs.Ytckblabkapeigaa.Eb8 Go.Proofs.Ytckblabkapeigaa.Ee8 Go.Proofs.Ytckblabkapeigaa.Eg8 Go.Proofs.Ytckblabkapeigaa.El8 Go.Proofs.Ytckblabkapeigaa.Eo8 Go.Proofs.Ytckblabkapeigaa.Es8 Go.Proofs.Ytckblabkapeigaa.Mk8 Go.Proofs.Ytckblabkapeigaa.Mh8 Go.Proofs.Ytckblabkapeigaa.Me8

theorem isS_nil {α : Type} (d : Kd α) (w : World) : IsS d w [] none 0 := (S_isS (Kd.S_nil d 0 w 0 (fun _ => True))).2
theorem sum_mem {α : Type} (c : α → Nat) : ∀ {l : List α} {x : α}, x ∈ l → c x ≤ (l.map c).sum
  | y :: ys, x, h => by
    rw [List.map_cons, List.sum_cons]
    rcases List.mem_cons.1 h with e | h
    · subst e; omega
    · have := sum_mem c h; omega
theorem rule_ok {l : List TRule} (h4 : l.length ≤ 4) (h : oksTo l l.length = true) : ∀ r ∈ l, okE r.f3 = true := fun r hr => by
  obtain ⟨i, hi, he⟩ := List.mem_iff_getElem.1 hr
  unfold oksTo at h
  have h1 := List.all_eq_true.1 h i (List.mem_range.2 hi)
  unfold goodAt at h1
  rw [Bool.and_eq_true] at h1
  have h2 := h1.1
  rw [List.getD_eq_getElem?_getD, List.getElem?_eq_getElem hi, he] at h2
  unfold ruleB at h2
  simp only [Option.getD_some, Bool.and_eq_true] at h2
  exact h2.2.2.1
/-- an engine that was opened: no events, none fired -/
abbrev oE (r : List TRule) (g : List TGraph) (k : List Int) : TEng := ⟨r, g, [], k, []⟩
theorem opE_form (l : List TRule) : ∃ r g k, opE l = oE r g k := by
  unfold opE
  split
  · exact ⟨_, _, _, rfl⟩
  · exact ⟨[], [], [], rfl⟩
theorem kids_small {x : Ex} (h : cntL x.f3 ≤ 11) : ∀ n ∈ ndsT (adX x []), n.f3.length ≤ 11 := by
  intro n hn
  unfold ndsT nds at hn
  rw [List.map_map] at hn
  obtain ⟨z, hz, rfl⟩ := List.mem_map.1 hn
  obtain ⟨t, h1, h2⟩ := adX_pre x []
  rw [h1, List.nil_append] at hz
  have := h2 z hz
  have := len_le_cnt z.f3
  simp only [Function.comp, mkN, ndOf, List.length_map]
  omega
theorem sum_bound {α : Type} (c : α → Nat) (b : Nat) : ∀ l : List α, (∀ x ∈ l, c x ≤ b) → cmS c l ≤ l.length * b
  | [], _ => by simp [cmS]
  | x :: xs, h => by
    have h1 := h x (by simp)
    have h2 := sum_bound c b xs (fun y hy => h y (by simp [hy]))
    rw [cmS_cons, List.length_cons, Nat.succ_mul]
    omega
theorem node_small {n : TNode} (hk : n.f3.length ≤ 11) (h : ∃ d, n = mkN d) : cmNode n ≤ 15 := by
  obtain ⟨d, rfl⟩ := h
  unfold cmNode
  simp only [mkN, zPair, zSpan, cmS, List.map_nil, List.sum_nil] at hk ⊢
  omega
theorem graph_small (r : TRule) (h : okE r.f3 = true) : cmGraph (grR r) ≤ 1000 := by
  have hc : cntL r.f3.f3 ≤ 11 := by
    unfold okE at h
    simp only [Bool.and_eq_true, decide_eq_true_eq] at h
    omega
  unfold grR grO
  split
  · unfold cmGraph
    have h1 := sum_bound cmNode 15 (ndsT (adX r.f3 [])) (fun n hn => node_small (kids_small hc n hn) (by
      unfold ndsT at hn
      obtain ⟨d, _, rfl⟩ := List.mem_map.1 hn
      exact ⟨d, rfl⟩))
    have h2 := adX_le r.f3 []
    rw [ndsT_len] at h1
    have h3 : (adX r.f3 []).length * 15 ≤ 12 * 15 := Nat.mul_le_mul_right _ (by simp at h2; omega)
    show 4 + cmS cmNode (ndsT (adX r.f3 [])) ≤ 1000
    omega
  · simp [cmGraph, zGraph, cmS]
theorem open_small (l : List TRule) : mcEng (opE l) ≤ 100000 := by
  unfold opE
  split
  · rename_i h
    unfold rulesB at h
    rw [Bool.and_eq_true, decide_eq_true_eq] at h
    obtain ⟨h4, hok⟩ := h
    have hr : ∀ r ∈ l, okE r.f3 = true := fun r hr => rule_ok h4 hok r hr
    have h1 := sum_bound cmGraph 1000 (l.map grR) (fun g hg => by obtain ⟨r, hr2, rfl⟩ := List.mem_map.1 hg; exact graph_small r (hr r hr2))
    have h2 := sum_bound cmRule 44 l (fun r hr2 => by
      have hk := hr r hr2
      unfold okE at hk
      simp only [Bool.and_eq_true, decide_eq_true_eq] at hk
      unfold cmRule
      omega)
    rw [List.length_map] at h1
    have h3 : l.length * 1000 ≤ 4 * 1000 := Nat.mul_le_mul_right _ h4
    have h5 : l.length * 44 ≤ 4 * 44 := Nat.mul_le_mul_right _ h4
    unfold mcEng
    show (cmS cmRule l : Int) + (cmS cmGraph (l.map grR) : Int) + (cmS cmEv [] : Int) + (([0, 0, 0, 0] : List Int).length : Int) + (cmS cmFire [] : Int) ≤ 100000
    simp only [cmS, List.map_nil, List.sum_nil, List.length_cons, List.length_nil] at h1 h2 ⊢
    omega
  · simp [mcEng, zEng, cmS]
theorem cmRule_le (l : List TRule) : cmS cmRule l ≤ 11 * l.length + 3 * (l.map cRule).sum := by
  induction l with
  | nil => simp [cmS]
  | cons x xs ih =>
    rw [cmS_cons, List.map_cons, List.sum_cons, List.length_cons]
    unfold cmRule cRule at *
    omega
/-- what lies in memory behind the first copies: x0 (a row from bx on, below N6), the program's engine (from bg on, below its box Ng) -/
structure LawMem (W5 W : World) (bx N6 bg Ng : Nat) (v6 v0 v1 v3 : Value) (o0 o1 o3 : Nat → Prop) (lx r : List TRule) (g : List TGraph) (k : List Int) : Prop where
  h5 : Below W5.heap.size W5 W
  x0 : Kd.S kRule 54 W bx (fun k => k < N6) v6 lx
  g0 : Kd.S kRule 54 W bg o0 v0 r
  g1 : Kd.S kGraph 48 W bg o1 v1 g
  g3 : Kd.S (Kd.int .i64) 3 W bg o3 v3 k
  ap : Ap (fun k => k < Ng) [o0, o1, fun _ => False, o3, fun _ => False]
  gb : W.heap[Ng]? = some (.cells #[v0, v1, .slice none 0 0, v3, .slice none 0 0] 30 (0, 0))
  i1 : W5.heap.size ≤ bx
  i2 : bx ≤ N6
  i3 : N6 ≤ bg
  i4 : bg ≤ Ng
section
variable {W5 W W' : World} {bx N6 bg Ng : Nat} {v6 v0 v1 v3 : Value} {o0 o1 o3 : Nat → Prop} {lx lx' r r' : List TRule} {g g' : List TGraph} {k k' : List Int}
theorem LawMem.below (h : LawMem W5 W bx N6 bg Ng v6 v0 v1 v3 o0 o1 o3 lx r g k) (hb : Below W.heap.size W W') : LawMem W5 W' bx N6 bg Ng v6 v0 v1 v3 o0 o1 o3 lx r g k :=
  ⟨below_then h.h5 h.h5.size hb, Kd.S_below h.x0 hb, Kd.S_below h.g0 hb, Kd.S_below h.g1 hb, Kd.S_below h.g3 hb, h.ap, blk_below h.gb hb, h.i1, h.i2, h.i3, h.i4⟩
theorem LawMem.markX (h : LawMem W5 W bx N6 bg Ng v6 v0 v1 v3 o0 o1 o3 lx r g k) (hf : Fr (fun j => j < N6 ∧ bx ≤ j) W W') (hs : Kd.S kRule 54 W' bx (fun k => k < N6) v6 lx') : LawMem W5 W' bx N6 bg Ng v6 v0 v1 v3 o0 o1 o3 lx' r g k := by
  have st : ∀ {α : Type} {d : Kd α} {e : Nat} {ok : Nat → Prop} {v : Value} {xs : List α}, Kd.S d e W bg ok v xs → Kd.S d e W' bg ok v xs := fun {α d e ok v xs} hs => Kd.S_mono (Kd.S_step (Kd.S_mono (Kd.S_bound hs) (ok' := fun j => ok j ∧ bg ≤ j) (fun j hj => ⟨hj.1, hj.2.1⟩)) (fun j hj hlt => hf.block j hlt (fun h2 => by have := hj.2; have := h2.1; have := h.i3; omega))) (fun j hj => hj.1)
  exact ⟨below_trans8 h.h5 (hf.below h.h5.size (fun j hj => Nat.le_trans h.i1 hj.2)), hs, st h.g0, st h.g1, st h.g3, h.ap, (hf.block Ng (blk_lt h.gb) (fun h2 => by have := h2.1; have := h.i3; have := h.i4; omega)).trans h.gb, h.i1, h.i2, h.i3, h.i4⟩
theorem LawMem.markG (h : LawMem W5 W bx N6 bg Ng v6 v0 v1 v3 o0 o1 o3 lx r g k) (hf : Fr (fun j => j < Ng ∧ bg ≤ j) W W') (h0 : Kd.S kRule 54 W' bg o0 v0 r') (h1 : Kd.S kGraph 48 W' bg o1 v1 g') (h3 : Kd.S (Kd.int .i64) 3 W' bg o3 v3 k') : LawMem W5 W' bx N6 bg Ng v6 v0 v1 v3 o0 o1 o3 lx r' g' k' :=
  ⟨below_trans8 h.h5 (hf.below h.h5.size (fun j hj => by have := hj.2; have := h.i1; have := h.i2; have := h.i3; omega)), Kd.S_step h.x0 (fun j hj hlt => hf.block j hlt (fun h2 => by have := h2.2; have := h.i3; omega)), h0, h1, h3, h.ap, (hf.block Ng (blk_lt h.gb) (fun h2 => by have := h2.1; omega)).trans h.gb, h.i1, h.i2, h.i3, h.i4⟩
end
theorem below_trans9 {w w1 w2 : World} (h : Below w.heap.size w w1) (g : Below w1.heap.size w1 w2) : Below w.heap.size w w2 := below_then h h.size g
theorem isR {α : Type} {d : Kd α} {e : Nat} {w : World} {base : Nat} {ok : Nat → Prop} {A : Option Addr} {n c : Nat} {l : List α} (h : Kd.S d e w base ok (.slice A n c) l) (hl : l.length = n) : IsS d w l A c := (S_isS h).2
set_option maxHeartbeats 8000000 in
set_option maxRecDepth 100000 in
theorem walk (l : List TRule) (A : Option Addr) (c : Nat) (wf : ∀ r ∈ l, r.f0.size ≤ 9223372036854775807) (w : World) (hL : IsS kRule w l A c) :
    Calls Try.prog 3 #[.slice A l.length c] w fun e w' => e = .returned (.bool true) ∧ Below w.heap.size w w' := by
  have HL := Aside0.mk hL
  have WF := Aside0.mk wf
  clear hL wf
  obtain ⟨n, hn⟩ : ∃ n : Nat, n = cS cRule l := ⟨_, rfl⟩
  have HN := Aside0.mk hn
  by_cases h : (1048576 : Int) - n < 0
  · have HI : Aside0 (szI 1048576 (cS cRule l) = -1) := ⟨by rw [HN.out.symm]; exact if_pos h⟩
    clear h hn
    go_enter Try.func3, Try.ntmps3
    go_wp2_with (go_at_call 4; refine (szRuleS_any A c l 1048576 (by omega) (by omega) WF.out _ HL.out).mono ?_; rintro e w2 ⟨rfl, hb2⟩; rw [HI.out]; have HB2 := Aside0.mk hb2; clear hb2)
    go_ret
    exact ⟨rfl, HB2.out⟩
  obtain ⟨r1, hr⟩ : ∃ r : Int, r = 1048576 - n := ⟨_, rfl⟩
  have HI : Aside0 (szI 1048576 (cS cRule l) = r1) := ⟨by rw [HN.out.symm]; exact (if_neg h).trans hr.symm⟩
  have d : decide (r1 < 0) = false := decide_eq_false (by omega)
  have hcs : cS cRule l ≤ 1048576 := by omega
  have HCS := Aside0.mk hcs
  have hll : l.length ≤ 1048576 := by have h2 : l.length + (l.map cRule).sum ≤ 1048576 := hcs; omega
  have HLL := Aside0.mk hll
  have HCC : Aside0 (∀ x ∈ l, cntL x.f3.f3 ≤ 1048576) := ⟨fun x hx => by
    have h2 : l.length + (l.map cRule).sum ≤ 1048576 := hcs
    have h3 := sum_mem cRule hx; have h4 : cRule x = x.f0.size + cntL x.f3.f3 := rfl
    omega⟩
  obtain ⟨r, g, k, hx⟩ := opE_form l
  have HO := Aside0.mk hx
  have HSM := Aside0.mk (open_small l)
  rw [hx] at HSM
  have HKB : Aside0 (1 + (cmS cmRule l : Int) ≤ 4611686018427387904) := ⟨by
    have h1 := cmRule_le l
    have h2 : l.length + (l.map cRule).sum ≤ 1048576 := hcs
    omega⟩
  clear h hr hn hcs hll hx
  go_enter Try.func3, Try.ntmps3
  go_upto_region 5 with (go_at_call 4; refine (szRuleS_any A c l 1048576 (by omega) (by omega) WF.out _ HL.out).mono ?_; rintro e w2 ⟨rfl, hb2⟩; rw [HI.out]; have HB2 := Aside0.mk hb2; clear hb2)
  clear d
  go_upto_region 6 with (first
    | (go_at_call 5; refine (sOpen_any A3 c3 l _ HLL.out WF.out HCC.out HE3.out).mono ?_; rintro e w4 hq; rw [HO.out] at hq; obtain ⟨v0, v1, v3, P0, P1, P3, rfl, -, -, q0, q1, q3, -, -, hb4⟩ := hq; obtain ⟨V0, c0, rfl⟩ := Kd.S_slice q0; obtain ⟨V1, c1, rfl⟩ := Kd.S_slice q1; obtain ⟨V3, c3', rfl⟩ := Kd.R_slice q3; have HV0 := Aside0.mk (S_isS q0).2; have HV1 := Aside0.mk (S_isS q1).2; have HV3 := Aside0.mk (S_isS (S_ints q3)).2; have HB4 := Aside0.mk (below_trans9 HB3.out hb4); clear q0 q1 q3 hb4)
    | (go_at_call 6; refine (toRuleS_any A c l _ HCS.out (HL.out.below HB2.out)).mono ?_; rintro e w3 ⟨v, rfl, hs, hb3⟩; obtain ⟨A3, c3, rfl⟩ := Kd.S_slice hs; have HE3 := Aside0.mk (S_isS hs).2; have HB3 := Aside0.mk (below_trans9 HB2.out hb3); clear hs hb3))
  have hba := below_alloc (Below.refl w4.heap.size w4) (.cells #[.slice V0 r.length c0, .slice V1 g.length c1, .slice none 0 0, .slice V3 k.length c3', .slice none 0 0] 30)
  have b5 := blk_new w4 (.cells #[.slice V0 r.length c0, .slice V1 g.length c1, .slice none 0 0, .slice V3 k.length c3', .slice none 0 0] 30)
  have HB5 := Aside0.mk (below_trans9 HB4.out hba)
  replace HV0 := Aside0.mk (HV0.out.below hba)
  replace HV1 := Aside0.mk (HV1.out.below hba)
  replace HV3 := Aside0.mk (HV3.out.below hba)
  obtain ⟨N4, hN4⟩ : ∃ N, N = w4.heap.size := ⟨_, rfl⟩
  rw [← hN4] at b5 ⊢
  generalize w4.alloc (.cells #[.slice V0 r.length c0, .slice V1 g.length c1, .slice none 0 0, .slice V3 k.length c3', .slice none 0 0] 30) = W5 at hba b5 HB5 HV0 HV1 HV3 ⊢
  have BW := Aside0.mk b5
  clear hba b5 hN4 HE3 HB3 HB4
  go_upto_region 7 with (go_at_call 6; refine (toRuleS_any A c l _ HCS.out (HL.out.below HB5.out)).mono ?_; rintro e w6 ⟨v, rfl, hs, hb6⟩; obtain ⟨A6, c6, rfl⟩ := Kd.S_slice hs; have HX6 := Aside0.mk (Kd.S_mono (Kd.S_bound hs) (ok' := fun k => k < w6.heap.size) (fun k hk => hk.2.2.1)); have HB6 := Aside0.mk hb6; clear hs hb6)
  go_upto_region 8 with (go_at_call 7; refine (iOpen_any A6 c6 l _ HLL.out WF.out HCC.out (S_isS HX6.out).2).mono ?_; rintro e w7 hq; rw [HO.out] at hq; obtain ⟨v0, v1, v3, P0, P1, P3, rfl, -, -, q0, q1, q3, d0, d1, hb7⟩ := hq; obtain ⟨G0, g0, rfl⟩ := Kd.S_slice q0; obtain ⟨G1, g1, rfl⟩ := Kd.S_slice q1; obtain ⟨G3, g3, rfl⟩ := Kd.R_slice q3; have HQ0 := Aside0.mk (Kd.S_mono (Kd.S_bound q0) (ok' := fun k => P0 k ∧ k < w7.heap.size) (fun k hk => ⟨hk.1, hk.2.2.1⟩)); have HQ1 := Aside0.mk (Kd.S_mono (Kd.S_bound q1) (ok' := fun k => P1 k ∧ k < w7.heap.size) (fun k hk => ⟨hk.1, hk.2.2.1⟩)); have HQ3 := Aside0.mk (Kd.S_mono (Kd.S_bound (S_ints q3)) (ok' := fun k => P3 k ∧ k < w7.heap.size) (fun k hk => ⟨hk.1, hk.2.2.1⟩)); have HAP : Aside0 (Ap (fun k => k < w7.heap.size) [fun k => P0 k ∧ k < w7.heap.size, fun k => P1 k ∧ k < w7.heap.size, fun _ => False, fun k => P3 k ∧ k < w7.heap.size, fun _ => False]) := ⟨by simp only [Ap, List.mem_cons, List.not_mem_nil, or_false, forall_eq_or_imp, forall_eq, false_imp_iff, implies_true, and_true, not_false_eq_true]; and_intros <;> grind⟩; have HB7 := Aside0.mk hb7; clear q0 q1 q3 d0 d1 hb7)
  have hba := below_alloc (Below.refl w7.heap.size w7) (.cells #[.slice G0 r.length g0, .slice G1 g.length g1, .slice none 0 0, .slice G3 k.length g3, .slice none 0 0] 30)
  have hm : LawMem W5 (w7.alloc (.cells #[.slice G0 r.length g0, .slice G1 g.length g1, .slice none 0 0, .slice G3 k.length g3, .slice none 0 0] 30)) W5.heap.size w6.heap.size w6.heap.size w7.heap.size (.slice A6 l.length c6) (.slice G0 r.length g0) (.slice G1 g.length g1) (.slice G3 k.length g3) _ _ _ l r g k :=
    ⟨below_trans9 (below_trans9 HB6.out HB7.out) hba, Kd.S_below (Kd.S_below HX6.out HB7.out) hba, Kd.S_below HQ0.out hba, Kd.S_below HQ1.out hba, Kd.S_below HQ3.out hba, HAP.out, blk_new _ _, Nat.le_refl _, HB6.out.size, Nat.le_refl _, HB7.out.size⟩
  have HM := Aside0.mk hm
  clear hm hba
  generalize (fun k => P0 k ∧ k < w7.heap.size) = o0 at HM
  generalize (fun k => P1 k ∧ k < w7.heap.size) = o1 at HM
  generalize (fun k => P3 k ∧ k < w7.heap.size) = o3 at HM
  generalize w7.alloc (.cells #[.slice G0 r.length g0, .slice G1 g.length g1, .slice none 0 0, .slice G3 k.length g3, .slice none 0 0] 30) = W8 at HM ⊢
  obtain ⟨Ng, hNg⟩ : ∃ N, N = w7.heap.size := ⟨_, rfl⟩
  rw [← hNg] at HM ⊢
  generalize w6.heap.size = bg at HM
  clear hNg HX6 HQ0 HQ1 HQ3 HAP HB6 HB7
  obtain ⟨kx, hkx⟩ : ∃ q : Int, q = 1 + (cmS cmRule l : Int) := ⟨_, rfl⟩
  obtain ⟨mg, hmg⟩ : ∃ q : Int, q = 1 + mcEng (oE r g k) := ⟨_, rfl⟩
  have HKX := Aside0.mk hkx
  have HMG := Aside0.mk hmg
  have hnn : 0 ≤ mcEng (oE r g k) := by unfold mcEng; omega
  have dx : decide (kx < 0) = false := decide_eq_false (by omega)
  have dm : decide (mg < 0) = false := decide_eq_false (by omega)
  have xm : (mg != mg) = false := by simp
  clear hkx hmg hnn
  have p0 := (blk_cell HM.out.gb 0).trans rfl
  have p1 := (blk_cell HM.out.gb 1).trans rfl
  have p2 := (blk_cell HM.out.gb 2).trans rfl
  have p3 := (blk_cell HM.out.gb 3).trans rfl
  have p4 := (blk_cell HM.out.gb 4).trans rfl
  have q0 := (blk_cell (blk_below BW.out HM.out.h5) 0).trans rfl
  have q1 := (blk_cell (blk_below BW.out HM.out.h5) 1).trans rfl
  have q2 := (blk_cell (blk_below BW.out HM.out.h5) 2).trans rfl
  have q3 := (blk_cell (blk_below BW.out HM.out.h5) 3).trans rfl
  have q4 := (blk_cell (blk_below BW.out HM.out.h5) 4).trans rfl
  go_upto_region 10 with (go_at_call 8; refine (eqEng_any (oE r g k) G0 g0 G1 g1 none 0 G3 g3 none 0 V0 c0 V1 c1 none 0 V3 c3' none 0 _ (S_isS HM.out.g0).2 (S_isS HM.out.g1).2 (isS_nil _ _) (S_isS HM.out.g3).2 (isS_nil _ _) (HV0.out.below HM.out.h5) (HV1.out.below HM.out.h5) (isS_nil _ _) (HV3.out.below HM.out.h5) (isS_nil _ _)).mono ?_; rintro e w9 ⟨rfl, hb⟩; have HM9 := Aside0.mk (HM.out.below hb); clear hb)
  clear p0 p1 p2 p3 p4
  clear q0 q1 q2 q3 q4
  clear HM
  go_upto_region 13 with (first
    | (go_at_call 9; refine (eqRuleS_any A6 A10 c6 c10 l _ (S_isS HM10.out.x0).2 HE10.out).mono ?_; rintro e w11 ⟨rfl, hb⟩; have HM11 := Aside0.mk (HM10.out.below hb); clear hb)
    | (go_at_call 6; refine (toRuleS_any A c l _ HCS.out (HL.out.below (below_trans9 HB5.out HM9.out.h5))).mono ?_; rintro e w10 ⟨v, rfl, hs, hb⟩; obtain ⟨A10, c10, rfl⟩ := Kd.S_slice hs; have HE10 := Aside0.mk (S_isS hs).2; have HM10 := Aside0.mk (HM9.out.below hb); clear hs hb))
  clear HM9 HM10 HE10
  go_upto_region 14 with (go_at_call 10; refine (markRuleS_any W5.heap.size _ (.slice A6 l.length c6) l 1 _ (by omega) HKB.out HM11.out.x0).mono ?_; rintro e w12 ⟨rfl, hs, hf⟩; rw [← HKX.out]; have HM12 := Aside0.mk (HM11.out.markX hf hs); clear hs hf)
  clear HM11
  have p0 := (blk_cell HM12.out.gb 0).trans rfl
  have p1 := (blk_cell HM12.out.gb 1).trans rfl
  have p2 := (blk_cell HM12.out.gb 2).trans rfl
  have p3 := (blk_cell HM12.out.gb 3).trans rfl
  have p4 := (blk_cell HM12.out.gb 4).trans rfl
  have q0 := (blk_cell (blk_below BW.out HM12.out.h5) 0).trans rfl
  have q1 := (blk_cell (blk_below BW.out HM12.out.h5) 1).trans rfl
  have q2 := (blk_cell (blk_below BW.out HM12.out.h5) 2).trans rfl
  have q3 := (blk_cell (blk_below BW.out HM12.out.h5) 3).trans rfl
  have q4 := (blk_cell (blk_below BW.out HM12.out.h5) 4).trans rfl
  go_upto_region 16 with (go_at_call 8; refine (eqEng_any (oE r g k) G0 g0 G1 g1 none 0 G3 g3 none 0 V0 c0 V1 c1 none 0 V3 c3' none 0 _ (S_isS HM12.out.g0).2 (S_isS HM12.out.g1).2 (isS_nil _ _) (S_isS HM12.out.g3).2 (isS_nil _ _) (HV0.out.below HM12.out.h5) (HV1.out.below HM12.out.h5) (isS_nil _ _) (HV3.out.below HM12.out.h5) (isS_nil _ _)).mono ?_; rintro e w13 ⟨rfl, hb⟩; have HM13 := Aside0.mk (HM12.out.below hb); clear hb)
  clear p0 p1 p2 p3 p4
  clear q0 q1 q2 q3 q4
  clear HM12
  have p0 := (blk_cell HM13.out.gb 0).trans rfl
  have p1 := (blk_cell HM13.out.gb 1).trans rfl
  have p2 := (blk_cell HM13.out.gb 2).trans rfl
  have p3 := (blk_cell HM13.out.gb 3).trans rfl
  have p4 := (blk_cell HM13.out.gb 4).trans rfl
  go_upto_region 18 with (go_at_call 11; refine (markEng_any (oE r g k) bg (fun j => j < Ng) (.slice G0 r.length g0) (.slice G1 g.length g1) (.slice none 0 0) (.slice G3 k.length g3) (.slice none 0 0) o0 o1 (fun _ => False) o3 (fun _ => False) 1 _ (by omega) (by have := HSM.out; omega) (by have h1 := HM13.out.i4; have h2 := blk_lt HM13.out.gb; omega) HM13.out.g0 HM13.out.g1 (Kd.S_nil _ _ _ _ _) HM13.out.g3 (Kd.S_nil _ _ _ _ _) HM13.out.ap).mono ?_; rintro e w14 ⟨rfl, s0, s1, -, s3, -, hf⟩; rw [← HMG.out]; have HM14 := Aside0.mk (HM13.out.markG hf s0 s1 s3); clear s0 s1 s3 hf)
  clear p0 p1 p2 p3 p4
  clear HM13
  have p0 := (blk_cell HM14.out.gb 0).trans rfl
  have p1 := (blk_cell HM14.out.gb 1).trans rfl
  have p2 := (blk_cell HM14.out.gb 2).trans rfl
  have p3 := (blk_cell HM14.out.gb 3).trans rfl
  have p4 := (blk_cell HM14.out.gb 4).trans rfl
  go_upto_region 24 with (go_at_call 12; refine (heldEng_any (oE r g k) G0 g0 G1 g1 none 0 G3 g3 none 0 1 _ (by omega) (by have := HSM.out; omega) (isR HM14.out.g0 (mkS_len _ _ _ _)) (isR HM14.out.g1 (mkS_len _ _ _ _)) (isS_nil _ _) (isR HM14.out.g3 (Ej8.mkI_len _ _)) (isS_nil _ _)).mono ?_; rintro e w15 ⟨rfl, hb⟩; rw [← HMG.out]; have HM15 := Aside0.mk (HM14.out.below hb); clear hb)
  clear p0 p1 p2 p3 p4
  clear HM14
  go_upto_region 25 with (first
    | (go_at_call 7; refine (iOpen_any A16 c16 l _ HLL.out WF.out HCC.out HE16.out).mono ?_; rintro e w17 hq; rw [HO.out] at hq; obtain ⟨v0, v1, v3, P0, P1, P3, rfl, -, -, q0, q1, q3, d0, d1, hb7⟩ := hq; obtain ⟨J0, j0, rfl⟩ := Kd.S_slice q0; obtain ⟨J1, j1, rfl⟩ := Kd.S_slice q1; obtain ⟨J3, j3, rfl⟩ := Kd.R_slice q3; have HJ0 := Aside0.mk (S_isS q0).2; have HJ1 := Aside0.mk (S_isS q1).2; have HJ3 := Aside0.mk (S_isS (S_ints q3)).2; have HM17 := Aside0.mk (HM16.out.below hb7); clear q0 q1 q3 d0 d1 hb7)
    | (go_at_call 6; refine (toRuleS_any A c l _ HCS.out (HL.out.below (below_trans9 HB5.out HM15.out.h5))).mono ?_; rintro e w16 ⟨v, rfl, hs, hb⟩; obtain ⟨A16, c16, rfl⟩ := Kd.S_slice hs; have HE16 := Aside0.mk (S_isS hs).2; have HM16 := Aside0.mk (HM15.out.below hb); clear hs hb))
  clear HM15 HM16 HE16
  have hba := below_alloc (Below.refl w17.heap.size w17) (.cells #[.slice J0 r.length j0, .slice J1 g.length j1, .slice none 0 0, .slice J3 k.length j3, .slice none 0 0] 30)
  have b17 := blk_new w17 (.cells #[.slice J0 r.length j0, .slice J1 g.length j1, .slice none 0 0, .slice J3 k.length j3, .slice none 0 0] 30)
  have HM18 := Aside0.mk (HM17.out.below hba)
  replace HJ0 := Aside0.mk (HJ0.out.below hba)
  replace HJ1 := Aside0.mk (HJ1.out.below hba)
  replace HJ3 := Aside0.mk (HJ3.out.below hba)
  obtain ⟨N17, hN⟩ : ∃ N, N = w17.heap.size := ⟨_, rfl⟩
  rw [← hN] at b17 ⊢
  generalize w17.alloc (.cells #[.slice J0 r.length j0, .slice J1 g.length j1, .slice none 0 0, .slice J3 k.length j3, .slice none 0 0] 30) = W18 at b17 HM18 HJ0 HJ1 HJ3 ⊢
  clear hba hN HM17
  have p0 := (blk_cell b17 0).trans rfl
  have p1 := (blk_cell b17 1).trans rfl
  have p2 := (blk_cell b17 2).trans rfl
  have p3 := (blk_cell b17 3).trans rfl
  have p4 := (blk_cell b17 4).trans rfl
  have q0 := (blk_cell (blk_below BW.out HM18.out.h5) 0).trans rfl
  have q1 := (blk_cell (blk_below BW.out HM18.out.h5) 1).trans rfl
  have q2 := (blk_cell (blk_below BW.out HM18.out.h5) 2).trans rfl
  have q3 := (blk_cell (blk_below BW.out HM18.out.h5) 3).trans rfl
  have q4 := (blk_cell (blk_below BW.out HM18.out.h5) 4).trans rfl
  go_upto_region 27 with (go_at_call 8; refine (eqEng_any (oE r g k) J0 j0 J1 j1 none 0 J3 j3 none 0 V0 c0 V1 c1 none 0 V3 c3' none 0 _ HJ0.out HJ1.out (isS_nil _ _) HJ3.out (isS_nil _ _) (HV0.out.below HM18.out.h5) (HV1.out.below HM18.out.h5) (isS_nil _ _) (HV3.out.below HM18.out.h5) (isS_nil _ _)).mono ?_; rintro e w19 ⟨rfl, hb⟩; have HM19 := Aside0.mk (HM18.out.below hb); clear hb)
  clear p0 p1 p2 p3 p4
  clear q0 q1 q2 q3 q4
  clear HM18 b17 HJ0 HJ1 HJ3
  have p0 := (blk_cell HM19.out.gb 0).trans rfl
  have p1 := (blk_cell HM19.out.gb 1).trans rfl
  have p2 := (blk_cell HM19.out.gb 2).trans rfl
  have p3 := (blk_cell HM19.out.gb 3).trans rfl
  have p4 := (blk_cell HM19.out.gb 4).trans rfl
  go_wp2_with (go_at_call 12; refine (heldEng_any (oE r g k) G0 g0 G1 g1 none 0 G3 g3 none 0 1 _ (by omega) (by have := HSM.out; omega) (isR HM19.out.g0 (mkS_len _ _ _ _)) (isR HM19.out.g1 (mkS_len _ _ _ _)) (isS_nil _ _) (isR HM19.out.g3 (Ej8.mkI_len _ _)) (isS_nil _ _)).mono ?_; rintro e w20 ⟨rfl, hb⟩; rw [← HMG.out]; have HM20 := Aside0.mk (HM19.out.below hb); clear hb)
  go_ret
  exact ⟨rfl, below_trans9 HB5.out HM20.out.h5⟩
end Go.Proofs.Ytckblabkapeigaa.Lo8
