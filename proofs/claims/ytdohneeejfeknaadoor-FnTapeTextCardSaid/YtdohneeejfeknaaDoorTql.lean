
/- The reference's draws of bent calls. Printed by genTql.py. -/
import Derived.Test.YtdohneeejfeknaaDoorTqk
set_option linter.unusedVariables false
set_option linter.unusedSimpArgs false
namespace Go.Proofs.YtdohneeejfeknaaDoor.Tql
open Go.RowKit Go.Proofs.YtdohneeejfeknaaDoorW.PrintWords Go.Proofs.YtdohneeejfeknaaDoor.Ja Go.Proofs.YtdohneeejfeknaaDoor.Tqa Go.Proofs.YtdohneeejfeknaaDoor.Tqb Go.Proofs.YtdohneeejfeknaaDoor.Tqg Go.Proofs.YtdohneeejfeknaaDoor.Tqk
theorem c_set {w0 w W : World} {g gl n cap : Nat} {bs : List Int} {l : List TCall} (HM : CMem w0 w W g bs (.slice (some ⟨gl, 0, none⟩) n cap) l) (hgw : g < w.heap.size) {k : Nat} (hk : k < n) {c : List Value} (hc : c.length = 3) (hcc : ∀ j u, c[j]? = some u → W.cell? ⟨gl, k * 3 + j, none⟩ = some u)
    (j : Nat) (hj : j + 1 ≤ 3) (u : Value) (x' : TCall) (hM : kCall.M W w.heap.size (fun i => True ∧ i ≠ gl) x' (c.take j ++ [u] ++ c.drop (j + 1))) (hx : Sm x') : CMem w0 w (W.setCell ⟨gl, k * 3 + j, none⟩ u) g bs (.slice (some ⟨gl, 0, none⟩) n cap) (l.set k x') := by
  have hb := Kd.R_base HM.own gl rfl
  have h := (Kd.R_seg HM.own (k : Int) (by omega) (by omega) hc hcc (seg := [u]) (j := j) hj hM (fun _ h => h)).1
  obtain ⟨q, hq, hr⟩ := HM.rd
  have hwb := hr.base
  refine ⟨h, ⟨q, hq, rd_far hr (by omega) (by omega) _ _⟩, grown_set (n := 0) HM.gr hb, by rw [List.length_set]; exact HM.len, fun y hy => ?_⟩
  rcases List.mem_or_eq_of_mem_set hy with h | h
  · exact HM.sm y h
  · rw [h]; exact hx
theorem c_step {w0 w W W' : World} {g : Nat} {bs : List Int} {v : Value} {l : List TCall} (HM : CMem w0 w W g bs v l) (hgw : g < w.heap.size) (hg : W.grownBy W' (some g)) {q : Nat} (hq : q ≤ 1000) (hr : Rd w0 W' g bs q) : CMem w0 w W' g bs v l :=
  ⟨own_step HM.own hg hgw, ⟨q, hq, hr⟩, grown_new HM.gr hg (fun j hj => .inr hj.symm), HM.len, HM.sm⟩
theorem R_one {w : World} {base : Nat} {A : Option Addr} {n c : Nat} {l : List TCall} (h : kCall.R 41 w base (fun _ => True) (.slice A n c) l) (k : Nat) (hk : k < n) : ∃ gl, A = some ⟨gl, 0, none⟩ ∧ base ≤ gl ∧ gl < w.heap.size ∧ (∀ j u, [Value.int .i64 (l.getD k zCall).f0, .int .i64 (l.getD k zCall).f1, .int .i64 (l.getD k zCall).f2][j]? = some u → w.cell? ⟨gl, k * 3 + j, none⟩ = some u) ∧ ∀ j, w.frozen? ⟨gl, k * 3 + j, none⟩ = false := by
  obtain ⟨hn, _, _⟩ := Kd.R_reads' h
  obtain ⟨gl, cap, hv, hb, hg, _⟩ := Kd.R_form h (by omega)
  injection hv with h1 h2 h3
  subst h1
  obtain ⟨cc, hc1, hM, hcc, hfz⟩ := Kd.R_elem h zCall (k : Int) (by omega) (by omega)
  rw [Int.toNat_natCast] at hM hcc hfz
  obtain rfl := kCall_openM hM
  exact ⟨gl, rfl, hb, hg, hcc, hfz⟩
set_option maxHeartbeats 4000000 in
set_option maxRecDepth 100000 in
theorem l10Bent_any (w0 : World) (g : Nat) (bs : List Int) (p : Nat) (w : World) (h : Rd w0 w g bs p) (hp : p ≤ 100) :
    Calls Tryd.prog 21 #[.pointer (some ⟨g, 0, none⟩)] w fun e w' => COut w0 w w' g bs e := by
  have hgw := rd_lt h
  have hwb0 := h.base
  go_enter Tryd.func21, Tryd.ntmps21
  go_upto_region 2 with (go_at_call 39; refine (l10Calls_any w0 g bs p _ h hp).mono ?_; rintro e w1 ⟨v1, l, q1, rfl, ho, hq1, hr1, hg1, hl1, hs1⟩; obtain ⟨A1, c1, rfl⟩ := Kd.R_slice ho; have HR1 := Aside0.mk hr1; have HM1 : Aside0 (CMem w0 w w1 g bs (.slice A1 l.length c1) l) := ⟨⟨ho, ⟨q1, by omega, hr1⟩, hg1, by omega, hs1⟩⟩; have HL1 := Aside0.mk hl1; clear ho hr1 hg1 hl1 hs1)
  by_cases h0 : l.length = 0
  · have HP : Aside0 (COut w0 w w1 g bs (.returned (.slice A1 l.length c1))) := ⟨_, l, rfl, HM1.out⟩
    have d0 : ((l.length : Int) == 0) = true := by simp [h0]
    obtain ⟨n, hn⟩ : ∃ n, n = l.length := ⟨_, rfl⟩
    rw [← hn] at HP d0 ⊢
    clear h0 hn
    go_wp2
    go_ret
    exact HP.out
  have hlpos : 0 < l.length := by omega
  have d0 : ((l.length : Int) == 0) = false := by rw [beq_eq_false_iff_ne]; omega
  clear h0
  go_upto_region 5 with (go_at_call 28; refine (pick_any w0 g bs q1 l.length _ HR1.out (by omega) (by have := HL1.out; omega)).mono ?_; rintro e w2 ⟨x, rfl, hx, hr2, hg2⟩; obtain ⟨k, rfl⟩ := Int.eq_ofNat_of_zero_le hx.1; have hkl : k < l.length := by { have := hx.2.1 (by omega); omega }; have HR2 := Aside0.mk hr2; have HM2 := Aside0.mk (c_step HM1.out hgw hg2 (by omega) hr2); clear hx hr2 hg2)
  go_upto_region 6 with (go_at_call 28; refine (pick_any w0 g bs (q1 + 1) 40 _ HR2.out (by omega) (by omega)).mono ?_; rintro e w3 ⟨y, rfl, hy, hr3, hg3⟩; have HR3 := Aside0.mk hr3; have HM3 := Aside0.mk (c_step HM2.out hgw hg3 (by omega) hr3); clear hy hr3 hg3)
  obtain ⟨gl, rfl, hgb, hgl, hcc, hfz⟩ := R_one HM3.out.own k hkl
  have hxm : l.getD k zCall ∈ l := by rw [List.getD_eq_getElem?_getD, List.getElem?_eq_getElem hkl]; exact List.getElem_mem _
  have HXS := Aside0.mk (HM3.out.sm _ hxm)
  clear hxm
  generalize l.getD k zCall = x at hcc HXS
  have HCC := Aside0.mk hcc
  have z0 : w3.frozen? ⟨gl, k * 3, none⟩ = false := hfz 0
  have z1 : w3.frozen? ⟨gl, k * 3 + 1, none⟩ = false := hfz 1
  have z2 : w3.frozen? ⟨gl, k * 3 + 2, none⟩ = false := hfz 2
  have HGL := Aside0.mk hgl
  clear hcc hfz hgl
  have i1 : (k : Int) < l.length := by omega
  have hglg : gl ≠ g := by omega
  by_cases hy0 : y = 0
  · subst hy0
    go_wp2_with (go_at_call 40; refine (numL w0 g bs (q1 + 1 + 1) [-1, 5] _ 2 _ HR3.out (by omega) (by decide) (by decide) rfl rfl).mono ?_; rintro e w4 ⟨nv, rfl, hnv, hr4, hg4⟩; have hnv2 : -1000 ≤ nv ∧ nv ≤ 1000 := by { simp at hnv; omega }; have hcb : w4.heap[gl]? = w3.heap[gl]? := hg4.block gl HGL.out (by simp; omega); have HM4 := Aside0.mk (c_step HM3.out hgw hg4 (by omega) hr4); have HCC4 := Aside0.mk (show ∀ (j : Nat) (u : Value), [Value.int .i64 x.f0, Value.int .i64 x.f1, Value.int .i64 x.f2][j]? = some u → w4.cell? ⟨gl, k * 3 + j, none⟩ = some u from fun j u h => (World.cell?_of_block hcb).trans (HCC.out j u h)); have dd : w4.cell? ⟨gl, k * 3, none⟩ = some (.int .i64 x.f0) := HCC4.out 0 _ rfl; have zz : w4.frozen? ⟨gl, k * 3, none⟩ = false := (World.frozen?_of_block hcb).trans z0; clear hnv hr4 hg4 hcb)
    have HP : Aside0 (COut w0 w (w4.setCell ⟨gl, k * 3, none⟩ (.int .i64 nv)) g bs (.returned (.slice (some ⟨gl, 0, none⟩) l.length c1))) := ⟨_, _, rfl, c_set HM4.out hgw hkl (c := [.int .i64 x.f0, .int .i64 x.f1, .int .i64 x.f2]) rfl HCC4.out 0 (by omega) (.int .i64 nv) ⟨nv, x.f1, x.f2⟩ (kCall_mkM _ _ _ ⟨nv, x.f1, x.f2⟩) ⟨HXS.out.1, HXS.out.2⟩⟩
    go_ret
    exact HP.out
  have e0 : (y == 0) = false := by simp [hy0]
  by_cases hy1 : y = 1
  · subst hy1
    go_wp2_with (go_at_call 40; refine (numL w0 g bs (q1 + 1 + 1) [0, 21] _ 2 _ HR3.out (by omega) (by decide) (by decide) rfl rfl).mono ?_; rintro e w4 ⟨nv, rfl, hnv, hr4, hg4⟩; have hnv2 : -1000 ≤ nv ∧ nv ≤ 1000 := by { simp at hnv; omega }; have hcb : w4.heap[gl]? = w3.heap[gl]? := hg4.block gl HGL.out (by simp; omega); have HM4 := Aside0.mk (c_step HM3.out hgw hg4 (by omega) hr4); have HCC4 := Aside0.mk (show ∀ (j : Nat) (u : Value), [Value.int .i64 x.f0, Value.int .i64 x.f1, Value.int .i64 x.f2][j]? = some u → w4.cell? ⟨gl, k * 3 + j, none⟩ = some u from fun j u h => (World.cell?_of_block hcb).trans (HCC.out j u h)); have dd : w4.cell? ⟨gl, k * 3 + 1, none⟩ = some (.int .i64 x.f1) := HCC4.out 1 _ rfl; have zz : w4.frozen? ⟨gl, k * 3 + 1, none⟩ = false := (World.frozen?_of_block hcb).trans z1; clear hnv hr4 hg4 hcb)
    have HP : Aside0 (COut w0 w (w4.setCell ⟨gl, k * 3 + 1, none⟩ (.int .i64 nv)) g bs (.returned (.slice (some ⟨gl, 0, none⟩) l.length c1))) := ⟨_, _, rfl, c_set HM4.out hgw hkl (c := [.int .i64 x.f0, .int .i64 x.f1, .int .i64 x.f2]) rfl HCC4.out 1 (by omega) (.int .i64 nv) ⟨x.f0, nv, x.f2⟩ (kCall_mkM _ _ _ ⟨x.f0, nv, x.f2⟩) ⟨⟨by show _ ≤ nv; omega, by show nv ≤ _; omega⟩, HXS.out.2⟩⟩
    go_ret
    exact HP.out
  have e1 : (y == 1) = false := by simp [hy1]
  by_cases hy2 : y = 2
  · subst hy2
    go_wp2_with (go_at_call 40; refine (numL w0 g bs (q1 + 1 + 1) [-1, 101] _ 2 _ HR3.out (by omega) (by decide) (by decide) rfl rfl).mono ?_; rintro e w4 ⟨nv, rfl, hnv, hr4, hg4⟩; have hnv2 : -1000 ≤ nv ∧ nv ≤ 1000 := by { simp at hnv; omega }; have hcb : w4.heap[gl]? = w3.heap[gl]? := hg4.block gl HGL.out (by simp; omega); have HM4 := Aside0.mk (c_step HM3.out hgw hg4 (by omega) hr4); have HCC4 := Aside0.mk (show ∀ (j : Nat) (u : Value), [Value.int .i64 x.f0, Value.int .i64 x.f1, Value.int .i64 x.f2][j]? = some u → w4.cell? ⟨gl, k * 3 + j, none⟩ = some u from fun j u h => (World.cell?_of_block hcb).trans (HCC.out j u h)); have dd : w4.cell? ⟨gl, k * 3 + 2, none⟩ = some (.int .i64 x.f2) := HCC4.out 2 _ rfl; have zz : w4.frozen? ⟨gl, k * 3 + 2, none⟩ = false := (World.frozen?_of_block hcb).trans z2; clear hnv hr4 hg4 hcb)
    have HP : Aside0 (COut w0 w (w4.setCell ⟨gl, k * 3 + 2, none⟩ (.int .i64 nv)) g bs (.returned (.slice (some ⟨gl, 0, none⟩) l.length c1))) := ⟨_, _, rfl, c_set HM4.out hgw hkl (c := [.int .i64 x.f0, .int .i64 x.f1, .int .i64 x.f2]) rfl HCC4.out 2 (by omega) (.int .i64 nv) ⟨x.f0, x.f1, nv⟩ (kCall_mkM _ _ _ ⟨x.f0, x.f1, nv⟩) ⟨HXS.out.1, by show _ ≤ nv; omega, by show nv ≤ _; omega⟩⟩
    go_ret
    exact HP.out
  have e2 : (y == 2) = false := by simp [hy2]
  by_cases hy3 : y = 3
  · subst hy3
    clear e0 e1 e2 hy0 hy1 hy2
    have HQ0 : Aside0 (Rd w0 w3 g bs (q1 + 1 + 1)) := HR3
    go_wp2
    go_loopw [3] (fun v3 wr => ∃ (l2 : List TCall) (A : Option Addr) (c : Nat), v3 = .slice A l2.length c ∧ l2.length ≤ 31 ∧ Aside0 (CMem w0 w wr g bs (.slice A l2.length c) l2)) (fun v3 _ => 31 - (match v3 with | .slice _ n _ => n | _ => 0))
    case atStart => exact ⟨l, _, _, rfl, by have := HM3.out.len; exact this, HM3⟩
    case round =>
      clear HM3 HM2 HM1 HCC z0 z1 z2 HXS HQ0 HR3 HR2 HR1
      obtain ⟨l2, A, c, rfl, hl2, HM⟩ := hrel
      by_cases hlt : l2.length ≤ 30
      · have g1 : decide (l2.length ≤ 30) = true := decide_eq_true hlt
        have g2 : decide ((l2.length : Int) ≤ 30) = true := decide_eq_true (by omega)
        have hll : (l2.length + 1) * 24 ≤ 140737488355328 := by omega
        go_wp2_with ((with_reducible refine gate_dst (N := 52) rfl ?_); refine Kd.R_append kCall (w0 := wr) w.heap.size rfl _ _ 22 41 (.agg #[.int .i64 0, .int .i64 0, .int .i64 0]) 24 rfl Tryd.underlying22 infoCall rfl (by decide) (by decide) (.slice A l2.length c) l2 ⟨0, 1, 0⟩ [.int .i64 0, .int .i64 1, .int .i64 0] (fun _ => True) (fun _ => False) rfl rfl (kCall_mkM _ _ _ ⟨0, 1, 0⟩) (fun _ h => h.elim) (fun _ _ => trivial) HM.out.own (Below.refl _ _) HM.out.gr.size hll ?_; intro v7 w7 hr7 _ hg7 _; obtain ⟨A7, c7, rfl⟩ := Kd.R_slice hr7; have HM7 : Aside0 (CMem w0 w w7 g bs (.slice A7 (l2 ++ [(⟨0, 1, 0⟩ : TCall)]).length c7) (l2 ++ [⟨0, 1, 0⟩])) := ⟨⟨hr7, (by obtain ⟨q, hq, hr⟩ := HM.out.rd; exact ⟨q, hq, rd_keep hr hg7 (fun j hj => by have := Kd.R_base HM.out.own j hj; have := hr.base; omega)⟩), grown_new HM.out.gr hg7 (fun j hj => by have := Kd.R_base HM.out.own j hj; exact .inl this), by rw [List.length_append]; simp; omega, fun x hx => by rcases List.mem_append.1 hx with h | h; exact HM.out.sm x h; rw [List.mem_singleton.1 h]; exact sm_of _ _ _ (by omega) (by omega)⟩⟩; clear hr7 hg7)
        go_roundw
        case rel => exact ⟨l2 ++ [⟨0, 1, 0⟩], _, _, by rw [List.length_append]; rfl, by rw [List.length_append]; simp; omega, HM7⟩
        case measure => simp <;> omega
      · have g1 : decide (l2.length ≤ 30) = false := decide_eq_false hlt
        have g2 : decide ((l2.length : Int) ≤ 30) = false := decide_eq_false (by omega)
        have HP : Aside0 (COut w0 w wr g bs (.returned (.slice A l2.length c))) := ⟨_, _, rfl, HM.out⟩
        go_wp2
        go_ret
        exact HP.out
  have e3 : (y == 3) = false := by simp [hy3]
  have HP : Aside0 (COut w0 w w3 g bs (.returned (.slice (some ⟨gl, 0, none⟩) l.length c1))) := ⟨_, _, rfl, HM3.out⟩
  go_wp2
  go_ret
  exact HP.out
theorem drawTapeText_any (A : Option Addr) (c : Nat) (bs : List Int) (w : World) (hC : (Kd.int .u8).C w A bs.length bs) (hc : bs.length ≤ c) (hb : ∀ b ∈ bs, 0 ≤ b ∧ b ≤ 255) :
    Calls Tryd.prog 10 #[.slice A bs.length c] w fun e w' => ∃ (l : List TCall) (A' : Option Addr) (c' : Nat), e = .returned (.slice A' l.length c') ∧ IsS kCall w' l A' c' ∧ l.length ≤ 31 ∧ (∀ x ∈ l, Sm x) ∧ Below w.heap.size w w' := by
  go_enter Tryd.func10, Tryd.ntmps10
  go_wp2_with (first
    | (go_at_call 21; refine (l10Bent_any w g _ 0 _ HO.out (by omega)).mono ?_; rintro e w3 ⟨v3, l, rfl, hm⟩; obtain ⟨A3, c3, rfl⟩ := Kd.R_slice hm.own; have HM := Aside0.mk hm; clear hm)
    | (go_at_call 22; refine (open_any w A c bs _ (Below.refl _ _) hC hc hb).mono ?_; rintro e w2 ⟨g, rfl, ⟨bs2, hr⟩, hb2⟩; have HO := Aside0.mk hr; have HB2 := Aside0.mk hb2; clear hr hb2))
  go_ret
  refine ⟨l, A3, c3, rfl, ?_, HM.out.len, HM.out.sm, ?_⟩
  · obtain ⟨_, h1, h2⟩ := Kd.R_reads' HM.out.own
    exact ⟨h1, h2⟩
  · obtain ⟨q, _, hr⟩ := HM.out.rd
    exact hr.below
end Go.Proofs.YtdohneeejfeknaaDoor.Tql
