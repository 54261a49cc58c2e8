/- The reference's draws of bent lists. -/
import Derived.Test.YtjeojdbfpncnkaaSk
set_option linter.unusedVariables false
set_option linter.unusedSimpArgs false
namespace Go.Proofs.Ytjeojdbfpncnkaa.Sl
open Go.RowKit Go.Proofs.YtjeojdbfpncnkaaW.PrintWords Go.Proofs.Ytjeojdbfpncnkaa.Wd Go.Proofs.Ytjeojdbfpncnkaa.Pu Go.Proofs.Ytjeojdbfpncnkaa.Ca Go.Proofs.Ytjeojdbfpncnkaa.Cg Go.Proofs.Ytjeojdbfpncnkaa.Cf Go.Proofs.Ytjeojdbfpncnkaa.Ce Go.Proofs.Ytjeojdbfpncnkaa.Cp Go.Proofs.Ytjeojdbfpncnkaa.Sa Go.Proofs.Ytjeojdbfpncnkaa.Sb Go.Proofs.Ytjeojdbfpncnkaa.Sc Go.Proofs.Ytjeojdbfpncnkaa.Sh Go.Proofs.Ytjeojdbfpncnkaa.Si Go.Proofs.Ytjeojdbfpncnkaa.Sj Go.Proofs.Ytjeojdbfpncnkaa.Sk

/-- numbers as they are laid -/
theorem R_lits {w : World} {base B : Nat} {e : TypeId} {xs : List Int} (hB : w.heap[B]? = some (.cells (xs.map (Value.int .i64)).toArray e (0, 0))) (hb : base ≤ B) (hl : xs.length ≤ 1000) : (Kd.int .i64).R e w base (fun _ => True) (.slice (some ⟨B, 0, none⟩) xs.length xs.length) xs := by
  refine ⟨fun _ _ => trivial, xs.map (Value.int .i64), ⟨by show (xs.map _).length = xs.length * 1; simp, .inr ⟨B, xs.length, _, rfl, hb, hB, Nat.le_refl _, by unfold maxLen; omega, by show Array.size _ = xs.length * 1; simp, ?_⟩⟩, ?_⟩
  · show List.take (xs.length * 1) _ = _
    rw [Nat.mul_one]
    simp only []
    exact List.take_of_length_le (by simp)
  · exact Kd.reps_scalar xs

def IdsOut (w0 w w' : World) (g : Nat) (bs : List Int) (p : Nat) (e : Ending) : Prop :=
  ∃ (v : Value) (ids : List Int), e = .returned v ∧ (Kd.int .i64).R 3 w' w.heap.size (fun _ => True) v ids ∧ ids.length ≤ 2 ∧ Rd w0 w' g bs (p + 1) ∧ w.grownBy w' (some g)
theorem r0_any (w0 : World) (g : Nat) (bs : List Int) (p : Nat) (w : World) (h : Rd w0 w g bs p) (hp : p < 99000) :
    Calls Try.prog 72 #[.pointer (some ⟨g, 0, none⟩)] w fun e w' => IdsOut w0 w w' g bs p e := by
  go_enter Try.func72, Try.ntmps72
  go_wp2_with (go_at_call 36; refine (pick_any w0 g bs p 3 _ h (by omega) (by omega)).mono ?_; rintro e w1 ⟨x, rfl, hx, hr, hg⟩; have hx0 := hx.1; have hx1 := hx.2.1 (by omega); have HR := Aside0.mk hr; have HG := Aside0.mk hg; clear hx hr hg; obtain rfl | rfl | rfl : x = 0 ∨ x = 1 ∨ x = 2 := by omega)
  · have HP := Aside0.mk (show IdsOut w0 w (w1.alloc (.cells #[] 3)) g bs p (.returned (.slice (some ⟨w1.heap.size, 0, none⟩) 0 0)) from ⟨_, [], rfl, R_empty _ (blk_new _ _) HG.out.size, by decide, HR.out.grown (below_alloc (Below.refl _ _) _), World.grownBy.trans HG.out (grown_alloc _ _)⟩)
    go_wp2
    go_ret
    exact HP.out
  · have HP := Aside0.mk (show IdsOut w0 w (w1.alloc (.cells #[.int .i64 2, .int .i64 2] 3)) g bs p (.returned (.slice (some ⟨w1.heap.size, 0, none⟩) 2 2)) from ⟨_, [2, 2], rfl, R_lits (xs := [2, 2]) (blk_new _ _) HG.out.size (by decide), by decide, HR.out.grown (below_alloc (Below.refl _ _) _), World.grownBy.trans HG.out (grown_alloc _ _)⟩)
    go_wp2
    go_ret
    exact HP.out
  · have HP := Aside0.mk (show IdsOut w0 w (w1.alloc (.cells #[.int .i64 24] 3)) g bs p (.returned (.slice (some ⟨w1.heap.size, 0, none⟩) 1 1)) from ⟨_, [24], rfl, R_lits (xs := [24]) (blk_new _ _) HG.out.size (by decide), by decide, HR.out.grown (below_alloc (Below.refl _ _) _), World.grownBy.trans HG.out (grown_alloc _ _)⟩)
    go_wp2
    go_ret
    exact HP.out

structure BentMem (w0 w wr : World) (g : Nat) (bs : List Int) (v : Value) (l : List Occ) : Prop where
  own : (kX w0).R 25 wr w.heap.size (fun _ => True) v l
  rd : ∃ p, p ≤ 2000 ∧ Rd w0 wr g bs p
  gr : w.grownBy wr (some g)
  len : l.length ≤ 7
  ids : ∀ x ∈ l, x.f2.length ≤ 24
def BentOut (w0 w w' : World) (g : Nat) (bs : List Int) (e : Ending) : Prop := ∃ (v : Value) (l : List Occ), e = .returned v ∧ BentMem w0 w w' g bs v l
theorem isOk_24 {o : Occ} (h : IsOk o) : o.f2.length ≤ 24 := by
  have h2 := okO_iff.2 h
  unfold okO at h2
  simp only [Bool.and_eq_true] at h2
  have := Sf.okIds_len (by omega) h2.1
  omega

theorem kX_mix {w0 w : World} {base : Nat} {ok : Nat → Prop} {f t : Int} {ids : List Int} {v : Value} (g : (Kd.mix 3 (Kd.int .i64) (Kd.int .i64) w0).M w base ok ids [v]) : (kX w0).M w base ok ⟨f, t, ids⟩ [.int .i64 f, .int .i64 t, v] :=
  ⟨[.int .i64 f], [.int .i64 t, v], rfl, rfl, ⟨[.int .i64 t], [v], rfl, rfl, g⟩⟩
theorem bent_set {w0 w W : World} {g gl n cap : Nat} {bs : List Int} {l : List Occ} (HM : BentMem w0 w W g bs (.slice (some ⟨gl, 0, none⟩) n cap) l) (hgw : g < w.heap.size) {k : Nat} (hk : k < n) {c : List Value} (hc : c.length = 3) (hcc : ∀ j u, c[j]? = some u → W.cell? ⟨gl, k * 3 + j, none⟩ = some u)
    (j : Nat) (hj : j + 1 ≤ 3) (u : Value) (x' : Occ) (hM : (kX w0).M W w.heap.size (fun i => True ∧ i ≠ gl) x' (c.take j ++ [u] ++ c.drop (j + 1))) (hx : x'.f2.length ≤ 24) : BentMem w0 w (W.setCell ⟨gl, k * 3 + j, none⟩ u) g bs (.slice (some ⟨gl, 0, none⟩) n cap) (l.set k x') := by
  have hb := Kd.R_base HM.own gl rfl
  have h := (Kd.R_seg HM.own (k : Int) (by omega) (by omega) hc hcc (seg := [u]) (j := j) hj hM (fun _ h => h)).1
  obtain ⟨q, hq, hr⟩ := HM.rd
  have hwb := hr.base
  refine ⟨h, ⟨q, hq, rd_far hr (by omega) (by omega) _ _⟩, grown_set (n := 0) HM.gr hb, by rw [List.length_set]; exact HM.len, fun y hy => ?_⟩
  rcases List.mem_or_eq_of_mem_set hy with h | h
  · exact HM.ids y h
  · rw [h]; exact hx
theorem mix_step {α : Type} {d : Kd α} {W W' : World} {base g : Nat} {ok : Nat → Prop} {x : α} {cs : List Value} (h : d.M W base ok x cs) (hg : W.grownBy W' (some g)) (hb : g < base) : d.M W' base ok x cs :=
  d.M_mono (fun k hk => hk.1) (d.M_move (fun k hk => hg.block k hk.2.2.1 (by simp; omega)) (d.M_bound h))
theorem bent_step {w0 w W W' : World} {g : Nat} {bs : List Int} {v : Value} {l : List Occ} (HM : BentMem w0 w W g bs v l) (hgw : g < w.heap.size) (hg : W.grownBy W' (some g)) (hr : ∃ p, p ≤ 2000 ∧ Rd w0 W' g bs p) : BentMem w0 w W' g bs v l :=
  ⟨own_step HM.own hg hgw, hr, grown_new HM.gr hg (fun j hj => .inr hj.symm), HM.len, HM.ids⟩
set_option maxHeartbeats 4000000 in
set_option maxRecDepth 100000 in
theorem bent_any (w0 : World) (g : Nat) (bs : List Int) (p : Nat) (w : World) (h : Rd w0 w g bs p) (hp : p ≤ 1000) :
    Calls Try.prog 34 #[.pointer (some ⟨g, 0, none⟩)] w fun e w' => BentOut w0 w w' g bs e := by
  have hgw := rd_lt h
  have hw0 := h.base
  go_enter Try.func34, Try.ntmps34
  go_wp2_with (first
    | (go_at_call 71; refine (num_any w0 g bs (q1 + 1 + 1) _ 2 [0, x.f1 + 1] _ (HR3.out.grown (below_alloc (Below.refl _ _) _)) (by omega) (by simp) (by simp) (fun w' hg' => blk_C (xs := [0, x.f1 + 1]) (blk_grown (blk_new w3 _) hg' (by have := rd_lt HR3.out; simp; omega)) (by simp))).mono ?_; rintro e w4 ⟨nv, rfl, _, hr4, hg4⟩; have HG4 := Aside0.mk (World.grownBy.trans (grown_alloc (w := w3) _ (some g)) hg4); have hcb : w4.heap[gl]? = w3.heap[gl]? := HG4.out.block gl hgl (by simp; omega); have HB4 := Aside0.mk (bent_step HB3.out hgw HG4.out ⟨_, by omega, hr4⟩); have HX4 := Aside0.mk (mix_step HX.out HG4.out hgw); have HCC4 := Aside0.mk (show ∀ (j : Nat) (u : Value), [Value.int .i64 x.f0, Value.int .i64 x.f1, vk][j]? = some u → w4.cell? ⟨gl, k * 3 + j, none⟩ = some u from fun j u h => (World.cell?_of_block hcb).trans (HCC.out j u h)); have d0' : w4.cell? ⟨gl, k * 3, none⟩ = some (.int .i64 x.f0) := HCC4.out 0 _ rfl; have d2' : w4.cell? ⟨gl, k * 3 + 2, none⟩ = some vk := HCC4.out 2 _ rfl; have z0' : w4.frozen? ⟨gl, k * 3, none⟩ = false := (World.frozen?_of_block hcb).trans z0; have z2' : w4.frozen? ⟨gl, k * 3 + 2, none⟩ = false := (World.frozen?_of_block hcb).trans z2)
    | (go_at_call 72; refine (r0_any w0 g bs (q1 + 1 + 1) _ HR3.out (by omega)).mono ?_; rintro e w4 ⟨v4, ids, rfl, ho4, hl4, hr4, hg4⟩; obtain ⟨A4, c4, rfl⟩ := Kd.R_slice ho4; have HO4 := Aside0.mk ho4; have HG4 := Aside0.mk hg4; have hcb : w4.heap[gl]? = w3.heap[gl]? := HG4.out.block gl hgl (by simp; omega); have HB4 := Aside0.mk (bent_step HB3.out hgw HG4.out ⟨_, by omega, hr4⟩); have HX4 := Aside0.mk (mix_step HX.out HG4.out hgw); have HCC4 := Aside0.mk (show ∀ (j : Nat) (u : Value), [Value.int .i64 x.f0, Value.int .i64 x.f1, vk][j]? = some u → w4.cell? ⟨gl, k * 3 + j, none⟩ = some u from fun j u h => (World.cell?_of_block hcb).trans (HCC.out j u h)); have d0' : w4.cell? ⟨gl, k * 3, none⟩ = some (.int .i64 x.f0) := HCC4.out 0 _ rfl; have d2' : w4.cell? ⟨gl, k * 3 + 2, none⟩ = some vk := HCC4.out 2 _ rfl; have z0' : w4.frozen? ⟨gl, k * 3, none⟩ = false := (World.frozen?_of_block hcb).trans z0; have z2' : w4.frozen? ⟨gl, k * 3 + 2, none⟩ = false := (World.frozen?_of_block hcb).trans z2)
    | ((with_reducible refine gate_dst (N := 47) rfl ?_); refine Kd.R_append (kX w0) (w0 := w3) w.heap.size rfl _ _ 27 25 (.agg #[.int .i64 0, .int .i64 0, .slice none 0 0]) 40 rfl Try.underlying27 (infoX w0) rfl (szX w0) (by decide) (.slice (some ⟨gl, 0, none⟩) l.length c1) l xz [.int .i64 xz.f0, .int .i64 xz.f1, .slice Az xz.f2.length cz2] (fun _ => True) (fun i => True ∧ i ≠ gl) rfl rfl HZM.out (fun i hi => ⟨trivial, fun h => hi.2 (by simpa [Value.ownBlock] using h)⟩) (fun _ _ => trivial) HB3.out.own (Below.refl _ _) (by have := HB3.out.gr.size; omega) (by have := HB3.out.len; omega) ?_; intro v5 w5 hr5 _ hg5 _; obtain ⟨A5, c5, rfl⟩ := Kd.R_slice hr5; rw [List.length_append, List.length_singleton] at hr5; have HP := Aside0.mk (show BentOut w0 w w5 g bs (.returned (.slice A5 (l.length + 1) c5)) from ⟨_, _, rfl, ⟨hr5, ⟨q1 + 1 + 1, by omega, rd_keep HR3.out hg5 (fun j hj => by have hj2 : gl = j := by { simpa [Value.ownBlock] using hj }; omega)⟩, grown_new HB3.out.gr hg5 (fun j hj => by have hj2 : gl = j := by { simpa [Value.ownBlock] using hj }; exact .inl (by omega)), by simp; omega, fun y hy => by rcases List.mem_append.1 hy with h | h; exact HB3.out.ids y h; rw [List.mem_singleton.1 h]; exact HZ24.out⟩⟩))
    | (go_at_call 36; refine (pick_any w0 g bs (q1 + 1) 40 _ HR2.out (by omega) (by omega)).mono ?_; rintro e w3 ⟨y, rfl, hy, hr3, hg3⟩; have hy0 := hy.1; have hy1 := hy.2.1 (by omega); have HM3 : Aside0 (SomeMem w0 w w3 g bs (q1 + 2) (.slice A1 l.length c1) l) := ⟨⟨own_step HO2.out hg3 hgw, ⟨_, Nat.le_refl _, hr3⟩, grown_new HG2.out hg3 (fun j hj => .inr hj.symm), HK1.out⟩⟩; have HR3 := Aside0.mk hr3; clear hy hr3 hg3; obtain ⟨gl, capl, hv, hbl, hgl, cl, hcl⟩ := Kd.R_form HM3.out.own hl0; cases hv; obtain ⟨c, hc1, hMk, hcc, hfz⟩ := Kd.R_elem HM3.out.own zO (k : Int) (by omega) (by omega); simp only [Int.toNat_natCast] at hMk hcc hfz; have hxm : l.getD k zO ∈ l := by { rw [List.getD_eq_getElem?_getD, List.getElem?_eq_getElem hkl]; exact List.getElem_mem _ }; have hxo := HK1.out.all _ hxm; generalize l.getD k zO = x at hMk hxo; obtain ⟨vk, rfl, hmix⟩ := kX_openM hMk; have HX := Aside0.mk hmix; have d0 : w3.cell? ⟨gl, k * 3, none⟩ = some (.int .i64 x.f0) := hcc 0 _ rfl; have d1 : w3.cell? ⟨gl, k * 3 + 1, none⟩ = some (.int .i64 x.f1) := hcc 1 _ rfl; have z0 : w3.frozen? ⟨gl, k * 3, none⟩ = false := hfz 0; have z1 : w3.frozen? ⟨gl, k * 3 + 1, none⟩ = false := hfz 1; have z2 : w3.frozen? ⟨gl, k * 3 + 2, none⟩ = false := hfz 2; have hxt : 0 ≤ x.f1 ∧ x.f1 ≤ 2000 := ⟨by { have := hxo.f1; have := hxo.ft; omega }, hxo.t2⟩; have hx24 := isOk_24 hxo; have HB3 : Aside0 (BentMem w0 w w3 g bs (.slice (some ⟨gl, 0, none⟩) l.length c1) l) := ⟨⟨HM3.out.own, ⟨q1 + 1 + 1, by omega, HR3.out⟩, HM3.out.gr, by omega, fun y hy => isOk_24 (HK1.out.all y hy)⟩⟩; have HCC := Aside0.mk hcc; obtain ⟨cz, hz1, hzM, hzc, _⟩ := Kd.R_elem HM3.out.own zO 0 (by omega) (by omega); simp only [Int.toNat_zero, Nat.zero_mul, Nat.zero_add] at hzM hzc; obtain ⟨Az, cz2, rfl, _, _⟩ := kO_open (kX_read HR3.out.below ((kX w0).K_of_M hzM)); have hzm : l.getD 0 zO ∈ l := by { rw [List.getD_eq_getElem?_getD, List.getElem?_eq_getElem hl0]; exact List.getElem_mem _ }; generalize l.getD 0 zO = xz at hzM hzc hzm; have y0 : w3.cell? ⟨gl, 0, none⟩ = some (.int .i64 xz.f0) := hzc 0 _ rfl; have y1 : w3.cell? ⟨gl, 1, none⟩ = some (.int .i64 xz.f1) := hzc 1 _ rfl; have y2 : w3.cell? ⟨gl, 2, none⟩ = some (.slice Az xz.f2.length cz2) := hzc 2 _ rfl; have HZM := Aside0.mk hzM; have HZ24 := Aside0.mk (isOk_24 (HK1.out.all _ hzm)); clear hz1 hzM hzc hzm; clear hc1 hMk hcc hfz hmix hxm hxo; obtain rfl | rfl | rfl | rfl | ⟨b0, b1, b2, b3⟩ : y = 0 ∨ y = 1 ∨ y = 2 ∨ y = 3 ∨ ((y == 0) = false ∧ (y == 1) = false ∧ (y == 2) = false ∧ (y == 3) = false) := by { simp only [beq_eq_false_iff_ne]; omega })
    | (go_at_call 36; refine (pick_any w0 g bs q1 l.length _ HR1.out (by omega) (by omega)).mono ?_; rintro e w2 ⟨x, rfl, hx, hr2, hg2⟩; obtain ⟨k, rfl⟩ := Int.eq_ofNat_of_zero_le hx.1; have hkl : k < l.length := by { have := hx.2.1 (by omega); omega }; have HR2 := Aside0.mk hr2; have HO2 := Aside0.mk (own_step HO1.out hg2 hgw); have HG2 := Aside0.mk (grown_new HG1.out hg2 (fun j hj => .inr hj.symm)); clear hx hr2 hg2)
    | (go_at_call 70; refine (some_any w0 g bs p 6 _ h (by omega) (by omega)).mono ?_; rintro e w1 ⟨v1, l, rfl, hl1, ⟨ho1, ⟨q1, hq1, hr1⟩, hg1, hk1⟩⟩; obtain ⟨A1, c1, rfl⟩ := Kd.R_slice ho1; have HO1 := Aside0.mk ho1; have HR1 := Aside0.mk hr1; have HG1 := Aside0.mk hg1; have HK1 := Aside0.mk hk1; clear ho1 hr1 hg1 hk1; obtain hl0 | hl0 : l = [] ∨ 0 < l.length := by { rcases l with _ | ⟨x, l⟩; exact .inl rfl; exact .inr (by simp) }))
  · have HP := Aside0.mk (show BentOut w0 w w1 g bs (.returned (.slice A1 l.length c1)) from ⟨_, l, rfl, ⟨HO1.out, ⟨q1, by omega, HR1.out⟩, HG1.out, by omega, fun x hx => isOk_24 (HK1.out.all x hx)⟩⟩)
    subst hl0
    go_wp2
    go_ret
    exact HP.out
  · have HP := Aside0.mk (show BentOut w0 w (w4.setCell ⟨gl, k * 3, none⟩ (.int .i64 nv)) g bs (.returned (.slice (some ⟨gl, 0, none⟩) l.length c1)) from ⟨_, _, rfl, bent_set HB4.out hgw hkl (c := [.int .i64 x.f0, .int .i64 x.f1, vk]) rfl HCC4.out 0 (by omega) (.int .i64 nv) ⟨nv, x.f1, x.f2⟩ (kX_mix HX4.out) hx24⟩)
    go_ret
    exact HP.out
  · have HP := Aside0.mk (show BentOut w0 w (w4.setCell ⟨gl, k * 3 + 2, none⟩ (.slice A4 ids.length c4)) g bs (.returned (.slice (some ⟨gl, 0, none⟩) l.length c1)) from ⟨_, _, rfl, bent_set HB4.out hgw hkl (c := [.int .i64 x.f0, .int .i64 x.f1, vk]) rfl HCC4.out 2 (by omega) (.slice A4 ids.length c4) ⟨x.f0, x.f1, ids⟩ (kX_made ⟨x.f0, x.f1, ids⟩ (Kd.R_lower (Kd.R_mono (Kd.R_bound HO4.out) (fun j hj => ⟨trivial, by have := hj.2.1; omega⟩)) (by have := HB3.out.gr.size; omega))) (by show ids.length ≤ 24; omega)⟩)
    go_ret
    exact HP.out
  · go_ret
    exact HP.out
  · have HP := Aside0.mk (show BentOut w0 w (w3.setCell ⟨gl, k * 3 + 1, none⟩ (.int .i64 2001)) g bs (.returned (.slice (some ⟨gl, 0, none⟩) l.length c1)) from ⟨_, _, rfl, bent_set HB3.out hgw hkl (c := [.int .i64 x.f0, .int .i64 x.f1, vk]) rfl HCC.out 1 (by omega) (.int .i64 2001) ⟨x.f0, 2001, x.f2⟩ (kX_mix HX.out) hx24⟩)
    go_ret
    exact HP.out
  · have HP := Aside0.mk (show BentOut w0 w w3 g bs (.returned (.slice (some ⟨gl, 0, none⟩) l.length c1)) from ⟨_, _, rfl, HB3.out⟩)
    go_ret
    exact HP.out
end Go.Proofs.Ytjeojdbfpncnkaa.Sl
