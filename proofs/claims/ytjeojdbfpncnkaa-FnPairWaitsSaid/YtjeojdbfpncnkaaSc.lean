/- The reference's draws of occurrences. -/
import Derived.Test.YtjeojdbfpncnkaaSb
set_option linter.unusedVariables false
set_option linter.unusedSimpArgs false
namespace Go.Proofs.Ytjeojdbfpncnkaa.Sc
open Go.RowKit Go.Proofs.YtjeojdbfpncnkaaW.PrintWords Go.Proofs.Ytjeojdbfpncnkaa.Wd Go.Proofs.Ytjeojdbfpncnkaa.Pu Go.Proofs.Ytjeojdbfpncnkaa.Ca Go.Proofs.Ytjeojdbfpncnkaa.Cg Go.Proofs.Ytjeojdbfpncnkaa.Sa Go.Proofs.Ytjeojdbfpncnkaa.Sb

theorem rd_keep {w0 w w' : World} {g : Nat} {bs : List Int} {p : Nat} (h : Rd w0 w g bs p) {row : Option Nat} (hg : w.grownBy w' row) (hrow : ∀ k, row = some k → w0.heap.size ≤ k ∧ k ≠ g) : Rd w0 w' g bs p := by
  obtain ⟨A, c, hm, hC⟩ := h.mem
  exact ⟨⟨A, c, blk_grown hm hg (fun e => (hrow g e.symm).2 rfl), hC⟩, h.base, h.below.grown hg h.below.size (fun k hk => (hrow k hk).1), h.byt, h.len⟩
theorem rd_far {w0 w : World} {g : Nat} {bs : List Int} {p : Nat} (h : Rd w0 w g bs p) {H : Nat} (hH : w0.heap.size ≤ H) (hne : H ≠ g) (j : Nat) (u : Value) : Rd w0 (w.setCell ⟨H, j, none⟩ u) g bs p := by
  obtain ⟨A, c, hm, hC⟩ := h.mem
  exact ⟨⟨A, c, blk_far hm (p := ⟨H, j, none⟩) (fun e => hne e.symm) u, hC⟩, h.base, h.below.setCell (p := ⟨H, j, none⟩) hH u, h.byt, h.len⟩
theorem rd_lt {w0 w : World} {g : Nat} {bs : List Int} {p : Nat} (h : Rd w0 w g bs p) : g < w.heap.size := by
  obtain ⟨A, c, hm, hC⟩ := h.mem
  exact blk_lt hm
/-- numbers that lie in a block -/
theorem blk_C {w : World} {B : Nat} {t : TypeId} {xs : List Int} (hB : w.heap[B]? = some (.cells (xs.map (Value.int .i64)).toArray t (0, 0))) (hl : xs.length ≤ 9223372036854775807) : (Kd.int .i64).C w (some ⟨B, 0, none⟩) xs.length xs := by
  refine ⟨rfl, hl, fun _ => ⟨_, rfl, fun j q hj => ⟨[.int .i64 q], rfl, rfl, fun i u hi => ?_⟩⟩⟩
  obtain ⟨rfl, rfl⟩ : i = 0 ∧ u = .int .i64 q := by
    rcases i with _ | i
    · exact ⟨rfl, by simpa using hi.symm⟩
    · simp at hi
  rw [add_plain, blk_cell hB]
  show (xs.map (Value.int .i64)).toArray[j * 1 + 0]? = _
  simp [hj]
theorem grown_alloc {w : World} (o : Obj) (row : Option Nat) : w.grownBy (w.alloc o) row := grown_of_below (below_alloc (Below.refl _ _) o) row
theorem grown_set {w : World} {H j : Nat} {u : Value} {n : Nat} {w1 : World} {row : Option Nat} (hg : w1.grownBy w row) (hH : w1.heap.size ≤ H) : w1.grownBy (w.setCell ⟨H, j, none⟩ u) row :=
  ⟨hg.os, hg.tape, hg.output, by simpa [World.setCell] using hg.size, fun k hk hne => (Below.heap_setCell w ⟨H, j, none⟩ u k (by simp; omega)).trans (hg.block k hk hne)⟩
/-- what an earlier memory held, but for one block, still stands though something newer than it was written -/
theorem grown_new {w w1 w2 : World} {r1 row : Option Nat} (h1 : w.grownBy w1 r1) (h2 : w1.grownBy w2 row) (hrow : ∀ k, row = some k → w.heap.size ≤ k ∨ some k = r1) : w.grownBy w2 r1 :=
  ⟨h2.os.trans h1.os, h2.tape.trans h1.tape, h2.output.trans h1.output, Nat.le_trans h1.size h2.size, fun k hk hne => (h2.block k (Nat.lt_of_lt_of_le hk h1.size) (fun e => by rcases hrow k e.symm with h | h; omega; exact hne h)).trans (h1.block k hk hne)⟩

/-- while numbers are drawn for an occurrence: the last is under id -/
structure Asc1 (ids : List Int) (id : Int) : Prop where
  asc : Asc ids
  lt : ∀ z ∈ ids, 0 ≤ z ∧ z < id
  id0 : 0 ≤ id
  most : id ≤ 2 + 3 * ids.length
theorem Asc1.snoc {ids : List Int} {id x : Int} (h : Asc1 ids id) (h0 : 0 ≤ x) (h3 : x < 3) : Asc1 (ids ++ [id]) (id + 1 + x) := by
  refine ⟨?_, ?_, by have := h.id0; omega, ?_⟩
  · refine List.pairwise_append.2 ⟨h.asc, by simp, fun a ha b hb => ?_⟩
    rw [List.mem_singleton] at hb
    rw [hb]
    exact (h.lt a ha).2
  · intro z hz
    rcases List.mem_append.1 hz with hz | hz
    · have := h.lt z hz; omega
    · rw [List.mem_singleton] at hz
      rw [hz]
      have := h.id0; omega
  · have := h.most
    rw [List.length_append, List.length_singleton]
    omega

theorem own_step {α : Type} {d : Kd α} {e : Nat} {w1 w2 : World} {base g : Nat} {v : Value} {xs : List α} (h : d.R e w1 base (fun _ => True) v xs) (hg : w1.grownBy w2 (some g)) (hb : g < base) : d.R e w2 base (fun _ => True) v xs :=
  Kd.R_mono (Kd.R_grown (Kd.R_mono (Kd.R_bound h) (ok' := fun k => base ≤ k) (fun k hk => hk.2.1)) hg (fun k hk => by simp; omega)) (fun _ _ => trivial)
structure LoopMem (w0 w wr : World) (g H : Nat) (bs : List Int) (q : Nat) (a b : Int) (v : Value) (ids : List Int) : Prop where
  bG : wr.heap[w.heap.size]? = some (.cells #[.int .i64 0, .int .i64 0, .slice none 0 0] 25 (0, 0))
  bH : wr.heap[H]? = some (.cells #[.int .i64 a, .int .i64 b, v] 25 (0, 0))
  own : (Kd.int .i64).R 3 wr w.heap.size (fun _ => True) v ids
  rd : Rd w0 wr g bs q
  gr : w.grownBy wr (some g)
/-- an occurrence that is ok, in new memory; more was drawn -/
def AnyOut (w0 w w' : World) (g : Nat) (bs : List Int) (p : Nat) (e : Ending) : Prop :=
  ∃ (o : Occ) (v : Value), e = .returned (.agg #[.int .i64 o.f0, .int .i64 o.f1, v]) ∧ IsOk o ∧ (Kd.int .i64).R 3 w' w.heap.size (fun _ => True) v o.f2 ∧ (∃ p', p' ≤ p + 10 ∧ Rd w0 w' g bs p') ∧ w.grownBy w' (some g)
set_option maxHeartbeats 1000000 in
set_option maxRecDepth 100000 in
theorem any_any (w0 : World) (g : Nat) (bs : List Int) (p : Nat) (w : World) (h : Rd w0 w g bs p) (hp : p < 99000) :
    Calls Try.prog 35 #[.pointer (some ⟨g, 0, none⟩)] w fun e w' => AnyOut w0 w w' g bs p e := by
  have hgw := rd_lt h
  have bG := blk_new w (.cells #[.int .i64 0, .int .i64 0, .slice none 0 0] 25)
  have hGg : some w.heap.size ≠ some g := by simp; omega
  have hlit : ∀ W : World, g < W.heap.size → ∀ w', (W.alloc (.cells #[.int .i64 0, .int .i64 0, .int .i64 1, .int .i64 2, .int .i64 5] 3)).grownBy w' (some g) → (Kd.int .i64).C w' (some ⟨W.heap.size, 0, none⟩) 5 [0, 0, 1, 2, 5] :=
    fun W hW w' hg' => blk_C (xs := [0, 0, 1, 2, 5]) (blk_grown (blk_new W _) hg' (by simp; omega)) (by decide)
  go_enter Try.func35, Try.ntmps35
  go_wp2_with (first
    | (go_at_call 36; refine (pick_any w0 g bs (p + 3) 3 _ HRC.out (by omega) (by omega)).mono ?_; rintro e w4 ⟨x4, rfl, hx, hr, hg⟩; have hu0 := hx.1; have hu3 := hx.2.1 (by omega); have bG4 := blk_grown bG3 hg hGg; have bH4 := blk_grown bH3 hg (by have := rd_lt HRB.out; simp; omega); have HRD := Aside0.mk hr; have HGD := Aside0.mk (grown_new HGC.out hg (fun k hk => .inr hk.symm)); clear hx hr hg)
    | (go_at_call 36; refine (pick_any w0 g bs (p + 2) 3 _ (HRB.out.grown (below_alloc (Below.refl _ _) _)) (by omega) (by omega)).mono ?_; rintro e w3 ⟨x3, rfl, hx, hr, hg⟩; have ht0 := hx.1; have ht3 := hx.2.1 (by omega); have bG3 := blk_grown (blk_alloc bG2 _) hg hGg; have bH3 := blk_grown (blk_new _ _) hg (by have := rd_lt HRB.out; simp; omega); have HRC := Aside0.mk hr; have HGC := Aside0.mk (grown_new HGB.out (World.grownBy.trans (grown_alloc _ _) hg) (fun k hk => .inr hk.symm)); clear hx hr hg)
    | (go_at_call 71; refine (num_any w0 g bs (p + 1) _ 5 [0, 0, 1, 2, 5] _ (HRA.out.grown (below_alloc (Below.refl _ _) _)) (by omega) (by decide) (by decide) (hlit _ (rd_lt HRA.out))).mono ?_; rintro e w2 ⟨y, rfl, hy, hr, hg⟩; have hy5 : 0 ≤ y ∧ y ≤ 5 := by { simp at hy; omega }; have bG2 := blk_grown (blk_alloc bG1 _) hg hGg; have HRB := Aside0.mk hr; have HGB := Aside0.mk (grown_new HGA.out (World.grownBy.trans (grown_alloc _ _) hg) (fun k hk => .inr hk.symm)); clear hy hr hg)
    | (go_at_call 36; refine (pick_any w0 g bs p 9 _ (h.grown (below_alloc (Below.refl _ _) _)) (by omega) (by omega)).mono ?_; rintro e w1 ⟨x, rfl, hx, hr, hg⟩; have hx0 := hx.1; have hx9 := hx.2.1 (by omega); have bG1 := blk_grown bG hg hGg; have HRA := Aside0.mk hr; have HGA := Aside0.mk (World.grownBy.trans (grown_alloc _ _) hg); clear hx hr hg))
  obtain ⟨H, hH⟩ : ∃ H, H = w2.heap.size := ⟨_, rfl⟩
  have hHG : w.heap.size < H := by rw [hH]; exact blk_lt bG2
  have hHg : H ≠ g := by omega
  obtain ⟨a, ha⟩ : ∃ a, a = 1 + x := ⟨_, rfl⟩
  obtain ⟨b, hb⟩ : ∃ b, b = 1 + x + y := ⟨_, rfl⟩
  have hab : 1 ≤ a ∧ a ≤ b ∧ b ≤ 20 := by omega
  obtain ⟨n, hn⟩ : ∃ n : Nat, (n : Int) = 1 + x4 := ⟨(1 + x4).toNat, by omega⟩
  have hn3 : 1 ≤ n ∧ n ≤ 3 := by omega
  have HL : Aside0 (LoopMem w0 w w4 g H bs (p + 4) a b (.slice none 0 0) []) := ⟨⟨bG4, by rw [hH, ha, hb]; exact bH4, Kd.R_nil (Kd.int .i64) 3 w4 w.heap.size (fun _ => True), HRD.out, HGD.out⟩⟩
  have HA0 : Aside0 (Asc1 [] x3) := ⟨⟨List.Pairwise.nil, by simp, ht0, by simp; omega⟩⟩
  rw [← hH, ← hn]
  clear bG1 bG2 bG3 bG4 bH3 bH4 HRA HGA HRB HGB HRC HGC HRD HGD hH hn ha hb hx0 hx9 hy5 ht0 ht3 hu0 hu3 hlit bG
  go_loopw [5, 6] (fun v5 v6 wr => ∃ (id : Int) (m : Nat) (ids : List Int) (v : Value), v5 = .int .i64 id ∧ v6 = .int .i64 m ∧ m + ids.length = n ∧ Aside0 (Asc1 ids id) ∧ Aside0 (LoopMem w0 w wr g H bs (p + 4 + ids.length) a b v ids)) (fun _ v6 _ => (intOf v6).toNat)
  case atStart => exact ⟨x3, n, [], _, rfl, rfl, rfl, HA0, HL⟩
  case round =>
    obtain ⟨id, m, ids, v, rfl, rfl, hm, HA, HM⟩ := hrel
    have hid : 0 ≤ id ∧ id ≤ 11 := ⟨HA.out.id0, by have := HA.out.most; omega⟩
    obtain ⟨A, c, rfl⟩ := Kd.R_slice HM.out.own
    by_cases h0 : m = 0
    · subst h0
      have e0 := (blk_cell HM.out.bH 0).trans rfl
      have e1 := (blk_cell HM.out.bH 1).trans rfl
      have e2 := (blk_cell HM.out.bH 2).trans rfl
      have q0 := (blk_cell HM.out.bG 0).trans rfl
      have q1 := (blk_cell HM.out.bG 1).trans rfl
      have q2 := (blk_cell HM.out.bG 2).trans rfl
      have f0 := blk_frozen HM.out.bG 0
      have f1 := blk_frozen HM.out.bG 1
      have f2 := blk_frozen HM.out.bG 2
      have hwb : w0.heap.size ≤ w.heap.size := by have := HM.out.rd.base; omega
      have hwg : w.heap.size ≠ g := by omega
      go_wp2
      refine bodyPost_ret (results_cell_row rfl _ _ w.heap.size 25 #[.int .i64 a, .int .i64 b, .slice A ids.length c] (0, 0) _ rfl (set3_blk _ _ _ HM.out.bG) Try.underlying25 rfl (by kernel_rfl)) rfl ?_
      refine ⟨⟨a, b, ids⟩, _, rfl, ⟨HA.out.asc, fun z hz => ?_, hab.1, hab.2.1, ?_, ?_⟩, set3_R HM.out.own HM.out.bG (by decide) _ _ _, ⟨p + 4 + ids.length, ?_, rd_far (rd_far (rd_far HM.out.rd hwb hwg _ _) hwb hwg _ _) hwb hwg _ _⟩, grown_set (n := 0) (grown_set (n := 0) (grown_set (n := 0) HM.out.gr (Nat.le_refl _)) (Nat.le_refl _)) (Nat.le_refl _)⟩
      · have := HA.out.lt z hz; omega
      · show b ≤ 2000; omega
      · show 1 ≤ ids.length; omega
      · omega
    · have hm0b : decide (0 < m) = true := by rw [decide_eq_true_eq]; omega
      have hm0 : decide ((m : Int) > 0) = true := by rw [decide_eq_true_eq]; omega
      have hm1 : (0 : Int) < m := by omega
      have e2 := (blk_cell HM.out.bH 2).trans rfl
      have f2 := blk_frozen HM.out.bH 2
      have hlen : ids.length ≤ 3 := by omega
      have hwb : w0.heap.size ≤ w.heap.size := by have := HM.out.rd.base; omega
      have hwg : w.heap.size ≠ g := by omega
      go_wp2_with (first
        | (go_at_call 36; refine (pick_any w0 g bs (p + 4 + ids.length) 3 _ (rd_far HR5.out (by omega) hHg _ _) (by omega) (by omega)).mono ?_; rintro e w6 ⟨x6, rfl, hx, hr6, hg6⟩; have hx0 := hx.1; have hx3 := hx.2.1 (by omega); have HM6 : Aside0 (LoopMem w0 w w6 g H bs (p + 4 + (ids ++ [id]).length) a b (.slice A5 (ids.length + 1) c5) (ids ++ [id])) := ⟨⟨blk_grown (blk_far bG5 (p := ⟨H, 2, none⟩) (by simp; omega) _) hg6 hGg, blk_grown (blk_put bH5 2 _ rfl) hg6 (by simp; omega), own_step (Kd.R_set HO5.out bH5 (by decide) 2 _) hg6 hgw, by (rw [List.length_append, List.length_singleton, ← Nat.add_assoc]; exact hr6), grown_new (grown_set (n := 0) HG5.out (by omega)) hg6 (fun k hk => .inr hk.symm)⟩⟩; have HA6 := Aside0.mk (HA.out.snoc hx0 hx3); clear hx hr6 hg6)
        | ((with_reducible refine gate_dst (N := 30) rfl ?_); refine Kd.R_append (Kd.int .i64) (w0 := wr) w.heap.size rfl _ _ 23 3 (.int .i64 0) 8 rfl Try.underlying23 Cc.infoI rfl (by decide) (by decide) (.slice A ids.length c) ids id [.int .i64 id] (fun _ => True) (fun _ => False) rfl rfl rfl (fun _ h => h.elim) (fun _ _ => trivial) HM.out.own (Below.refl _ _) HM.out.gr.size (by omega) ?_; intro v5 w5 hr5 _ hg5 _; obtain ⟨A5, c5, rfl⟩ := Kd.R_slice hr5; rw [List.length_append, List.length_singleton] at hr5; have bG5 := blk_grown HM.out.bG hg5 (Kd.R_ne HM.out.own HM.out.bG (by decide)); have bH5 := blk_grown HM.out.bH hg5 (Kd.R_ne HM.out.own HM.out.bH (by decide)); have e5 := (blk_cell bH5 2).trans rfl; have f5 := blk_frozen bH5 2; have HR5 := Aside0.mk (rd_keep HM.out.rd hg5 (fun k hk => by have := Kd.R_base HM.out.own k hk; omega)); have HG5 := Aside0.mk (grown_new HM.out.gr hg5 (fun k hk => .inl (Kd.R_base HM.out.own k hk))); have HO5 := Aside0.mk hr5; clear hr5 hg5))
      go_roundw
      case rel => exact ⟨_, m - 1, ids ++ [id], _, by go_num, by go_num, by simp; omega, HA6, HM6⟩
      case measure => simp [intOf]; omega
end Go.Proofs.Ytjeojdbfpncnkaa.Sc
