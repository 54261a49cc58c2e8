/- slices.Insert of one occurrence. -/
import Derived.Test.YtjeojdbfpncnkaaCp
import Derived.Lib.AppendZerosOnto
set_option linter.unusedVariables false
set_option linter.unusedSimpArgs false
namespace Go.Proofs.Ytjeojdbfpncnkaa.Ci
open Go.RowKit Go.Proofs.YtjeojdbfpncnkaaW.PrintWords Go.Proofs.Ytjeojdbfpncnkaa.Wd Go.Proofs.Ytjeojdbfpncnkaa.Pu Go.Proofs.Ytjeojdbfpncnkaa.Ca Go.Proofs.Ytjeojdbfpncnkaa.Cp
section
variable {P : Program} {α : Type} (d : Kd α) (wf : World)
theorem run_zeros_grow {W : World} {base : Nat} {t ti ty e : TypeId} {z : Value} {bytes : Nat} (ht : P.underlying t = some (.slice e)) {ki : IntKind} (hti : P.underlying ti = some (.int ki))
    (hinfo : (P.info? e).map (fun i => (i.zero, i.size, i.bytes)) = some (some z, d.sz, bytes)) (hz : z.cells.size = d.sz) (hs0 : 0 < d.sz) (hb0 : 0 < bytes) {ok : Nat → Prop} {g c : Nat} {xs : List α}
    (HO : (Kd.fixed d wf).R e W base ok (.slice (some ⟨g, 0, none⟩) xs.length c) xs) (k : Nat) (hk : 0 < k) (hg : c < xs.length + k) (z0 : α) (hzero : d.K wf z0 z.cells.toList) (hl : (xs.length + k) * bytes ≤ 140737488355328) :
    ∃ c1 w1, (Builtin.append_ #[t, ti] ty #[.slice (some ⟨g, 0, none⟩) xs.length c, .int .i64 k]).run P W = .ok (.slice (some ⟨W.heap.size, 0, none⟩) (xs.length + k) c1) w1 ∧
      (Kd.fixed d wf).R e w1 W.heap.size (fun _ => True) (.slice (some ⟨W.heap.size, 0, none⟩) (xs.length + k) c1) (xs ++ List.replicate k z0) ∧ Below W.heap.size W w1 := by
  obtain ⟨i0, hi, hzz⟩ := Option.map_eq_some_iff.1 hinfo
  simp only [Prod.mk.injEq] at hzz
  obtain ⟨hz0, hz1, hz2⟩ := hzz
  have hlen : xs.length + k ≤ 140737488355328 := Nat.le_trans (Nat.le_mul_of_pos_right _ hb0) hl
  have hcx : xs.length ≤ c := by obtain ⟨A, c', e, hle, _⟩ := Kd.R_reads HO; cases e; exact hle
  obtain ⟨hok, inner, hown, hr⟩ := HO
  have hil : inner.length = xs.length * d.sz := hr.1
  have holds : ∀ j u, inner[j]? = some u → W.cell? ((⟨g, 0, none⟩ : Addr).add j) = some u := World.ownsRow.cells (g := g) hown rfl
  have hold : (Builtin.firstCells i0.size xs.length (.slice (some ⟨g, 0, none⟩) xs.length c)).run P W.drew = .ok inner.toArray W.drew := by
    rw [hz1]
    exact run_firstCells_some (P := P) W.drew d.sz xs.length _ _ _ inner hil (fun j u h => by rw [← holds j u h]; rfl)
  have hrz := Lib.run_append_grow_zeros W t ti ty e i0 z .i64 ki ht hti hi hz0 (some ⟨g, 0, none⟩) xs.length c inner hold k hk (by omega) hg (by omega) (by rw [hz2]; have := Nat.mul_le_mul_right bytes (show k ≤ xs.length + k by omega); omega) (by rw [hz2]; exact growslice_fits hg hl)
  refine ⟨_, _, hrz, ⟨fun _ _ => trivial, inner ++ (Builtin.zeroCells z.cells k).toList, ?_, ?_⟩, ?_⟩
  · have hzl : (Builtin.zeroCells z.cells k).size = k * d.sz := by simp [Builtin.zeroCells, hz]
    have hge := grownCap_ge W (xs.length + k) c e
    have hmx := grownCap_le_maxLen W (xs.length + k) c e (by unfold maxLen; omega)
    refine ⟨?_, .inr ⟨W.heap.size, _, _, ?_, Nat.le_refl _, heap_alloc_new _ _, ?_, hmx, ?_, ?_⟩⟩
    · simp [hil, hzl, Nat.add_mul]; rfl
    · simp
    · simpa using hge
    · show Array.size _ = _ * d.sz
      simp [Builtin.zeroCells, hil, hz, ← Nat.add_mul]
      congr 1
      omega
    · show List.take (_ * d.sz) _ = _
      have : (xs ++ List.replicate k z0).length * d.sz = (inner ++ (Builtin.zeroCells z.cells k).toList).length := by simp [hil, hzl, Nat.add_mul]
      rw [this, List.length_append]
      simp only [Array.toList_append, List.append_assoc]
      rw [← List.append_assoc, ← List.length_append]
      exact List.take_left
  · exact Kd.reps_append hr (Kd.reps_zeros hz hs0 hzero k)
  · exact ⟨rfl, rfl, rfl, by simp, fun j hj => Below.heap_alloc W.drew _ j hj⟩
end

def insO (l : List Occ) (p : Nat) (o : Occ) : List Occ := l.take p ++ o :: l.drop p
theorem cutO (A : Option Addr) (n c m : Nat) (hm : m ≤ n) : ∃ A', (∀ W, (Instr.slice 27 (.slice A n c) (some (.int .i64 (m : Int))) none none).run Try.prog W = .ok (.slice A' (n - m) (c - m)) W) ∧ (m < c → A' = A.map (·.add (m * 3))) := by
  refine ⟨if c = m then A else A.map (·.add (m * 3)), fun W => ?_, fun h => by rw [if_neg (by omega)]⟩
  have hel : Try.prog.elem 27 = 25 := by simp [Program.elem, Try.underlying27]
  have hu : Try.prog.underlying 27 = some (.slice (Try.prog.elem 27)) := by rw [hel]; exact Try.underlying27
  obtain ⟨i, hi, hi2⟩ := Option.map_eq_some_iff.1 sizeO
  rw [run_slice_l W _ A n c hu .i64 (m : Int) (Int.natCast_nonneg _) (by omega), hel]
  simp [sizeOf, typeInfo, hi, hi2, sliced, Result.andThen]
theorem takeO (g n c m : Nat) (hm : m ≤ c) (W : World) : (Instr.slice 27 (.slice (some ⟨g, 0, none⟩) n c) none (some (.int .i64 (m : Int))) none).run Try.prog W = .ok (.slice (some ⟨g, 0, none⟩) m c) W := by
  have hel : Try.prog.elem 27 = 25 := by simp [Program.elem, Try.underlying27]
  have hu : Try.prog.underlying 27 = some (.slice (Try.prog.elem 27)) := by rw [hel]; exact Try.underlying27
  obtain ⟨i, hi, hi2⟩ := Option.map_eq_some_iff.1 sizeO
  rw [run_slice_h W _ (some ⟨g, 0, none⟩) n c hu .i64 (m : Int) (Int.natCast_nonneg _) (by omega), hel]
  simp [sizeOf, typeInfo, hi, hi2, sliced, Result.andThen, add_plain]
theorem insO_room (l : List Occ) (p : Nat) (o : Occ) (hp : p < l.length) :
    (List.take p (List.take (p + 1) l ++ List.drop p l) ++ [o] ++ List.drop (p + [o].length) (List.take (p + 1) l ++ List.drop p l)) = insO l p o := by
  have h1 : (List.take (p + 1) l).length = p + 1 := by rw [List.length_take]; omega
  have e1 : List.take p (List.take (p + 1) l ++ List.drop p l) = List.take p l := by
    rw [List.take_append_of_le_length (by omega), List.take_take]; congr 1; omega
  have e2 : List.drop (p + [o].length) (List.take (p + 1) l ++ List.drop p l) = List.drop p l := by
    rw [show p + [o].length = (List.take (p + 1) l).length by rw [h1]; rfl]; exact List.drop_left
  rw [e1, e2]
  simp [insO]
theorem insO_two (l : List Occ) (p : Nat) (o z : Occ) (hp : p < l.length) :
    (List.take (p + 1) (List.take p (List.take p l ++ List.replicate (l.length + 1 - p) z) ++ [o] ++ List.drop (p + [o].length) (List.take p l ++ List.replicate (l.length + 1 - p) z)) ++ List.drop p l ++
      List.drop (p + 1 + (List.drop p l).length) (List.take p (List.take p l ++ List.replicate (l.length + 1 - p) z) ++ [o] ++ List.drop (p + [o].length) (List.take p l ++ List.replicate (l.length + 1 - p) z))) = insO l p o := by
  have h1 : (List.take p l).length = p := by rw [List.length_take]; omega
  have e1 : List.take p (List.take p l ++ List.replicate (l.length + 1 - p) z) = List.take p l := by
    rw [List.take_append_of_le_length (by omega), List.take_take, Nat.min_self]
  rw [e1]
  have h2 : (List.take p l ++ [o]).length = p + 1 := by simp [h1]
  have e2 : List.take (p + 1) (List.take p l ++ [o] ++ List.drop (p + [o].length) (List.take p l ++ List.replicate (l.length + 1 - p) z)) = List.take p l ++ [o] := by
    rw [← h2]; exact List.take_left
  rw [e2]
  have e3 : List.drop (p + 1 + (List.drop p l).length) (List.take p l ++ [o] ++ List.drop (p + [o].length) (List.take p l ++ List.replicate (l.length + 1 - p) z)) = [] := by
    apply List.drop_eq_nil_of_le
    simp only [List.length_append, List.length_drop, h1, List.length_replicate, List.length_singleton]
    omega
  rw [e3]
  simp [insO]
set_option maxRecDepth 100000 in
theorem insert_any (wf : World) (base : Nat) (ok : Nat → Prop) (v : Value) (l : List Occ) (p : Nat) (o : Occ) (B : Nat) (cs : List Value) (w : World) (hl : l.length ≤ 1048576) (hp : p ≤ l.length) (hR : (Kd.fixed kO wf).R 25 w base ok v l)
    (hB : w.heap[B]? = some (.cells cs.toArray 25 (0, 0))) (ho : kO.K wf o cs) (hBv : some B ≠ v.ownBlock) (hbase : base ≤ w.heap.size) (hfresh : ∀ k, w.heap.size ≤ k → ok k) :
    Calls Try.prog 79 #[v, .int .i64 p, .slice (some ⟨B, 0, none⟩) 1 1] w fun e w' =>
      ∃ v', e = .returned v' ∧ (Kd.fixed kO wf).R 25 w' base ok v' (insO l p o) ∧ w.grownBy w' v.ownBlock := by
  obtain ⟨A, c, rfl, hlc, _⟩ := Kd.R_reads hR
  by_cases hpe : p = l.length
  · subst hpe
    have HC : (Kd.fixed kO wf).C w (some ⟨B, 0, none⟩) 1 [o] := by
      refine ⟨rfl, by decide, fun _ => ⟨_, rfl, fun j q hj => ?_⟩⟩
      obtain ⟨rfl, rfl⟩ : j = 0 ∧ q = o := by
        rcases j with _ | j
        · exact ⟨rfl, by simpa using hj.symm⟩
        · simp at hj
      refine ⟨cs, kO.K_len ho, ho, fun i u hi => ?_⟩
      rw [add_plain, Nat.zero_mul, Nat.zero_add, blk_cell hB i]
      simpa using hi
    obtain ⟨A', hcut, _⟩ := cutO A l.length c l.length (Nat.le_refl _)
    rw [Nat.sub_self] at hcut
    go_enter Try.func79, Try.ntmps79
    go_wp2_with (first
      | ((with_reducible refine gate_dst (N := 25) rfl ?_); refine Kd.R_append_rows (Kd.fixed kO wf) (w0 := w) base rfl _ _ 27 25 (.agg #[.int .i64 0, .int .i64 0, .slice none 0 0]) 40 rfl Try.underlying27 infoO rfl (szO wf) (by decide) _ l [o] _ 1 1 ok (fun _ => False) rfl rfl hR HC (fun _ _ h => h) (fun _ h => h.elim) hfresh (Below.refl _ _) hbase (by omega) ?_; intro v2 w2 hr2 hb2 hg2 _; have HR := Aside0.mk hr2; have HG := Aside0.mk (show w.grownBy w2 (Value.slice A l.length c).ownBlock from hg2); clear hr2 hb2 hg2; obtain ⟨A2, c2, rfl⟩ := Kd.R_slice HR.out))
    go_ret
    exact ⟨_, rfl, by simpa [insO] using HR.out, HG.out⟩
  · have hp2 : p < l.length := by omega
    obtain ⟨g, c', hv, hbg, hgw, cells, hcells⟩ := Kd.R_form hR (by omega)
    obtain ⟨rfl, rfl⟩ : A = some ⟨g, 0, none⟩ ∧ c = c' := by simpa using hv
    clear hv
    have hgB : g ≠ B := fun h => hBv (by rw [← h]; rfl)
    have HC : ∀ W, W.heap[B]? = some (.cells cs.toArray 25 (0, 0)) → (Kd.fixed kO wf).C W (some ⟨B, 0, none⟩) 1 [o] := fun W hB => by
      refine ⟨rfl, by decide, fun _ => ⟨_, rfl, fun j q hj => ?_⟩⟩
      obtain ⟨rfl, rfl⟩ : j = 0 ∧ q = o := by
        rcases j with _ | j
        · exact ⟨rfl, by simpa using hj.symm⟩
        · simp at hj
      refine ⟨cs, kO.K_len ho, ho, fun i u hi => ?_⟩
      rw [add_plain, Nat.zero_mul, Nat.zero_add, blk_cell hB i]
      simpa using hi
    obtain ⟨A', hcut, hA'⟩ := cutO (some ⟨g, 0, none⟩) l.length c p hp
    obtain rfl := hA' (by omega)
    simp only [Option.map_some, add_plain] at hcut
    have hpe1 : decide ((p : Int) = l.length) = false := by simp; omega
    have hpe2 : ¬ ((p : Int) = l.length) := by omega
    have HRc : (Kd.fixed kO wf).C w (some ⟨g, 0, none⟩) l.length l := by obtain ⟨A, c1, e, _, h⟩ := Kd.R_reads hR; cases e; exact h
    have HRd := C_dropF HRc p hp
    rw [add_plain] at HRd
    have hld : (l.drop p).length = l.length - p := List.length_drop
    by_cases hroom : l.length + 1 ≤ c
    · have hr1 : decide ((l.length : Int) + 1 > c) = false := by simp; omega
      have hr2 : ¬ ((c : Int) < l.length + 1) := by omega
      have hr3 : ¬ ((l.length : Int) + 1 > c) := by omega
      have hfull := takeO g l.length c (l.length + 1) hroom
      rw [show ((l.length + 1 : Nat) : Int) = (l.length : Int) + 1 from rfl] at hfull
      obtain ⟨A1, hcut1, hA1⟩ := cutO (some ⟨g, 0, none⟩) (l.length + 1) c p (by omega)
      obtain rfl := hA1 (by omega)
      obtain ⟨A2, hcut2, hA2⟩ := cutO (some ⟨g, 0, none⟩) (l.length + 1) c (p + 1) (by omega)
      obtain rfl := hA2 (by omega)
      simp only [Option.map_some, add_plain] at hcut1 hcut2
      rw [show ((p + 1 : Nat) : Int) = (p : Int) + 1 from rfl] at hcut2
      have hcz : cells.size ≠ 0 := by
        obtain ⟨inner, hown⟩ := Kd.R_own hR
        rcases hown.2 with ⟨e, _⟩ | ⟨g', cap', cur, e, _, hh, hn', _, hsz', _⟩
        · cases e
        · obtain ⟨rfl, _, rfl⟩ : g = g' ∧ l.length = l.length ∧ c = cap' := by simpa using e
          rw [hcells] at hh
          obtain rfl : cells = cur := by simpa using hh
          replace hsz' : cells.size = c * 3 := hsz'
          omega
      have hsz : ∀ w, (Go.sizeOf 25).run Try.prog w = .ok 3 w := fun w => by
        obtain ⟨i, hi, hi2⟩ := Option.map_eq_some_iff.1 sizeO
        simp [sizeOf, typeInfo, hi, hi2]
      have hov : ∀ lb cb, (callFunc 110 #[.slice (some ⟨B, 0, none⟩) 1 1, .slice (some ⟨g, (p + 1) * 3, none⟩) lb cb]).run Try.prog w = .ok (.value (.bool false)) w := fun lb cb => by
        rw [run_callFunc_extern Try.func110 (by kernel_rfl) (by kernel_rfl) (by kernel_rfl) (e := Extern.SlicesOverlaps.overlaps #[27, 27] #[4]) (by kernel_rfl),
          Lib.run_overlaps_apart w 27 4 25 Try.underlying27 3 hsz ⟨B, 0, none⟩ ⟨g, (p + 1) * 3, none⟩ 1 1 lb cb (fun h => hgB h.symm) _ _ _ _ (by unfold World.shape?; rw [hB]) (by unfold World.shape?; rw [hcells]) hcz (blk_frozen hB _) (blk_frozen hB _)]
        rfl
      obtain ⟨w1, hcp1, hR1, hg1⟩ := run_copy_ext (P := Try.prog) (ty := 3) kO wf Try.underlying27 sizeO (by decide) (Kd.R_drew hR) (p + 1) (l.length + 1 - (p + 1)) (c - (p + 1)) ⟨g, p * 3, none⟩ (l.length + 1 - p) (c - p) (by rw [hld]; simp only [Nat.min_def]; split <;> omega) (by rw [hld]; exact Kd.C_drew HRd) (by omega) (by rw [hld]; omega) ((p + 1) * 3) rfl
      rw [hld, show p + 1 + (l.length - p) = l.length + 1 by omega] at hR1
      obtain ⟨w2, hcp2, hR2, hg2⟩ := run_copy_fixed (P := Try.prog) (ty := 3) kO wf Try.underlying27 sizeO (by decide) hR1 p (l.length + 1 - p) (c - p) ⟨B, 0, none⟩ 1 1 (by simp only [Nat.min_def]; split <;> simp; omega) (HC w1 (blk_grown (blk_drew hB) hg1 (fun h => hgB (by injection h with h; exact h.symm)))) (by simp; omega) (p * 3) rfl
      have hgg : w.grownBy w2 (some g) := World.grownBy.trans ⟨hg1.os, hg1.tape, hg1.output, hg1.size, hg1.block⟩ hg2
      have mixed : Try.prog.follows .mixedOrders = true := by kernel_rfl
      have hw1 : IntKind.i64.wrap ((p : Int) + 1) = (p : Int) + 1 := by rw [IntKind.wrap_i64]; omega
      have b1 : (0 : Int) ≤ (p : Int) + 1 := by omega
      have b2 : (p : Int) + 1 ≤ (l.length : Int) + 1 := by omega
      have b3 : ((p : Int) + 1).toNat = p + 1 := by omega
      have b4 : ¬ (c = p + 1) := by omega
      have b5 : ¬ (c = p) := by omega
      have b6 : (p : Int) ≤ l.length + 1 := by omega
      clear hA' hA1 hA2 hR1
      go_enter Try.func79, Try.ntmps79
      go_wp2_with (simp only [hov])
      go_region_law_o (refine step_copy_run rfl _ _ 27 27 rfl (.slice (some ⟨g, (p + 1) * 3, none⟩) (l.length + 1 - (p + 1)) (c - (p + 1))) (.slice (some ⟨g, p * 3, none⟩) (l.length + 1 - p) (c - p)) (by simp [Act.eval, Act.put]) (by simp [Act.eval, Act.put]) hcp1 ?_)
      go_wp2_with (at_builtin; refine wpList_copy_run rfl _ _ _ _ rfl _ _ rfl rfl hcp2 ?_)
      go_ret
      refine ⟨_, rfl, ?_, hgg⟩
      rw [insO_room l p o hp2] at hR2
      exact hR2
    · have hr1 : decide ((l.length : Int) + 1 > c) = true := by simp; omega
      have hr2 : (c : Int) < l.length + 1 := by omega
      have hr3 : (l.length : Int) + 1 > c := by omega
      have HT := Kd.R_take (m := p) hR hp
      obtain ⟨k, hk⟩ : ∃ k, k = l.length + 1 - p := ⟨_, rfl⟩
      have hki : (l.length : Int) + 1 - p = k := by omega
      have hpl : (l.take p).length = p := by rw [List.length_take]; omega
      obtain ⟨c1, w1, hz, hR1, hb1⟩ := run_zeros_grow (P := Try.prog) kO wf (t := 27) (ti := 3) (ty := 27) Try.underlying27 Try.underlying3 infoO rfl (by decide) (by decide) (by rw [hpl]; exact HT) k (by omega) (by omega) zO (zero_fixed wf) (by omega)
      rw [hpl, show p + k = l.length + 1 by omega] at hz hR1
      have hc1 : l.length + 1 ≤ c1 := by have h := (Kd.R_reads' hR1).2.1; exact h
      have htake : ∀ W, (Instr.slice 27 (.slice (some ⟨g, 0, none⟩) l.length c) none (some (.int .i64 (p : Int))) none).run Try.prog W = .ok (.slice (some ⟨g, 0, none⟩) p c) W := fun W => takeO g l.length c p (by omega) W
      obtain ⟨A1, hcut1, hA1⟩ := cutO (some ⟨w.heap.size, 0, none⟩) (l.length + 1) c1 p (by omega)
      obtain rfl := hA1 (by omega)
      obtain ⟨A2, hcut2, hA2⟩ := cutO (some ⟨w.heap.size, 0, none⟩) (l.length + 1) c1 (p + 1) (by omega)
      rw [show ((p + 1 : Nat) : Int) = (p : Int) + 1 from rfl] at hcut2
      obtain rfl := hA2 (by omega)
      simp only [Option.map_some, add_plain] at hcut1 hcut2
      obtain ⟨w2, hcp1, hR2, hg2⟩ := run_copy_fixed (P := Try.prog) (ty := 3) kO wf Try.underlying27 sizeO (by decide) hR1 p (l.length + 1 - p) (c1 - p) ⟨B, 0, none⟩ 1 1 (by simp only [Nat.min_def]; split <;> simp; omega) (HC w1 (blk_below hB hb1)) (by simp [hpl]; omega) (p * 3) rfl
      have hb2 : Below w.heap.size w w2 := hb1.grown hg2 hb1.size (by simp)
      have hd2 : Below w.heap.size w w2.drew := below_drew hb2
      obtain ⟨w3, hcp2, hR3, hg3⟩ := run_copy_fixed (P := Try.prog) (ty := 3) kO wf Try.underlying27 sizeO (by decide) (Kd.R_drew hR2) (p + 1) (l.length + 1 - (p + 1)) (c1 - (p + 1)) ⟨g, p * 3, none⟩ (l.length - p) (c - p) (by rw [hld]; simp only [Nat.min_def]; split <;> omega) (by rw [hld]; exact Kd.C_below HRd hd2) (by rw [hld]; simp [hpl]; omega) ((p + 1) * 3) rfl
      have hb3 : Below w.heap.size w w3 := hd2.grown hg3 hd2.size (by simp)
      have mixed : Try.prog.follows .mixedOrders = true := by kernel_rfl
      have hw1 : IntKind.i64.wrap ((p : Int) + 1) = (p : Int) + 1 := by rw [IntKind.wrap_i64]; omega
      have b1 : (0 : Int) ≤ (p : Int) + 1 := by omega
      have b2 : (p : Int) + 1 ≤ (l.length : Int) + 1 := by omega
      have b3 : ((p : Int) + 1).toNat = p + 1 := by omega
      have b4 : ¬ (c1 = p + 1) := by omega
      have b5 : ¬ (c = p) := by omega
      have b6 : (p : Int) ≤ l.length := by omega
      rw [← hki] at hz
      clear hA' hA1 hA2 hR1 HT hR2 hki
      subst hk
      go_enter Try.func79, Try.ntmps79
      go_wp2_with (first
        | (at_builtin; refine Lib.wpList_append_run _ rfl _ _ _ _ rfl _ _ rfl rfl _ _ hz ?_)
        | (at_builtin; refine wpList_copy_run rfl _ _ _ _ rfl _ _ rfl rfl hcp1 ?_))
      go_region_law_o (refine step_copy_run rfl _ _ 27 27 rfl (.slice (some ⟨w.heap.size, (p + 1) * 3, none⟩) (l.length + 1 - (p + 1)) (c1 - (p + 1))) (.slice (some ⟨g, p * 3, none⟩) (l.length - p) (c - p)) (by simp [Act.eval, Act.put]) (by simp [Act.eval, Act.put]) hcp2 ?_)
      go_wp2
      go_ret
      refine ⟨_, rfl, ?_, ⟨hb3.os, hb3.tape, hb3.output, hb3.size, fun k hk _ => hb3.block k hk⟩⟩
      rw [insO_two l p o zO hp2] at hR3
      exact ⟨fun k hk => hfresh k (by simp [Value.ownBlock] at hk; omega), (Kd.R_lower hR3 hbase).2⟩
end Go.Proofs.Ytjeojdbfpncnkaa.Ci
