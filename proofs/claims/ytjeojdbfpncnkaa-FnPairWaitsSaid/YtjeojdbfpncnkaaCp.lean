/- copy of elements of several cells, all read in one memory that does not change. -/
import Derived.Test.YtjeojdbfpncnkaaCd
import Derived.Laws.CopyOwn
import Derived.Lib.Overlaps
import Derived.Laws.Externs
import Derived.Lib.BufferMore
set_option linter.unusedVariables false
set_option linter.unusedSimpArgs false
namespace Go.Proofs.Ytjeojdbfpncnkaa.Cp
open Go.RowKit Go.Proofs.YtjeojdbfpncnkaaW.PrintWords Go.Proofs.Ytjeojdbfpncnkaa.Wd Go.Proofs.Ytjeojdbfpncnkaa.Pu Go.Proofs.Ytjeojdbfpncnkaa.Ca
section
variable {P : Program} {α : Type} (d : Kd α) (wf : World)

theorem reps_one {W : World} {ys : List α} {cs : List Value} (hs0 : 0 < d.sz) (h : Reps (d.K W) d.sz ys cs) : ∀ u ∈ cs, u.oneCell' = true := by
  intro u hu
  obtain ⟨q, hq, rfl⟩ := List.mem_iff_getElem.1 hu
  have hql : q / d.sz < ys.length := by
    rw [Nat.div_lt_iff_lt_mul hs0, ← h.1]
    exact hq
  refine d.K_one (h.2 (q / d.sz) _ (List.getElem?_eq_getElem hql)) _ ?_
  rw [List.mem_iff_getElem?]
  refine ⟨q % d.sz, ?_⟩
  rw [List.getElem?_take, if_pos (Nat.mod_lt _ hs0), List.getElem?_drop, Nat.mul_comm, Nat.div_add_mod, List.getElem?_eq_getElem hq]

theorem run_copy_fixed {W : World} {base : Nat} {t e ty : TypeId} (ht : P.underlying t = some (.slice e)) (hsz : (P.info? e).map (·.size) = some d.sz) (hs0 : 0 < d.sz) {ok : Nat → Prop} {g n cap : Nat} {xs ys : List α}
    (HO : (Kd.fixed d wf).R e W base ok (.slice (some ⟨g, 0, none⟩) n cap) xs) (off dLen dCap : Nat) (ad : Addr) (sLen sCap : Nat) (hy : ys.length = Nat.min sLen dLen)
    (HR : (Kd.fixed d wf).C W (some ad) ys.length ys) (hfit : off + ys.length ≤ xs.length) (q : Nat) (hq : q = off * d.sz) :
    ∃ w1, (Builtin.copy_ #[t, t] ty #[.slice (some ⟨g, q, none⟩) dLen dCap, .slice (some ad) sLen sCap]).run P W = .ok (goInt ys.length) w1 ∧
      (Kd.fixed d wf).R e w1 base ok (.slice (some ⟨g, 0, none⟩) n cap) (xs.take off ++ ys ++ xs.drop (off + ys.length)) ∧ W.grownBy w1 (some g) := by
  subst hq
  obtain ⟨hok, inner, hown, hr⟩ := HO
  obtain ⟨news, hnr, hnc⟩ := ReadsRow.inner_ HR
  have hone := reps_one d hs0 (show Reps (d.K wf) d.sz ys news from hnr)
  have hxl : inner.length = xs.length * d.sz := hr.1
  have hnl : news.length = ys.length * d.sz := hnr.1
  have hfit2 : off * d.sz + news.length ≤ inner.length := by rw [hnl, hxl, ← Nat.add_mul]; exact Nat.mul_le_mul_right _ hfit
  rcases hown.2 with ⟨hv, _⟩ | ⟨g', cap', cur, hv, hbg, hg, hnc2, hmx, hcs, hin⟩
  · cases hv
  · obtain ⟨rfl, rfl, rfl⟩ : g = g' ∧ n = xs.length ∧ cap = cap' := by simpa using hv
    replace hin : cur.toList.take (xs.length * d.sz) = inner := hin
    have hle : xs.length * d.sz ≤ cur.size := by rw [hcs]; exact Nat.mul_le_mul_right _ hnc2
    have hst := run_storeCells_at P g (off * d.sz) e news 0 cur W hg (by omega) hone
    have hl := run_loadCells_list (P := P) W ad news hnc
    refine ⟨W.setRow g (cur.toList.take (off * d.sz) ++ news ++ cur.toList.drop (off * d.sz + news.length)).toArray, ?_, ⟨hok, inner.take (off * d.sz) ++ news ++ inner.drop (off * d.sz + news.length), ?_, ?_⟩, ?_⟩
    · obtain ⟨i, hi, hi2⟩ := Option.map_eq_some_iff.1 hsz
      rw [hnl] at hl
      simp [Builtin.copy_, run_underlying ht, Builtin.lenOf, Builtin.firstCells, sizeOf, typeInfo, hi, hi2, ← hy, hl]
      simp at hst
      simp [hst, Result.andThen]
    · have hnn : (xs.take off ++ ys ++ xs.drop (off + ys.length)).length = xs.length := by simp; omega
      rw [hnn]
      refine ⟨?_, .inr ⟨g, cap, _, rfl, hbg, setRow_heap W g cur _ e _ hg, hnc2, hmx, ?_, ?_⟩⟩
      · simp; rw [hxl] at *; simp only [Kd.fixed]; omega
      · simp only [List.size_toArray, List.length_append, List.length_take, List.length_drop, Array.length_toList]
        have : (Kd.fixed d wf).sz = d.sz := rfl
        omega
      · show List.take (xs.length * d.sz) _ = _
        rw [List.take_append, List.take_append]
        have e1 : (cur.toList.take (off * d.sz)).length = off * d.sz := by rw [List.length_take, Array.length_toList]; omega
        have e2 : List.take (xs.length * d.sz) (cur.toList.take (off * d.sz)) = inner.take (off * d.sz) := by
          rw [← hin, List.take_take, List.take_take]; congr 1; omega
        have e3 : List.take (xs.length * d.sz - (cur.toList.take (off * d.sz)).length) news = news := List.take_of_length_le (by rw [e1]; omega)
        have e4 : List.take (xs.length * d.sz - (cur.toList.take (off * d.sz) ++ news).length) (cur.toList.drop (off * d.sz + news.length)) = inner.drop (off * d.sz + news.length) := by
          rw [← hin, List.drop_take]; congr 1; rw [List.length_append, e1]
        rw [e2, e3, e4]
    · have h1 := Kd.reps_take (m := off) hr (by omega)
      have h3 := Kd.reps_drop (m := off + ys.length) hr
      rw [Nat.add_mul] at h3
      have hn3 : (Kd.fixed d wf).sz = d.sz := rfl
      rw [hnl]
      exact Kd.reps_append (Kd.reps_append h1 hnr) h3
    · exact ⟨rfl, rfl, rfl, by simp [World.setRow], fun k hk hne => setRow_other W g k _ (fun e => hne (by rw [e]))⟩

/-- .. into the spare cells behind the elements. -/
theorem run_copy_ext {W : World} {base : Nat} {t e ty : TypeId} (ht : P.underlying t = some (.slice e)) (hsz : (P.info? e).map (·.size) = some d.sz) (hs0 : 0 < d.sz) {ok : Nat → Prop} {g n cap : Nat} {xs ys : List α}
    (HO : (Kd.fixed d wf).R e W base ok (.slice (some ⟨g, 0, none⟩) n cap) xs) (off dLen dCap : Nat) (ad : Addr) (sLen sCap : Nat) (hy : ys.length = Nat.min sLen dLen)
    (HR : (Kd.fixed d wf).C W (some ad) ys.length ys) (hoff : off ≤ xs.length) (hfit : off + ys.length ≤ cap) (q : Nat) (hq : q = off * d.sz) :
    ∃ w1, (Builtin.copy_ #[t, t] ty #[.slice (some ⟨g, q, none⟩) dLen dCap, .slice (some ad) sLen sCap]).run P W = .ok (goInt ys.length) w1 ∧
      (Kd.fixed d wf).R e w1 base ok (.slice (some ⟨g, 0, none⟩) (off + ys.length) cap) (xs.take off ++ ys) ∧ W.grownBy w1 (some g) := by
  subst hq
  obtain ⟨hok, inner, hown, hr⟩ := HO
  obtain ⟨news, hnr, hnc⟩ := ReadsRow.inner_ HR
  have hone := reps_one d hs0 (show Reps (d.K wf) d.sz ys news from hnr)
  have hxl : inner.length = xs.length * d.sz := hr.1
  have hnl : news.length = ys.length * d.sz := hnr.1
  have ho2 : off * d.sz ≤ inner.length := by rw [hxl]; exact Nat.mul_le_mul_right _ hoff
  rcases hown.2 with ⟨hv, _⟩ | ⟨g', cap', cur, hv, hbg, hg, hnc2, hmx, hcs, hin⟩
  · cases hv
  · obtain ⟨rfl, rfl, rfl⟩ : g = g' ∧ n = xs.length ∧ cap = cap' := by simpa using hv
    replace hin : cur.toList.take (xs.length * d.sz) = inner := hin
    replace hcs : cur.size = cap * d.sz := hcs
    have hfit2 : off * d.sz + news.length ≤ cur.size := by rw [hnl, hcs, ← Nat.add_mul]; exact Nat.mul_le_mul_right _ hfit
    have hle : xs.length * d.sz ≤ cur.size := by rw [hcs]; exact Nat.mul_le_mul_right _ hnc2
    have hst := run_storeCells_at P g (off * d.sz) e news 0 cur W hg (by omega) hone
    have hl := run_loadCells_list (P := P) W ad news hnc
    refine ⟨W.setRow g (cur.toList.take (off * d.sz) ++ news ++ cur.toList.drop (off * d.sz + news.length)).toArray, ?_, ⟨hok, inner.take (off * d.sz) ++ news, ?_, ?_⟩, ?_⟩
    · obtain ⟨i, hi, hi2⟩ := Option.map_eq_some_iff.1 hsz
      rw [hnl] at hl
      simp [Builtin.copy_, run_underlying ht, Builtin.lenOf, Builtin.firstCells, sizeOf, typeInfo, hi, hi2, ← hy, hl]
      simp at hst
      simp [hst, Result.andThen]
    · have hnn : (xs.take off ++ ys).length = off + ys.length := by simp; omega
      rw [hnn]
      have e1 : (cur.toList.take (off * d.sz)).length = off * d.sz := by rw [List.length_take, Array.length_toList]; omega
      refine ⟨?_, .inr ⟨g, cap, _, rfl, hbg, setRow_heap W g cur _ e _ hg, hfit, hmx, ?_, ?_⟩⟩
      · rw [List.length_append, List.length_take, hnl, Nat.add_mul]
        show min (off * d.sz) inner.length + _ = off * d.sz + ys.length * d.sz
        omega
      · simp only [List.size_toArray, List.length_append, List.length_take, List.length_drop, Array.length_toList]
        show _ = cap * d.sz
        omega
      · show List.take ((off + ys.length) * d.sz) _ = _
        have e2 : cur.toList.take (off * d.sz) = inner.take (off * d.sz) := by
          rw [← hin, List.take_take]; congr 1; omega
        have e3 : (off + ys.length) * d.sz = (cur.toList.take (off * d.sz) ++ news).length := by rw [List.length_append, e1, hnl, Nat.add_mul]
        rw [e3]
        simp only []
        rw [List.take_left, e2]
    · exact Kd.reps_append (Kd.reps_take (m := off) hr (by omega)) hnr
    · exact ⟨rfl, rfl, rfl, by simp [World.setRow], fun k hk hne => setRow_other W g k _ (fun e => hne (by rw [e]))⟩
theorem C_dropF {w : World} {dd : Kd α} {ad : Addr} {n : Nat} {xs : List α} (h : dd.C w (some ad) n xs) (m : Nat) (hm : m ≤ n) : dd.C w (some (ad.add (m * dd.sz))) (n - m) (xs.drop m) := by
  refine ⟨by rw [List.length_drop, h.1], by have := h.2.1; omega, fun h0 => ⟨_, rfl, fun j q hj => ?_⟩⟩
  obtain ⟨ad', e, hc⟩ := h.2.2 (by omega)
  cases e
  rw [List.getElem?_drop] at hj
  obtain ⟨c, h1, h2, h3⟩ := hc _ _ hj
  exact ⟨c, h1, h2, fun i u hi => by rw [add_add, show m * dd.sz + (j * dd.sz + i) = (m + j) * dd.sz + i by rw [Nat.add_mul]; omega]; exact h3 i u hi⟩

variable {ops : Array Oper} {rest : List Oper} {o : Oper} {a : Act} {K : Act → World → Prop} {Q : Exit → Act → World → Prop} {E : Prop}
theorem wpList_copy_run {W : World} (hgd : o.guard = none) (x y : Operand) (t t' : TypeId) (ho : o.op = .call { callee := .builtin .copy, args := #[x, y], argTypes := #[t, t'] }) (v u : Value) (hx : a.eval x = v) (hy : a.eval y = u) {v' : Value} {w' : World}
    (hr : (Builtin.copy_ #[t, t'] o.type #[v, u]).run P W = .ok v' w') (h : wpList P ops Q rest (a.put o.dst v') w') : wpList P ops Q (o :: rest) a W := by
  refine wpList_plain hgd fun _ hK => ?_
  unfold Oper.wp execOp
  simp only [ho, resolve, invoke, builtin, Sem.run_bind, Sem.run_pure, Result.andThen_ok, List.map_toArray, List.map_cons, List.map_nil, hx, hy, hr]
  exact hK _ _ h
theorem step_copy_run {W : World} (hg : o.guard = none) (x y : Operand) (t t' : TypeId) (ho : o.op = .call { callee := .builtin .copy, args := #[x, y], argTypes := #[t, t'] }) (v u : Value) (hx : a.eval x = v) (hy : a.eval y = u) {v' : Value} {w' : World}
    (hr : (Builtin.copy_ #[t, t'] o.type #[v, u]).run P W = .ok v' w') (hK : K (a.put o.dst v') w') :
    if Region.wanted o (yielded ops a.tmps) = true then Oper.wp P o a W K Q else E := by
  have hw : Region.wanted o (yielded ops a.tmps) = true := by simp [Region.wanted, hg]
  rw [if_pos hw]
  unfold Oper.wp execOp
  simp only [ho, resolve, invoke, builtin, Sem.run_bind, Sem.run_pure, Result.andThen_ok, List.map_toArray, List.map_cons, List.map_nil, hx, hy, hr]
  exact hK
end

theorem szO (wf : World) : 0 < (Kd.fixed kO wf).sz := (by decide : 0 < 3)
theorem infoO : (Try.prog.info? 25).map (fun i => (i.zero, i.size, i.bytes)) = some (some (.agg #[.int .i64 0, .int .i64 0, .slice none 0 0]), 3, 40) := by kernel_rfl
theorem sizeO : (Try.prog.info? 25).map (·.size) = some 3 := by kernel_rfl
theorem zero_fixed (wf : World) : kO.K wf zO [.int .i64 0, .int .i64 0, .slice none 0 0] := kO_mk wf zO (A := none) (c := 0) (Nat.le_refl _) ⟨rfl, by decide, fun h => by simp [zO] at h⟩

set_option maxRecDepth 100000 in
/-- slices.Clone -/
theorem cloneS_any (A : Option Addr) (c : Nat) (l : List Occ) (w : World) (hl : l.length ≤ 1048576) (hc : l.length ≤ c) (hr : kO.C w A l.length l) :
    Calls Try.prog 80 #[.slice A l.length c] w fun e w' =>
      ∃ v, e = .returned v ∧ (Kd.fixed kO w).R 25 w' w.heap.size (fun _ => True) v l ∧ Below w.heap.size w w' := by
  rcases A with _ | ad
  · have h0 : l = [] := by
      rcases Nat.eq_zero_or_pos l.length with h | h
      · exact List.eq_nil_of_length_eq_zero h
      · obtain ⟨_, e, _⟩ := hr.2.2 h
        cases e
    subst h0
    have hnil : ∀ W, (binOp .eql 27 (.slice none 0 c) (.slice none 0 0)).run Try.prog W = .ok (.bool true) W := fun W => Lib.run_eql_slice_nil_nil W _ _ Try.underlying27
    go_enter Try.func80, Try.ntmps80
    go_wp2
    go_ret
    exact ⟨_, rfl, Kd.R_nil _ _ _ _ _, Below.refl _ _⟩
  · have hr2 : (Kd.fixed kO w).C w (some ad) l.length l := hr
    have hnil : ∀ W, (binOp .eql 27 (.slice (some ad) l.length c) (.slice none 0 0)).run Try.prog W = .ok (.bool false) W := fun W => Lib.run_eql_slice_some_nil W _ _ _ Try.underlying27
    go_enter Try.func80, Try.ntmps80
    go_wp2_with (first
      | ((with_reducible refine gate_dst (N := 5) rfl ?_); refine Kd.R_lit (Kd.fixed kO w) (w0 := w) w.heap.size 25 rfl (N := 5) rfl (xs := ([] : List Occ)) (inner := []) (ok := fun _ => True) (okp := fun _ => True) ?hr (Reps.none _ _) (fun _ hk => hk) trivial (Below.refl _ _) (Nat.le_refl _) (by simp) ?_; (case hr => first | (go_simp; done) | (go_simp; rfl)); intro v1 w1 ho hb hg _; obtain ⟨A1, c1, rfl⟩ := Kd.R_slice ho; have HO := Aside0.mk ho; have HB := Aside0.mk hb; have HG := Aside0.mk hg; clear ho hb hg)
      | ((with_reducible refine gate_dst (N := 7) rfl ?_); refine Kd.R_append_rows (Kd.fixed kO w) (w0 := w) w.heap.size rfl _ _ 27 25 (.agg #[.int .i64 0, .int .i64 0, .slice none 0 0]) 40 rfl Try.underlying27 infoO rfl (szO w) (by decide) _ [] l (some ad) l.length c (fun _ => True) (fun _ => False) rfl rfl HO.out (Kd.C_below hr2 ⟨HG.out.os, HG.out.tape, HG.out.output, HG.out.size, fun k hk => HG.out.block k hk (by simp)⟩) (fun _ _ h => h) (fun _ h => h.elim) (fun _ _ => trivial) HB.out HB.out.size (by simp; omega) ?_; intro v2 w2 ho hb hg _; have HO2 := Aside0.mk ho; have HB2 := Aside0.mk hb; clear ho hb hg))
    go_ret
    exact ⟨_, rfl, HO2.out, HB2.out⟩
end Go.Proofs.Ytjeojdbfpncnkaa.Cp
