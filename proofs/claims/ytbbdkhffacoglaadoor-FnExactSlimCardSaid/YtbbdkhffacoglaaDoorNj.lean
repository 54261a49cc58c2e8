
/- slices.CompactFunc at expressions. -/
import Derived.Test.YtbbdkhffacoglaaDoorNi
import Derived.Test.YtbbdkhffacoglaaDoorKf
import Derived.Laws.CopyOwn
set_option linter.unusedVariables false
set_option linter.unusedSimpArgs false
namespace Go.Proofs.YtbbdkhffacoglaaDoor.Nj
open Go.RowKit Go.Proofs.YtbbdkhffacoglaaDoorW.PrintWords Go.Proofs.YtbbdkhffacoglaaDoor.Ja Go.Proofs.YtbbdkhffacoglaaDoor.Jb Go.Proofs.YtbbdkhffacoglaaDoor.Jc Go.Proofs.YtbbdkhffacoglaaDoor.Jd Go.Proofs.YtbbdkhffacoglaaDoor.Jg Go.Proofs.YtbbdkhffacoglaaDoor.Ka Go.Proofs.YtbbdkhffacoglaaDoor.Kf Go.Proofs.YtbbdkhffacoglaaDoor.Na Go.Proofs.YtbbdkhffacoglaaDoor.Nb Go.Proofs.YtbbdkhffacoglaaDoor.Nd Go.Proofs.YtbbdkhffacoglaaDoor.Ne Go.Proofs.YtbbdkhffacoglaaDoor.Nf Go.Proofs.YtbbdkhffacoglaaDoor.Ng Go.Proofs.YtbbdkhffacoglaaDoor.Nh Go.Proofs.YtbbdkhffacoglaaDoor.Ni

theorem dd_one : ∀ (r : List Ex) (p z : Ex), dd p (r ++ [z]) = dd p r ++ (if sameE z ((p :: r).getD r.length zE) = true then [] else [z])
  | [], p, z => by unfold dd; simp [dd]
  | y :: r, p, z => by
    have ih := dd_one r y z
    have e : (p :: y :: r).getD (y :: r).length zE = (y :: r).getD r.length zE := by rw [List.length_cons, List.getD_cons_succ]
    rw [e, List.cons_append]
    unfold dd
    split
    · exact ih
    · rw [ih]; rfl
theorem dedup_snoc (l : List Ex) (m : Nat) (h1 : 1 ≤ m) (h : m < l.length) : dedup (l.take (m + 1)) = dedup (l.take m) ++ (if sameE (l.getD m zE) (l.getD (m - 1) zE) = true then [] else [l.getD m zE]) := by
  rw [take_snoc l m zE h]
  have hl : (l.take m).length = m := by rw [List.length_take]; omega
  have hg : (l.take m).getD (m - 1) zE = l.getD (m - 1) zE := by
    rw [List.getD_eq_getElem?_getD, List.getD_eq_getElem?_getD, List.getElem?_take, if_pos (by omega)]
  cases ht : l.take m with
  | nil => rw [ht] at hl; simp at hl; omega
  | cons x s =>
    rw [ht] at hl hg
    have hs : s.length = m - 1 := by simp at hl; omega
    show x :: dd x (s ++ [l.getD m zE]) = (x :: dd x s) ++ _
    rw [dd_one, hs, hg]; rfl
theorem dedup_len (l : List Ex) : (dedup l).length ≤ l.length := (Nc.dedup_le l).2
theorem elemC {Wz : Wq} {w : World} {base g n cap : Nat} {l : List Ex} (h : RowC Wz w base (.slice (some ⟨g, 0, none⟩) n cap) l) (hz : Below Wz.heap.size Wz w) (k : Nat) (hk : k < n) :
    ∃ A c, w.cell? ⟨g, k * 4, none⟩ = some (.int .i64 (l.getD k zE).f0) ∧ w.cell? ⟨g, k * 4 + 1, none⟩ = some (.int .i64 (l.getD k zE).f1) ∧ w.cell? ⟨g, k * 4 + 2, none⟩ = some (.int .i64 (l.getD k zE).f2) ∧ w.cell? ⟨g, k * 4 + 3, none⟩ = some (.slice A (l.getD k zE).f3.length c) ∧
      IsEL 29 w (l.getD k zE).f3 A c ∧ (kC Wz).K Wz (l.getD k zE) [.int .i64 (l.getD k zE).f0, .int .i64 (l.getD k zE).f1, .int .i64 (l.getD k zE).f2, .slice A (l.getD k zE).f3.length c] := by
  obtain ⟨c, hcl, hM, hc, _⟩ := Kd.R_elem h zE (k : Int) (by omega) (by omega)
  rw [Int.toNat_natCast] at hM hc
  have hM2 : (kC Wz).K Wz (l.getD k zE) c := hM
  obtain ⟨A, c3, rfl, hl, hC⟩ := kE_open hM2.1
  exact ⟨A, c3, hc 0 _ rfl, hc 1 _ rfl, hc 2 _ rfl, hc 3 _ rfl, IsEL.below ⟨hl, hC⟩ hz, hM2⟩
/-- the places behind the first k are made zero -/
theorem run_clear {Wz : Wq} {W : World} {base g n cap : Nat} {l : List Ex} (HO : RowC Wz W base (.slice (some ⟨g, 0, none⟩) n cap) l) (k m cap' : Nat) (hk : k + m = n) (hm : 0 < m) (ty : TypeId) :
    ∃ w1, (Builtin.clear_ #[26] ty #[.slice (some ⟨g, k * 4, none⟩) m cap']).run Tryd.prog W = .ok (.tuple #[]) w1 ∧ RowC Wz w1 base (.slice (some ⟨g, 0, none⟩) k cap) (l.take k) ∧ W.grownBy w1 (some g) := by
  obtain ⟨hok, inner, hown, hr⟩ := HO
  have hln : l.length = n := by
    rcases hown.2 with ⟨hv, _⟩ | ⟨g', cap', cur, hv, _⟩
    · cases hv
    · injection hv with _ h2 _; exact h2.symm
  have hxl : inner.length = l.length * 4 := hr.1
  rcases hown.2 with ⟨hv, _⟩ | ⟨g', cap'', cur, hv, hbg, hg, hnc2, hmx, hcs, hin⟩
  · cases hv
  · obtain ⟨rfl, hnn, rfl⟩ : g = g' ∧ n = l.length ∧ cap = cap'' := by simpa using hv
    replace hin : cur.toList.take (l.length * 4) = inner := hin
    replace hcs : cur.size = cap * 4 := hcs
    have hle : l.length * 4 ≤ cur.size := by rw [hcs]; exact Nat.mul_le_mul_right _ hnc2
    obtain ⟨zs, hzs⟩ : ∃ zs : List Value, zs = (Builtin.zeroCells (Value.agg #[.int .i64 0, .int .i64 0, .int .i64 0, .slice none 0 0]).cells m).toList := ⟨_, rfl⟩
    have hzl : zs.length = m * 4 := by simp [hzs, Builtin.zeroCells, Value.cells]
    have hone : ∀ u ∈ zs, u.oneCell' = true := by
      intro u hu
      simp [hzs, Builtin.zeroCells, Value.cells] at hu
      obtain ⟨i, _, rfl⟩ := hu
      have h4 : i % 4 < 4 := Nat.mod_lt _ (by decide)
      generalize i % 4 = q at h4 ⊢
      rcases (show q = 0 ∨ q = 1 ∨ q = 2 ∨ q = 3 by omega) with rfl | rfl | rfl | rfl <;> rfl
    have hst := run_storeCells_at (P := Tryd.prog) g (k * 4) 29 zs 0 cur W hg (by rw [hzl]; omega) hone
    have hz0 : (zeroValue 29).run Tryd.prog W = .ok (.agg #[.int .i64 0, .int .i64 0, .int .i64 0, .slice none 0 0]) W := by kernel_rfl
    refine ⟨W.setRow g (cur.toList.take (k * 4 + 0) ++ zs ++ cur.toList.drop (k * 4 + 0 + zs.length)).toArray, ?_, ⟨hok, inner.take (k * 4), ?_, ?_⟩, ?_⟩
    · obtain ⟨m', rfl⟩ : ∃ m', m = m' + 1 := ⟨m - 1, by omega⟩
      simp only [Builtin.clear_]
      simp [run_underlying Tryd.underlying26, hz0]
      simp only [Nat.add_zero] at hst ⊢
      rw [← hzs, hst]
      simp [Result.andThen, List.append_assoc]
    · have hlt : (l.take k).length = k := by rw [List.length_take]; omega
      rw [hlt]
      refine ⟨by rw [List.length_take]; show _ = k * 4; omega, .inr ⟨g, cap, _, rfl, hbg, setRow_heap W g cur _ 29 _ hg, by omega, hmx, ?_, ?_⟩⟩
      · have hc4 : k * 4 ≤ cur.size := by omega
        have hsz : (cur.toList.take (k * 4 + 0) ++ zs ++ cur.toList.drop (k * 4 + 0 + zs.length)).length = cur.size := by
          rw [List.length_append, List.length_append, List.length_take, List.length_drop, Array.length_toList, hzl]; omega
        rw [List.size_toArray, hsz, hcs]; rfl
      · have hA : (cur.toList.take (k * 4 + 0)).length = k * 4 := by rw [List.length_take, Array.length_toList]; omega
        have hI : inner.take (k * 4) = cur.toList.take (k * 4 + 0) := by rw [← hin, List.take_take, Nat.min_eq_left (by omega)]; rfl
        have hT : List.take (k * 4) (cur.toList.take (k * 4 + 0) ++ zs ++ cur.toList.drop (k * 4 + 0 + zs.length)) = cur.toList.take (k * 4 + 0) := by rw [List.append_assoc]; exact List.take_left' hA
        exact hT.trans hI.symm
    · have hr2 : Reps ((kC Wz).K Wz) 4 l inner := hr
      have hr3 := Kd.reps_take (m := k) hr2 (by omega)
      exact hr3
    · exact ⟨rfl, rfl, rfl, by simp [World.setRow], fun k hk hne => setRow_other W g k _ (fun e => hne (by rw [e]))⟩
end Go.Proofs.YtbbdkhffacoglaaDoor.Nj
