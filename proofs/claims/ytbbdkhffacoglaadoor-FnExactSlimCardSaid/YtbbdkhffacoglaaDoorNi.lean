
/- slices.Grow, slices.Concat at expressions. -/
import Derived.Test.YtbbdkhffacoglaaDoorNh
import Derived.Test.YtbbdkhffacoglaaDoorWZeros
set_option linter.unusedVariables false
set_option linter.unusedSimpArgs false
namespace Go.Proofs.YtbbdkhffacoglaaDoor.Ni
open Go.RowKit Go.Proofs.YtbbdkhffacoglaaDoorW.PrintWords Go.Proofs.YtbbdkhffacoglaaDoor.Ja Go.Proofs.YtbbdkhffacoglaaDoor.Jb Go.Proofs.YtbbdkhffacoglaaDoor.Jc Go.Proofs.YtbbdkhffacoglaaDoor.Jd Go.Proofs.YtbbdkhffacoglaaDoor.Jg Go.Proofs.YtbbdkhffacoglaaDoor.Na Go.Proofs.YtbbdkhffacoglaaDoor.Nb Go.Proofs.YtbbdkhffacoglaaDoor.Nd Go.Proofs.YtbbdkhffacoglaaDoor.Ne Go.Proofs.YtbbdkhffacoglaaDoor.Nf Go.Proofs.YtbbdkhffacoglaaDoor.Ng Go.Proofs.YtbbdkhffacoglaaDoor.Nh

theorem infoC (Wz : Wq) : (Tryd.prog.info? 29).map (fun i => (i.zero, i.size, i.bytes)) = some (some (.agg #[.int .i64 0, .int .i64 0, .int .i64 0, .slice none 0 0]), (kC Wz).sz, 48) := by kernel_rfl
theorem zeroC (Wz : Wq) (W : World) (base : Nat) (ok : Nat → Prop) : (kC Wz).M W base ok zE (Value.agg #[.int .i64 0, .int .i64 0, .int .i64 0, .slice none 0 0]).cells.toList := by
  show (kE 29).K Wz zE [.int .i64 0, .int .i64 0, .int .i64 0, .slice none 0 0] ∧ Wz.Q zE [.int .i64 0, .int .i64 0, .int .i64 0, .slice none 0 0]
  exact ⟨kE_mk (x := zE) (A := none) (c := 0) (Nat.le_refl _) ⟨rfl, by decide, fun h => absurd h (by decide)⟩, Wz.qn 0 0 0⟩
set_option maxHeartbeats 1000000 in
set_option maxRecDepth 100000 in
theorem grow_any (Wz : Wq) (n : Nat) (hn : n ≤ 2097152) (w : World) : Calls Tryd.prog 93 #[.slice none 0 0, .int .i64 n] w fun e w' => ∃ v, e = .returned v ∧ RowC Wz w' w.heap.size v [] ∧ Below w.heap.size w w' := by
  by_cases h0 : n = 0
  · subst h0
    go_enter Tryd.func93, Tryd.ntmps93
    go_wp2
    go_ret
    exact ⟨_, rfl, Kd.R_nil _ _ _ _ _, Below.refl _ _⟩
  · have h1 : decide ((n : Int) < 0) = false := by simp
    have h2 : decide ((n : Int) > 0) = true := by simp; omega
    have h3 : decide (0 < n) = true := by simp; omega
    have h4 : (0 : Int) ≤ n := by omega
    have hp : 0 < n := by omega
    clear h0
    go_enter Tryd.func93, Tryd.ntmps93
    go_wp2_with (first | ((with_reducible refine gate_dst (N := 22) rfl ?_); refine Kd.R_append_zeros (kC Wz) (w0 := w) w.heap.size rfl _ _ 26 3 29 (.agg #[.int .i64 0, .int .i64 0, .int .i64 0, .slice none 0 0]) 48 rfl Tryd.underlying26 Tryd.underlying3 (infoC Wz) rfl (kC_sz Wz) (by decide) (.slice none 0 0) [] zE (n : Int) (fun _ => True) rfl rfl (zeroC Wz _ _ _) (fun _ _ => trivial) (Kd.R_nil _ _ _ _ _) h4 (Below.refl _ _) (Nat.le_refl _) (by simp; omega) ?_; intro v1 w1 ho hb _ _; obtain ⟨g, cap, eo, _, _, _⟩ := Kd.R_form ho (by simp; omega); have HO := Aside0.mk ho; have HB := Aside0.mk hb; clear ho hb; simp only [List.nil_append, List.length_replicate, Int.toNat_natCast] at eo HO; cases eo))
    go_ret
    exact ⟨_, rfl, Kd.R_take (m := 0) HO.out (by simp), HB.out⟩
set_option maxHeartbeats 2000000 in
set_option maxRecDepth 100000 in
theorem concat_any (Wz : Wq) (g : Nat) (A B : Option Addr) (c c2 : Nat) (a b : List Ex) (w : World) (k0 : w.cell? ⟨g, 0, none⟩ = some (.slice A a.length c)) (k1 : w.cell? ⟨g, 1, none⟩ = some (.slice B b.length c2))
    (ha : (kC Wz).C w A a.length a) (hb : (kC Wz).C w B b.length b) (la : a.length ≤ 1048576) (lb : b.length ≤ 1048576) :
    Calls Tryd.prog 62 #[.slice (some ⟨g, 0, none⟩) 2 2] w fun e w' => ∃ v, e = .returned v ∧ RowC Wz w' w.heap.size v (a ++ b) ∧ Below w.heap.size w w' := by
  go_enter Tryd.func62, Tryd.ntmps62
  go_wp2
  go_loop [3, 11] (fun n i => ∃ (k m : Nat), k ≤ 2 ∧ i = .int .i64 k ∧ n = .int .i64 m ∧ m ≤ 2097152 ∧ Aside0 (m = if k = 0 then 0 else if k = 1 then a.length else a.length + b.length)) (fun _ i => 2 - (intOf i).toNat)
  case atStart => exact ⟨0, 0, by omega, rfl, rfl, by omega, ⟨rfl⟩⟩
  case round =>
    obtain ⟨k, m, hk, rfl, rfl, hm, HM⟩ := hrel
    obtain rfl | rfl | rfl : k = 0 ∨ k = 1 ∨ k = 2 := by omega
    · have h0 : (0 : Int) ≤ (m : Int) + a.length := by omega
      have h1 : decide ((m : Int) + a.length < 0) = false := by simp; omega
      have hme := HM.out
      simp at hme
      subst hme
      go_wp2
      go_round
      case rel => exact ⟨1, a.length, by omega, by go_num, by go_num, by omega, ⟨by simp⟩⟩
      case measure => simp [intOf]
    · have h0 : (0 : Int) ≤ (m : Int) + b.length := by omega
      have h1 : decide ((m : Int) + b.length < 0) = false := by simp; omega
      have hme := HM.out
      simp at hme
      subst hme
      go_wp2
      go_round
      case rel => exact ⟨2, a.length + b.length, by omega, by go_num, by go_num, by omega, ⟨by simp⟩⟩
      case measure => simp [intOf]
    · clear HM
      go_wp2_with fail
      refine (grow_any Wz m (by omega) _).mono ?_
      rintro e w1 ⟨v, rfl, ho, hb1⟩
      have HO := Aside0.mk ho
      have HB := Aside0.mk hb1
      clear ho hb1
      go_wp2
      go_loopw [6, 27] (fun v i wr => ∃ (k : Nat), k ≤ 2 ∧ i = .int .i64 k ∧ Aside0 (RowC Wz wr w.heap.size v (if k = 0 then [] else if k = 1 then a else a ++ b)) ∧ Aside0 (Below w.heap.size w wr)) (fun _ i _ => 2 - (intOf i).toNat)
      case atStart => exact ⟨0, by omega, rfl, HO, HB⟩
      case round =>
        clear HO HB
        obtain ⟨k, hk, rfl, HO, HB⟩ := hrel
        have kk0 := (HB.out.cell (World.block_lt_of_cell? w _ k0)).trans k0
        have kk1 := (HB.out.cell (World.block_lt_of_cell? w _ k1)).trans k1
        obtain rfl | rfl | rfl : k = 0 ∨ k = 1 ∨ k = 2 := by omega
        · go_wp2_with (first | ((with_reducible refine gate_dst (N := 33) rfl ?_); refine Kd.R_append_rows (kC Wz) (Rr := (kC Wz).K w) (w0 := w) w.heap.size rfl _ _ 26 29 (.agg #[.int .i64 0, .int .i64 0, .int .i64 0, .slice none 0 0]) 48 rfl Tryd.underlying26 (infoC Wz) rfl (kC_sz Wz) (by decide) _ _ a A a.length c (fun _ => True) (fun _ => False) rfl rfl HO.out (Kd.C_below ha HB.out) (fun _ _ h => h) (fun _ h => h.elim) (fun _ _ => trivial) HB.out HB.out.size (by simp; omega) ?_; intro v1 w1 ho hb _ _; have HO1 := Aside0.mk ho; have HB1 := Aside0.mk hb; clear ho hb))
          go_roundw
          case rel => exact ⟨1, by omega, by go_num, ⟨by have h := HO1.out; simp at h; exact h⟩, HB1⟩
          case measure => simp [intOf]
        · go_wp2_with (first | ((with_reducible refine gate_dst (N := 33) rfl ?_); refine Kd.R_append_rows (kC Wz) (Rr := (kC Wz).K w) (w0 := w) w.heap.size rfl _ _ 26 29 (.agg #[.int .i64 0, .int .i64 0, .int .i64 0, .slice none 0 0]) 48 rfl Tryd.underlying26 (infoC Wz) rfl (kC_sz Wz) (by decide) _ _ b B b.length c2 (fun _ => True) (fun _ => False) rfl rfl HO.out (Kd.C_below hb HB.out) (fun _ _ h => h) (fun _ h => h.elim) (fun _ _ => trivial) HB.out HB.out.size (by simp; omega) ?_; intro v1 w1 ho hb _ _; have HO1 := Aside0.mk ho; have HB1 := Aside0.mk hb; clear ho hb))
          go_roundw
          case rel => exact ⟨2, by omega, by go_num, ⟨by have h := HO1.out; simp at h; exact h⟩, HB1⟩
          case measure => simp [intOf]
        · go_wp2
          go_ret
          exact ⟨_, rfl, by simpa using HO.out, HB.out⟩
end Go.Proofs.YtbbdkhffacoglaaDoor.Ni
