
/- The reference's reader of one word. Printed by genTqd.py. -/
import Derived.Test.YtdohneeejfeknaaDoorTqc
import Derived.Test.YtdohneeejfeknaaDoorTp5
set_option linter.unusedVariables false
set_option linter.unusedSimpArgs false
namespace Go.Proofs.YtdohneeejfeknaaDoor.Tqd
open Go.RowKit Go.Proofs.YtdohneeejfeknaaDoorW.PrintWords Go.Proofs.YtdohneeejfeknaaDoor.Ja Go.Proofs.YtdohneeejfeknaaDoor.Tqa Go.Proofs.YtdohneeejfeknaaDoor.Tqb Go.Proofs.YtdohneeejfeknaaDoor.Tp3 Go.Proofs.YtdohneeejfeknaaDoor.Tp4 Go.Proofs.YtdohneeejfeknaaDoor.Tqc Go.Proofs.YtdohneeejfeknaaDoor.Tp5
/-- what l1One answers: its fields count where it says yes -/
def OneOut (l : List UInt8) (W w : World) (e : Ending) (w' : World) : Prop :=
  (∃ a b c : Int, ∃ f : Bool, e = .returned (.tuple #[.agg #[.int .i64 a, .int .i64 b, .int .i64 c], .bool f]) ∧ oneI l = if f then some (a, b, c) else none) ∧ Below W.heap.size w w'
theorem OneOut.no {l : List UInt8} {w w' : World} {a b c : Int} (h : oneS l = none) (hb : Below w.heap.size w w') : OneOut l w w (.returned (.tuple #[.agg #[.int .i64 a, .int .i64 b, .int .i64 c], .bool false])) w' :=
  ⟨⟨a, b, c, false, rfl, by unfold oneI; rw [h]; rfl⟩, hb⟩
theorem OneOut.yes {l : List UInt8} {w w' : World} {s : Nat} {a b c : Int} (h : oneS l = some (s, b, c)) (ha : a = (s : Int)) (hb : Below w.heap.size w w') : OneOut l w w (.returned (.tuple #[.agg #[.int .i64 a, .int .i64 b, .int .i64 c], .bool true])) w' :=
  ⟨⟨a, b, c, true, rfl, by unfold oneI; rw [h, ha]; rfl⟩, hb⟩
theorem oneS_short (l : List UInt8) (h : l.length < 2) : oneS l = none := by
  match l, h with
  | [], _ => rfl
  | [b], _ => simp [oneS]
theorem oneS_cons (b : UInt8) (t : List UInt8) (h0 : ¬ t.length = 0) (h1 : 97 ≤ b.toNat) (h2 : b.toNat ≤ 101) : oneS (b :: t) = (match (cutE t).2 with
      | none => (numS (cutE t).1).map fun n => (b.toNat - 97, n, 0)
      | some r => match numS r, numS (cutE t).1 with
        | some v, some n => if v = 0 then none else some (b.toNat - 97, n, v)
        | _, _ => none) := by
  unfold oneS
  exact if_neg (by omega)
theorem oneS_bad (b : UInt8) (t : List UInt8) (h : b.toNat < 97 ∨ 101 < b.toNat) : oneS (b :: t) = none := by
  unfold oneS
  exact if_pos (Or.inr h)
theorem findP_cons (b : UInt8) (t : List UInt8) (h : ¬ b = 61) : findP (b :: t) = match (cutE t) with | (_, none) => -1 | (x, some _) => (x.length : Int) + 1 := by
  unfold findP
  rw [cutE, if_neg h]
  generalize cutE t = c
  obtain ⟨x, _ | r⟩ := c <;> simp
set_option maxHeartbeats 4000000 in
set_option maxRecDepth 100000 in
theorem l1One_any (l : List UInt8) (hl : l.length ≤ 4611686018427387904) (w : World) : Calls Tryd.prog 17 #[.string (bs l)] w fun e w' => OneOut l w w e w' := by
  obtain ⟨s, hs0⟩ : ∃ s, s = l := ⟨_, rfl⟩
  rw [← hs0]
  obtain ⟨n, hn⟩ : ∃ n, n = l.length := ⟨_, rfl⟩
  have hs : (bs s).size = n := by rw [bs_size, hs0, hn]
  have hsl : s.length ≤ 4611686018427387904 := by rw [hs0]; exact hl
  rw [← hn] at hl
  by_cases h2 : n < 2
  · have d0 : decide ((n : Int) < 2) = true := decide_eq_true (by omega)
    have HV := Aside0.mk (oneS_short s (by rw [hs0, ← hn]; exact h2))
    clear hs0 hn
    go_enter Tryd.func17, Tryd.ntmps17
    go_wp2
    refine bodyPost_ret (results_ct rfl _ _ w.heap.size 37 #[.int .i64 0, .int .i64 0, .int .i64 0] (0, 0) _ rfl (by first | exact blk_alloc (blk_new _ _) _ | exact blk_new _ _) Tryd.underlying37 rfl (by kernel_rfl)) rfl ?_
    exact OneOut.no HV.out (below_then (below_alloc (Below.refl _ _) _) (by simp) (below_alloc (Below.refl _ _) _))
  have d0 : decide ((n : Int) < 2) = false := decide_eq_false (by omega)
  obtain ⟨b, t, rfl⟩ : ∃ b t, l = b :: t := by
    cases l with
    | nil => simp at hn; omega
    | cons b t => exact ⟨b, t, rfl⟩
  have ht0 : ¬ t.length = 0 := by rw [List.length_cons] at hn; omega
  have hg : ∀ h, (bs s)[0]'h = b := by subst hs0; intro h; rw [bs_get]; rfl
  have hx0 : (bs s).extract 1 n = bs t := by subst hs0; rw [hn]; exact bs_tail b t
  by_cases hb1 : b.toNat < 97
  · have d1 : decide ((b.toNat : Int) < 97) = true := decide_eq_true (by omega)
    have HV : Aside0 (oneS s = none) := ⟨by rw [hs0]; exact oneS_bad b t (Or.inl hb1)⟩
    clear hs0 hn hx0
    go_enter Tryd.func17, Tryd.ntmps17
    go_wp2
    refine bodyPost_ret (results_ct rfl _ _ w.heap.size 37 #[.int .i64 0, .int .i64 0, .int .i64 0] (0, 0) _ rfl (by first | exact blk_alloc (blk_new _ _) _ | exact blk_new _ _) Tryd.underlying37 rfl (by kernel_rfl)) rfl ?_
    exact OneOut.no HV.out (below_then (below_alloc (Below.refl _ _) _) (by simp) (below_alloc (Below.refl _ _) _))
  have d1 : decide ((b.toNat : Int) < 97) = false := decide_eq_false (by omega)
  by_cases hb2 : 101 < b.toNat
  · have d2 : decide ((b.toNat : Int) > 101) = true := decide_eq_true (by omega)
    have HV : Aside0 (oneS s = none) := ⟨by rw [hs0]; exact oneS_bad b t (Or.inr hb2)⟩
    clear hs0 hn hx0
    go_enter Tryd.func17, Tryd.ntmps17
    go_wp2
    refine bodyPost_ret (results_ct rfl _ _ w.heap.size 37 #[.int .i64 0, .int .i64 0, .int .i64 0] (0, 0) _ rfl (by first | exact blk_alloc (blk_new _ _) _ | exact blk_new _ _) Tryd.underlying37 rfl (by kernel_rfl)) rfl ?_
    exact OneOut.no HV.out (below_then (below_alloc (Below.refl _ _) _) (by simp) (below_alloc (Below.refl _ _) _))
  have d2 : decide ((b.toNat : Int) > 101) = false := decide_eq_false (by omega)
  have hb61 : ¬ b = 61 := by rintro rfl; exact hb1 (by decide)
  have hlt : t.length ≤ 4611686018427387904 := by rw [List.length_cons] at hn; omega
  have hO : oneS s = _ := (congrArg oneS hs0).trans (oneS_cons b t ht0 (by omega) (by omega))
  have hF : findP s = _ := (congrArg findP hs0).trans (findP_cons b t hb61)
  have hback := cutE_back t
  have hSY : ((b.toNat : Int) - 97) = ((b.toNat - 97 : Nat) : Int) := by omega
  have HSY := Aside0.mk hSY
  clear hSY
  rcases hc : cutE t with ⟨x, _ | r⟩
  · rw [hc] at hO hF hback
    simp only at hO hF hback
    rw [List.append_nil] at hback
    subst hback
    have HF := Aside0.mk hF
    have d3 : decide ((-1 : Int) ≥ 0) = false := by decide
    clear hF hs0 hn hc ht0
    cases hm : numS t with
    | none =>
      rw [hm] at hO
      have HV := Aside0.mk hO
      have HN := Aside0.mk hm
      clear hO hm
      go_enter Tryd.func17, Tryd.ntmps17
      go_upto_region 12 with (go_at_call 33; refine (l14Find_any s hsl _).mono ?_; rintro e w2 ⟨rfl, rfl⟩; rw [HF.out])
      go_upto_region 13 with (go_at_call 34; refine (l14Num_any t hlt _).mono ?_; rintro e w3 ⟨rfl, rfl⟩; rw [HN.out]; unfold ansN; simp only [Option.getD_some, Option.getD_none, Option.isSome_some, Option.isSome_none])
      go_wp2
      refine bodyPost_ret (results_ct rfl _ _ w.heap.size 37 #[.int .i64 ((b.toNat : Int) - 97), .int .i64 0, .int .i64 0] (0, 0) _ rfl (by first | exact blk_alloc (blk_new _ _) _ | exact blk_new _ _) Tryd.underlying37 rfl (by kernel_rfl)) rfl ?_
      exact OneOut.no HV.out (below_then (below_alloc (Below.refl _ _) _) (by simp) (below_alloc (Below.refl _ _) _))
    | some m =>
      rw [hm] at hO
      have HV := Aside0.mk hO
      have HN := Aside0.mk hm
      clear hO hm
      go_enter Tryd.func17, Tryd.ntmps17
      go_upto_region 12 with (go_at_call 33; refine (l14Find_any s hsl _).mono ?_; rintro e w2 ⟨rfl, rfl⟩; rw [HF.out])
      go_upto_region 13 with (go_at_call 34; refine (l14Num_any t hlt _).mono ?_; rintro e w3 ⟨rfl, rfl⟩; rw [HN.out]; unfold ansN; simp only [Option.getD_some, Option.getD_none, Option.isSome_some, Option.isSome_none])
      go_wp2
      refine bodyPost_ret (results_ct rfl _ _ w.heap.size 37 #[.int .i64 ((b.toNat : Int) - 97), .int .i64 m, .int .i64 0] (0, 0) _ rfl (by first | exact blk_alloc (blk_new _ _) _ | exact blk_new _ _) Tryd.underlying37 rfl (by kernel_rfl)) rfl ?_
      exact OneOut.yes HV.out HSY.out (below_then (below_alloc (Below.refl _ _) _) (by simp) (below_alloc (Below.refl _ _) _))
  · rw [hc] at hO hF hback
    simp only at hO hF hback
    obtain ⟨k, hk⟩ : ∃ k, k = x.length + 1 := ⟨_, rfl⟩
    have hF2 : findP s = (k : Int) := by rw [hF, hk]; rfl
    have hnk : n = k + 1 + r.length := by rw [hn, hback, List.length_cons, List.length_append, List.length_cons, hk]; omega
    have hx1 : (bs s).extract (k + 1) n = bs r := by
      rw [bs_cut _ _ _ (by rw [hs0, hn]; exact Nat.le_refl _)]
      congr 1
      rw [hs0, hn, List.take_length, hback, hk]
      show List.drop (x.length + 1) (x ++ 61 :: r) = r
      rw [← List.drop_drop, List.drop_left]
      rfl
    have hx2 : (bs s).extract 0 k = bs (b :: x) := by
      rw [bs_cut _ _ _ (by rw [hs0, ← hn]; omega)]
      congr 1
      rw [hs0, hback, hk, List.take_succ_cons, List.take_left]
      rfl
    obtain ⟨bx, hbx⟩ : ∃ bx, bx = b :: x := ⟨_, rfl⟩
    have hsb : (bs bx).size = k := by rw [bs_size, hbx, hk, List.length_cons]
    have hx3 : (bs bx).extract 1 k = bs x := by rw [hbx, hk]; exact bs_tail b x
    rw [← hbx] at hx2
    have hxl : x.length ≤ 4611686018427387904 := by omega
    have hrl : r.length ≤ 4611686018427387904 := by omega
    have hkn : k + 1 ≤ n := by omega
    have hk1 : 1 ≤ k := by omega
    have HF := Aside0.mk hF2
    have d3 : decide ((k : Int) ≥ 0) = true := decide_eq_true (by omega)
    clear hF hF2 hs0 hn hc ht0 hback hbx hnk hk hlt hx0
    cases hv : numS r with
    | none =>
      cases hm : numS x with
      | none =>
        rw [hv] at hO
        have HV := Aside0.mk hO
        have HN := Aside0.mk hv
        have HM := Aside0.mk hm
        clear hO hv hm
        go_enter Tryd.func17, Tryd.ntmps17
        go_upto_region 8 with (go_at_call 33; refine (l14Find_any s hsl _).mono ?_; rintro e w2 ⟨rfl, rfl⟩; rw [HF.out])
        go_upto_region 9 with (go_at_call 34; refine (l14Num_any r hrl _).mono ?_; rintro e w3 ⟨rfl, rfl⟩; rw [HN.out]; unfold ansN; simp only [Option.getD_some, Option.getD_none, Option.isSome_some, Option.isSome_none])
        go_upto_region 12 with fail
        go_upto_region 13 with (go_at_call 34; refine (l14Num_any x hxl _).mono ?_; rintro e w3 ⟨rfl, rfl⟩; rw [HM.out]; unfold ansN; simp only [Option.getD_some, Option.getD_none, Option.isSome_some, Option.isSome_none])
        go_wp2
        refine bodyPost_ret (results_ct rfl _ _ w.heap.size 37 #[.int .i64 ((b.toNat : Int) - 97), .int .i64 0, .int .i64 0] (0, 0) _ rfl (by first | exact blk_alloc (blk_new _ _) _ | exact blk_new _ _) Tryd.underlying37 rfl (by kernel_rfl)) rfl ?_
        exact OneOut.no HV.out (below_then (below_alloc (Below.refl _ _) _) (by simp) (below_alloc (Below.refl _ _) _))
      | some m =>
        rw [hv] at hO
        have HV := Aside0.mk hO
        have HN := Aside0.mk hv
        have HM := Aside0.mk hm
        clear hO hv hm
        go_enter Tryd.func17, Tryd.ntmps17
        go_upto_region 8 with (go_at_call 33; refine (l14Find_any s hsl _).mono ?_; rintro e w2 ⟨rfl, rfl⟩; rw [HF.out])
        go_upto_region 9 with (go_at_call 34; refine (l14Num_any r hrl _).mono ?_; rintro e w3 ⟨rfl, rfl⟩; rw [HN.out]; unfold ansN; simp only [Option.getD_some, Option.getD_none, Option.isSome_some, Option.isSome_none])
        go_upto_region 12 with fail
        go_upto_region 13 with (go_at_call 34; refine (l14Num_any x hxl _).mono ?_; rintro e w3 ⟨rfl, rfl⟩; rw [HM.out]; unfold ansN; simp only [Option.getD_some, Option.getD_none, Option.isSome_some, Option.isSome_none])
        go_wp2
        refine bodyPost_ret (results_ct rfl _ _ w.heap.size 37 #[.int .i64 ((b.toNat : Int) - 97), .int .i64 m, .int .i64 0] (0, 0) _ rfl (by first | exact blk_alloc (blk_new _ _) _ | exact blk_new _ _) Tryd.underlying37 rfl (by kernel_rfl)) rfl ?_
        exact OneOut.no HV.out (below_then (below_alloc (Below.refl _ _) _) (by simp) (below_alloc (Below.refl _ _) _))
    | some v =>
      by_cases hv0 : v = 0
      · subst hv0
        have d4 : ((0 : Int) != 0) = false := by decide
        cases hm : numS x with
        | none =>
          rw [hv, hm] at hO
          have HV := Aside0.mk hO
          have HN := Aside0.mk hv
          have HM := Aside0.mk hm
          clear hO hv hm
          go_enter Tryd.func17, Tryd.ntmps17
          go_upto_region 8 with (go_at_call 33; refine (l14Find_any s hsl _).mono ?_; rintro e w2 ⟨rfl, rfl⟩; rw [HF.out])
          go_upto_region 9 with (go_at_call 34; refine (l14Num_any r hrl _).mono ?_; rintro e w3 ⟨rfl, rfl⟩; rw [HN.out]; unfold ansN; simp only [Option.getD_some, Option.getD_none, Option.isSome_some, Option.isSome_none])
          go_upto_region 12 with fail
          go_upto_region 13 with (go_at_call 34; refine (l14Num_any x hxl _).mono ?_; rintro e w3 ⟨rfl, rfl⟩; rw [HM.out]; unfold ansN; simp only [Option.getD_some, Option.getD_none, Option.isSome_some, Option.isSome_none])
          go_wp2
          refine bodyPost_ret (results_ct rfl _ _ w.heap.size 37 #[.int .i64 ((b.toNat : Int) - 97), .int .i64 0, .int .i64 0] (0, 0) _ rfl (by first | exact blk_alloc (blk_new _ _) _ | exact blk_new _ _) Tryd.underlying37 rfl (by kernel_rfl)) rfl ?_
          exact OneOut.no HV.out (below_then (below_alloc (Below.refl _ _) _) (by simp) (below_alloc (Below.refl _ _) _))
        | some m =>
          rw [hv, hm] at hO
          simp only [if_true] at hO
          have HV := Aside0.mk hO
          have HN := Aside0.mk hv
          have HM := Aside0.mk hm
          clear hO hv hm
          go_enter Tryd.func17, Tryd.ntmps17
          go_upto_region 8 with (go_at_call 33; refine (l14Find_any s hsl _).mono ?_; rintro e w2 ⟨rfl, rfl⟩; rw [HF.out])
          go_upto_region 9 with (go_at_call 34; refine (l14Num_any r hrl _).mono ?_; rintro e w3 ⟨rfl, rfl⟩; rw [HN.out]; unfold ansN; simp only [Option.getD_some, Option.getD_none, Option.isSome_some, Option.isSome_none])
          go_upto_region 12 with fail
          go_upto_region 13 with (go_at_call 34; refine (l14Num_any x hxl _).mono ?_; rintro e w3 ⟨rfl, rfl⟩; rw [HM.out]; unfold ansN; simp only [Option.getD_some, Option.getD_none, Option.isSome_some, Option.isSome_none])
          go_wp2
          refine bodyPost_ret (results_ct rfl _ _ w.heap.size 37 #[.int .i64 ((b.toNat : Int) - 97), .int .i64 m, .int .i64 0] (0, 0) _ rfl (by first | exact blk_alloc (blk_new _ _) _ | exact blk_new _ _) Tryd.underlying37 rfl (by kernel_rfl)) rfl ?_
          exact OneOut.no HV.out (below_then (below_alloc (Below.refl _ _) _) (by simp) (below_alloc (Below.refl _ _) _))
      · have d4 : (v != 0) = true := by simp [hv0]
        cases hm : numS x with
        | none =>
          rw [hv, hm] at hO
          clear hv0
          have HV := Aside0.mk hO
          have HN := Aside0.mk hv
          have HM := Aside0.mk hm
          clear hO hv hm
          go_enter Tryd.func17, Tryd.ntmps17
          go_upto_region 8 with (go_at_call 33; refine (l14Find_any s hsl _).mono ?_; rintro e w2 ⟨rfl, rfl⟩; rw [HF.out])
          go_upto_region 9 with (go_at_call 34; refine (l14Num_any r hrl _).mono ?_; rintro e w3 ⟨rfl, rfl⟩; rw [HN.out]; unfold ansN; simp only [Option.getD_some, Option.getD_none, Option.isSome_some, Option.isSome_none])
          go_upto_region 12 with fail
          go_upto_region 13 with (go_at_call 34; refine (l14Num_any x hxl _).mono ?_; rintro e w3 ⟨rfl, rfl⟩; rw [HM.out]; unfold ansN; simp only [Option.getD_some, Option.getD_none, Option.isSome_some, Option.isSome_none])
          go_wp2
          refine bodyPost_ret (results_ct rfl _ _ w.heap.size 37 #[.int .i64 ((b.toNat : Int) - 97), .int .i64 0, .int .i64 v] (0, 0) _ rfl (by first | exact blk_alloc (blk_new _ _) _ | exact blk_new _ _) Tryd.underlying37 rfl (by kernel_rfl)) rfl ?_
          exact OneOut.no HV.out (below_then (below_alloc (Below.refl _ _) _) (by simp) (below_alloc (Below.refl _ _) _))
        | some m =>
          rw [hv, hm] at hO
          simp only [if_neg hv0] at hO
          clear hv0
          have HV := Aside0.mk hO
          have HN := Aside0.mk hv
          have HM := Aside0.mk hm
          clear hO hv hm
          go_enter Tryd.func17, Tryd.ntmps17
          go_upto_region 8 with (go_at_call 33; refine (l14Find_any s hsl _).mono ?_; rintro e w2 ⟨rfl, rfl⟩; rw [HF.out])
          go_upto_region 9 with (go_at_call 34; refine (l14Num_any r hrl _).mono ?_; rintro e w3 ⟨rfl, rfl⟩; rw [HN.out]; unfold ansN; simp only [Option.getD_some, Option.getD_none, Option.isSome_some, Option.isSome_none])
          go_upto_region 12 with fail
          go_upto_region 13 with (go_at_call 34; refine (l14Num_any x hxl _).mono ?_; rintro e w3 ⟨rfl, rfl⟩; rw [HM.out]; unfold ansN; simp only [Option.getD_some, Option.getD_none, Option.isSome_some, Option.isSome_none])
          go_wp2
          refine bodyPost_ret (results_ct rfl _ _ w.heap.size 37 #[.int .i64 ((b.toNat : Int) - 97), .int .i64 m, .int .i64 v] (0, 0) _ rfl (by first | exact blk_alloc (blk_new _ _) _ | exact blk_new _ _) Tryd.underlying37 rfl (by kernel_rfl)) rfl ?_
          exact OneOut.yes HV.out HSY.out (below_then (below_alloc (Below.refl _ _) _) (by simp) (below_alloc (Below.refl _ _) _))
end Go.Proofs.YtdohneeejfeknaaDoor.Tqd
