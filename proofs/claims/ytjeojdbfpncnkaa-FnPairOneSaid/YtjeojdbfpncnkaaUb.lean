
/- FnPairOne: the walk. -/
import Derived.Test.YtjeojdbfpncnkaaB7
import Derived.Test.YtjeojdbfpncnkaaDc
set_option linter.unusedVariables false
set_option linter.unusedSimpArgs false
namespace Go.Proofs.Ytjeojdbfpncnkaa.Ub
open Go.RowKit Go.Proofs.YtjeojdbfpncnkaaW.PrintWords Go.Proofs.Ytjeojdbfpncnkaa.Wd Go.Proofs.Ytjeojdbfpncnkaa.Pu Go.Proofs.Ytjeojdbfpncnkaa.Pv Go.Proofs.Ytjeojdbfpncnkaa.Ca Go.Proofs.Ytjeojdbfpncnkaa.Cb Go.Proofs.Ytjeojdbfpncnkaa.Cc Go.Proofs.Ytjeojdbfpncnkaa.Cp Go.Proofs.Ytjeojdbfpncnkaa.Cd Go.Proofs.Ytjeojdbfpncnkaa.Ci Go.Proofs.Ytjeojdbfpncnkaa.Ce Go.Proofs.Ytjeojdbfpncnkaa.Cf Go.Proofs.Ytjeojdbfpncnkaa.Cg Go.Proofs.Ytjeojdbfpncnkaa.Sc Go.Proofs.Ytjeojdbfpncnkaa.Se Go.Proofs.Ytjeojdbfpncnkaa.Sh Go.Proofs.Ytjeojdbfpncnkaa.Si Go.Proofs.Ytjeojdbfpncnkaa.Sp Go.Proofs.Ytjeojdbfpncnkaa.Ia Go.Proofs.Ytjeojdbfpncnkaa.Ib Go.Proofs.Ytjeojdbfpncnkaa.Ic Go.Proofs.Ytjeojdbfpncnkaa.Id Go.Proofs.Ytjeojdbfpncnkaa.Ie Go.Proofs.Ytjeojdbfpncnkaa.If Go.Proofs.Ytjeojdbfpncnkaa.Ig Go.Proofs.Ytjeojdbfpncnkaa.Ih Go.Proofs.Ytjeojdbfpncnkaa.Ij Go.Proofs.Ytjeojdbfpncnkaa.Ik Go.Proofs.Ytjeojdbfpncnkaa.Ra Go.Proofs.Ytjeojdbfpncnkaa.Rb Go.Proofs.Ytjeojdbfpncnkaa.Rc Go.Proofs.Ytjeojdbfpncnkaa.Rd Go.Proofs.Ytjeojdbfpncnkaa.Re Go.Proofs.Ytjeojdbfpncnkaa.Sj Go.Proofs.Ytjeojdbfpncnkaa.Ya Go.Proofs.Ytjeojdbfpncnkaa.Yd Go.Proofs.Ytjeojdbfpncnkaa.Yf Go.Proofs.Ytjeojdbfpncnkaa.Yg Go.Proofs.Ytjeojdbfpncnkaa.Ih Go.Proofs.Ytjeojdbfpncnkaa.Yh Go.Proofs.Ytjeojdbfpncnkaa.Yi Go.Proofs.Ytjeojdbfpncnkaa.Sg Go.Proofs.Ytjeojdbfpncnkaa.Sf Go.Proofs.Ytjeojdbfpncnkaa.Yj Go.Proofs.Ytjeojdbfpncnkaa.Ig Go.Proofs.Ytjeojdbfpncnkaa.Yk Go.Proofs.Ytjeojdbfpncnkaa.Ik Go.Proofs.Ytjeojdbfpncnkaa.Yl Go.Proofs.Ytjeojdbfpncnkaa.Ij Go.Proofs.Ytjeojdbfpncnkaa.Ym Go.Proofs.Ytjeojdbfpncnkaa.Il Go.Proofs.Ytjeojdbfpncnkaa.Yn Go.Proofs.Ytjeojdbfpncnkaa.Yo Go.Proofs.Ytjeojdbfpncnkaa.In Go.Proofs.Ytjeojdbfpncnkaa.Yq Go.Proofs.Ytjeojdbfpncnkaa.Pw Go.Proofs.Ytjeojdbfpncnkaa.Px Go.Proofs.Ytjeojdbfpncnkaa.La Go.Proofs.Ytjeojdbfpncnkaa.Db Go.Proofs.Ytjeojdbfpncnkaa.Dc

theorem one_L {w : World} {B : Nat} {t : TypeId} {x : Occ} {A : Option Addr} {c : Nat} (h : w.heap[B]? = some (.cells #[.int .i64 x.f0, .int .i64 x.f1, .slice A x.f2.length c] t (0, 0))) (hx : IsO w x A c) : IsL w [x] (some ⟨B, 0, none⟩) 1 := by
  refine ⟨Nat.le_refl _, rfl, by simp, fun _ => ⟨_, rfl, fun j q hj => ?_⟩⟩
  obtain ⟨rfl, rfl⟩ : j = 0 ∧ q = x := by
    rcases j with _ | j
    · exact ⟨rfl, by simpa using hj.symm⟩
    · simp at hj
  refine ⟨[.int .i64 q.f0, .int .i64 q.f1, .slice A q.f2.length c], rfl, kO_mk w q hx.1 hx.2, fun i u hi => ?_⟩
  rw [add_plain, Nat.zero_mul, Nat.zero_add, blk_cell h i]
  simpa using hi
theorem areOk_one {x : Occ} (h : IsOk x) : AreOk [x] := ⟨List.pairwise_singleton _ _, fun y hy => by rw [List.mem_singleton.1 hy]; exact h⟩
theorem okOs_one {x : Occ} (h : IsOk x) : okOs [x] = true := okOs_iff.2 ⟨areOk_one h, by simp⟩
theorem modes {m : Int} (h : 0 ≤ m ∧ m ≤ 4) : m = 0 ∨ m = 1 ∨ m = 2 ∨ m = 3 ∨ m = 4 := by omega
theorem seq_one {m : Int} (hm : 0 ≤ m ∧ m ≤ 4) {x y : Occ} (hx : IsOk x) (hy : IsOk y) : ofI seq3 m [x] [y] = (if decide (x.f1 < y.f0) then [join y x] else [], true) := by
  have h0 : inb m 0 4 = true := by unfold inb; simp; omega
  rw [ofI_seq, h0, okOs_one hx, okOs_one hy]
  have e : sq m [x] [y] = if decide (x.f1 < y.f0) then [join y x] else [] := by
    by_cases h : x.f1 < y.f0
    · rcases modes hm with rfl | rfl | rfl | rfl | rfl <;> simp [sq, seqStep, before, combine, without, putAll, put, h]
    · rcases modes hm with rfl | rfl | rfl | rfl | rfl <;> simp [sq, seqStep, before, combine, without, putAll, put, h]
  simp only [Bool.and_self, if_true]
  rw [e]
  by_cases h : x.f1 < y.f0 <;> simp [told, h]
theorem and_one {m : Int} (hm : 0 ≤ m ∧ m ≤ 4) {x y : Occ} (hx : IsOk x) (hy : IsOk y) : ofI and3 m [x] [y] = ([join x y], true) := by
  have h0 : inb m 0 4 = true := by unfold inb; simp; omega
  have hf : fits m [] [] [x] [y] = true := by unfold fits; rw [h0, okOs_one hx, okOs_one hy]; rfl
  have hc := join_comm hx hy
  unfold ofI
  rw [hf, if_pos rfl]
  have hab : ∀ o ∈ [x] ++ [y], IsOk o := by intro o ho; simp at ho; rcases ho with rfl | rfl <;> assumption
  have hmem : ∀ z, z ∈ tms ([x] ++ [y]) ↔ z = x.f1 ∨ z = y.f1 := fun z => by
    rw [mem_tms hab]
    simp
    exact ⟨fun h => h.elim (fun h => .inl h.symm) (fun h => .inr h.symm), fun h => h.elim (fun h => .inl h.symm) (fun h => .inr h.symm)⟩
  have e : (both (and3 m) [x] [y] (tms ([x] ++ [y]))).c = [join x y] := by
    rcases Int.lt_trichotomy x.f1 y.f1 with h | h | h
    · have ht : tms ([x] ++ [y]) = [x.f1, y.f1] := asc_ext (asc_tms _) (by simp [Asc, h]) (fun z => by rw [hmem]; simp)
      have n1 : ¬ y.f1 = x.f1 := by omega
      have n2 : ¬ x.f1 = y.f1 := by omega
      rw [ht]
      rcases modes hm with rfl | rfl | rfl | rfl | rfl <;> simp [both, bothStep, and3, andI, andStep, combine, Pv.flip, stow, put, putAll, without, atT, n1, n2, hc]
    · have ht : tms ([x] ++ [y]) = [y.f1] := asc_ext (asc_tms _) (by simp [Asc]) (fun z => by rw [hmem, h]; simp)
      rw [ht]
      rcases modes hm with rfl | rfl | rfl | rfl | rfl <;> simp [both, bothStep, and3, andI, andStep, combine, Pv.flip, stow, put, putAll, without, atT, h, hc]
    · have ht : tms ([x] ++ [y]) = [y.f1, x.f1] := asc_ext (asc_tms _) (by simp [Asc, h]) (fun z => by rw [hmem]; simp; exact Or.comm)
      have n1 : ¬ y.f1 = x.f1 := by omega
      have n2 : ¬ x.f1 = y.f1 := by omega
      rw [ht]
      rcases modes hm with rfl | rfl | rfl | rfl | rfl <;> simp [both, bothStep, and3, andI, andStep, combine, Pv.flip, stow, put, putAll, without, atT, n1, n2, hc]
  rw [e]
  rfl
theorem or_one {x y : Occ} (hx : IsOk x) (hy : IsOk y) : ∃ l, orI [x] [y] = (l, true) ∧ 1 ≤ l.length ∧ l.length ≤ 2 := by
  unfold orI
  rw [okOs_one hx, okOs_one hy, Bool.and_self, if_pos rfl]
  have h1 := Px.len_put [x] y
  have h2 := Pv.len_put1 [x] y
  have e : putAll [x] [y] = put [x] y := rfl
  rw [e]
  simp at h1 h2
  exact ⟨_, told_le (by omega), h1, h2⟩

set_option maxHeartbeats 60000000 in
set_option maxRecDepth 100000 in
theorem walk (A : Option Addr) (c : Nat) (bs : List Int) (w : World) (hC : (Kd.int .u8).C w A bs.length bs) (hc : bs.length ≤ c) (hb : ∀ b ∈ bs, 0 ≤ b ∧ b ≤ 255) :
    Calls Try.prog 5 #[.slice A bs.length c] w fun e w' => e = .returned (.bool true) ∧ Below w.heap.size w w' := by
  by_cases hbig : bs.length > 1048576
  · have d1 : decide ((bs.length : Int) > 1048576) = true := decide_eq_true (by omega)
    go_enter Try.func5, Try.ntmps5
    go_wp2
    go_ret
    exact ⟨rfl, Below.refl _ _⟩
  have d1 : decide ((bs.length : Int) > 1048576) = false := decide_eq_false (by omega)
  go_enter Try.func5, Try.ntmps5
  go_upto_region 6 with (go_at_call 22; refine (drawLess_any A c bs _ hC hc hb).mono ?_; rintro e w0 ⟨x, y, Xa, Xb, ca, cb, rfl, hkx, hky, hix, hiy, hbel⟩; have HKX := Aside0.mk hkx; have HKY := Aside0.mk hky; have HIX0 := Aside0.mk hix; have HIY0 := Aside0.mk hiy; have HBe := Aside0.mk hbel; clear hkx hky hix hiy hbel)
  have hbA := below_alloc (below_alloc (below_alloc (below_alloc (Below.refl w0.heap.size w0) (.cells #[.int .i64 x.f0, .int .i64 x.f1, .slice Xa x.f2.length ca] 25)) (.cells #[.int .i64 y.f0, .int .i64 y.f1, .slice Xb y.f2.length cb] 25)) (.cells #[.int .i64 x.f0, .int .i64 x.f1, .slice Xa x.f2.length ca] 25)) (.cells #[.int .i64 y.f0, .int .i64 y.f1, .slice Xb y.f2.length cb] 25)
  have q1 := blk_alloc (blk_alloc (blk_alloc (blk_new w0 (.cells #[.int .i64 x.f0, .int .i64 x.f1, .slice Xa x.f2.length ca] 25)) (.cells #[.int .i64 y.f0, .int .i64 y.f1, .slice Xb y.f2.length cb] 25)) (.cells #[.int .i64 x.f0, .int .i64 x.f1, .slice Xa x.f2.length ca] 25)) (.cells #[.int .i64 y.f0, .int .i64 y.f1, .slice Xb y.f2.length cb] 25)
  have q2 : ((((w0.alloc (.cells #[.int .i64 x.f0, .int .i64 x.f1, .slice Xa x.f2.length ca] 25)).alloc (.cells #[.int .i64 y.f0, .int .i64 y.f1, .slice Xb y.f2.length cb] 25)).alloc (.cells #[.int .i64 x.f0, .int .i64 x.f1, .slice Xa x.f2.length ca] 25)).alloc (.cells #[.int .i64 y.f0, .int .i64 y.f1, .slice Xb y.f2.length cb] 25)).heap[w0.heap.size + 1]? = some (.cells #[.int .i64 y.f0, .int .i64 y.f1, .slice Xb y.f2.length cb] 25) := blk_alloc (blk_alloc (by have := blk_new (w0.alloc (.cells #[.int .i64 x.f0, .int .i64 x.f1, .slice Xa x.f2.length ca] 25)) (.cells #[.int .i64 y.f0, .int .i64 y.f1, .slice Xb y.f2.length cb] 25); simpa using this) (.cells #[.int .i64 x.f0, .int .i64 x.f1, .slice Xa x.f2.length ca] 25)) (.cells #[.int .i64 y.f0, .int .i64 y.f1, .slice Xb y.f2.length cb] 25)
  have q3 : ((((w0.alloc (.cells #[.int .i64 x.f0, .int .i64 x.f1, .slice Xa x.f2.length ca] 25)).alloc (.cells #[.int .i64 y.f0, .int .i64 y.f1, .slice Xb y.f2.length cb] 25)).alloc (.cells #[.int .i64 x.f0, .int .i64 x.f1, .slice Xa x.f2.length ca] 25)).alloc (.cells #[.int .i64 y.f0, .int .i64 y.f1, .slice Xb y.f2.length cb] 25)).heap[w0.heap.size + 1 + 1]? = some (.cells #[.int .i64 x.f0, .int .i64 x.f1, .slice Xa x.f2.length ca] 25) := blk_alloc (by have := blk_new ((w0.alloc (.cells #[.int .i64 x.f0, .int .i64 x.f1, .slice Xa x.f2.length ca] 25)).alloc (.cells #[.int .i64 y.f0, .int .i64 y.f1, .slice Xb y.f2.length cb] 25)) (.cells #[.int .i64 x.f0, .int .i64 x.f1, .slice Xa x.f2.length ca] 25); simpa using this) (.cells #[.int .i64 y.f0, .int .i64 y.f1, .slice Xb y.f2.length cb] 25)
  have q4 : ((((w0.alloc (.cells #[.int .i64 x.f0, .int .i64 x.f1, .slice Xa x.f2.length ca] 25)).alloc (.cells #[.int .i64 y.f0, .int .i64 y.f1, .slice Xb y.f2.length cb] 25)).alloc (.cells #[.int .i64 x.f0, .int .i64 x.f1, .slice Xa x.f2.length ca] 25)).alloc (.cells #[.int .i64 y.f0, .int .i64 y.f1, .slice Xb y.f2.length cb] 25)).heap[w0.heap.size + 1 + 1 + 1]? = some (.cells #[.int .i64 y.f0, .int .i64 y.f1, .slice Xb y.f2.length cb] 25) := by have := blk_new (((w0.alloc (.cells #[.int .i64 x.f0, .int .i64 x.f1, .slice Xa x.f2.length ca] 25)).alloc (.cells #[.int .i64 y.f0, .int .i64 y.f1, .slice Xb y.f2.length cb] 25)).alloc (.cells #[.int .i64 x.f0, .int .i64 x.f1, .slice Xa x.f2.length ca] 25)) (.cells #[.int .i64 y.f0, .int .i64 y.f1, .slice Xb y.f2.length cb] 25); simpa using this
  have HIX := Aside0.mk (HIX0.out.below hbA)
  have HIY := Aside0.mk (HIY0.out.below hbA)
  have HBe1 := Aside0.mk (below_then HBe.out HBe.out.size hbA)
  have HAW := Aside0.mk (one_L q3 HIX.out)
  have HBW := Aside0.mk (one_L q4 HIY.out)
  have HXW := Aside0.mk q1
  have HYW := Aside0.mk q2
  clear hbA q1 q2 q3 q4 HIX0 HIY0 HBe
  generalize (((w0.alloc (.cells #[.int .i64 x.f0, .int .i64 x.f1, .slice Xa x.f2.length ca] 25)).alloc (.cells #[.int .i64 y.f0, .int .i64 y.f1, .slice Xb y.f2.length cb] 25)).alloc (.cells #[.int .i64 x.f0, .int .i64 x.f1, .slice Xa x.f2.length ca] 25)).alloc (.cells #[.int .i64 y.f0, .int .i64 y.f1, .slice Xb y.f2.length cb] 25) = W at HIX HIY HBe1 HAW HBW HXW HYW ⊢
  generalize w0.heap.size + 1 + 1 + 1 = NB at *
  generalize w0.heap.size + 1 + 1 = NA at *
  generalize w0.heap.size + 1 = NY at *
  generalize w0.heap.size = NX at *
  have HJ := Aside0.mk (joinO_ok HKX.out HKY.out)
  go_wp2
  go_loopw [7] (fun vi wr => ∃ (k : Nat), k ≤ 5 ∧ vi = .int .i64 k ∧ Aside0 (Below w.heap.size w wr) ∧ Aside0 (Below W.heap.size W wr)) (fun vi _ => 5 - (intOf vi).toNat)
  case atStart => exact ⟨0, Nat.zero_le _, rfl, HBe1, ⟨Below.refl _ _⟩⟩
  case round =>
    obtain ⟨k, hk, rfl, HBelr, HBW0⟩ := hrel
    have HAr := Aside0.mk (HAW.out.below HBW0.out)
    have HBr := Aside0.mk (HBW.out.below HBW0.out)
    by_cases hlk : k < 5
    · have g1 : decide ((k : Int) < 5) = true := decide_eq_true (by omega)
      have hm : 0 ≤ (k : Int) ∧ (k : Int) ≤ 4 := by omega
      have HE := Aside0.mk (and_one hm HKX.out HKY.out)
      have HS0 := Aside0.mk (seq_one hm HKX.out HKY.out)
      have HX0 := Aside0.mk (blk_below HXW.out HBW0.out)
      have HY0 := Aside0.mk (blk_below HYW.out HBW0.out)
      obtain ⟨wz, rfl⟩ : ∃ wz : World, wz = wr := ⟨_, rfl⟩
      have HA0 := HAr
      have HB0 := HBr
      have HBel0 : Aside0 (Below wz.heap.size wz wz) := ⟨Below.refl _ _⟩
      have HW0 : Aside0 (∀ w', Below wz.heap.size wz w' → Below W.heap.size W w') := ⟨fun w' h => below_then HBW0.out HBW0.out.size h⟩
      clear hm
      cases hcan : decide (x.f1 < y.f0) with
      | false =>
        have HS := Aside0.mk (HS0.out.trans (by rw [hcan]; rfl : _ = (([] : List Occ), true)))
        clear HS0
        go_upto_region 10 with (go_at_call 23; refine (iAnd (k : Int) (some ⟨NA, 0, none⟩) (some ⟨NB, 0, none⟩) 1 1 [x] [y] ([join x y], true) _ HE.out HA0.out HB0.out).mono ?_; rintro e w1 ⟨R1, r1, rfl, hl1, hb1⟩; have HBel1 := Aside0.mk (below_then HBel0.out HBel0.out.size hb1); have HA1 := Aside0.mk (HA0.out.below hb1); have HB1 := Aside0.mk (HB0.out.below hb1); have HX1 := Aside0.mk (blk_below HX0.out hb1); have HY1 := Aside0.mk (blk_below HY0.out hb1); have L1 := Aside0.mk hl1; clear hl1 hb1)
        go_upto_region 11 with (go_at_call 24; refine (sAnd (k : Int) (some ⟨NA, 0, none⟩) (some ⟨NB, 0, none⟩) 1 1 [x] [y] ([join x y], true) _ HE.out HA1.out HB1.out).mono ?_; rintro e w2 ⟨R2, r2, rfl, hl2, hb2⟩; have HBel2 := Aside0.mk (below_then HBel1.out HBel1.out.size hb2); have HA2 := Aside0.mk (HA1.out.below hb2); have HB2 := Aside0.mk (HB1.out.below hb2); have HX2 := Aside0.mk (blk_below HX1.out hb2); have HY2 := Aside0.mk (blk_below HY1.out hb2); have L2 := Aside0.mk (L1.out.below hb2); have M2 := Aside0.mk hl2; clear hl2 hb2)
        go_upto_region 13 with (first | (go_at_call 20; have h4 := HBel4.out; clear h4; refine (occsSame_any _ _ _ _ _ _ _ (L4.out.below HBJ.out).rd HJL.out.rd).mono ?_; rintro e w5 ⟨rfl, hb5⟩; rw [decide_eq_true rfl]; have hb5 := below_then HBJ.out HBJ.out.size hb5; have HBel5 := Aside0.mk (below_then HBel4.out HBel4.out.size hb5); have HA5 := Aside0.mk (HA4.out.below hb5); have HB5 := Aside0.mk (HB4.out.below hb5); have HX5 := Aside0.mk (blk_below HX4.out hb5); have HY5 := Aside0.mk (blk_below HY4.out hb5); clear hb5) | (go_at_call 14; have h3 := HBel3.out; clear h3; refine (iJoin x y (join x y) _ _ _ _ _ HJ.out (isOk_big HKX.out) (isOk_big HKY.out) (HIX.out.below (HW0.out _ HBel3.out)) (HIY.out.below (HW0.out _ HBel3.out))).mono ?_; rintro e w4 ⟨J, cj, rfl, hj, hb4⟩; have HBel4 := Aside0.mk (below_then HBel3.out HBel3.out.size hb4); have HA4 := Aside0.mk (HA3.out.below hb4); have HB4 := Aside0.mk (HB3.out.below hb4); have HX4 := Aside0.mk (blk_below HX3.out hb4); have HY4 := Aside0.mk (blk_below HY3.out hb4); have L4 := Aside0.mk (L3.out.below hb4); have hbJ := below_alloc (Below.refl w4.heap.size w4) (.cells #[.int .i64 (join x y).f0, .int .i64 (join x y).f1, .slice J (join x y).f2.length cj] 25); have HJL := Aside0.mk (one_L (blk_new w4 (.cells #[.int .i64 (join x y).f0, .int .i64 (join x y).f1, .slice J (join x y).f2.length cj] 25)) (hj.below hbJ)); have HBJ := Aside0.mk hbJ; clear hj hb4 hbJ x0 x1 x2 y0 y1 y2) | (go_at_call 20; refine (occsSame_any _ _ _ _ _ _ _ L2.out.rd M2.out.rd).mono ?_; rintro e w3 ⟨rfl, hb3⟩; rw [decide_eq_true rfl]; have HBel3 := Aside0.mk (below_then HBel2.out HBel2.out.size hb3); have HA3 := Aside0.mk (HA2.out.below hb3); have HB3 := Aside0.mk (HB2.out.below hb3); have HX3 := Aside0.mk (blk_below HX2.out hb3); have HY3 := Aside0.mk (blk_below HY2.out hb3); have L3 := Aside0.mk (L2.out.below hb3); have x0 := (blk_cell HX3.out 0).trans rfl; have x1 := (blk_cell HX3.out 1).trans rfl; have x2 := (blk_cell HX3.out 2).trans rfl; have y0 := (blk_cell HY3.out 0).trans rfl; have y1 := (blk_cell HY3.out 1).trans rfl; have y2 := (blk_cell HY3.out 2).trans rfl; clear hb3))
        go_wp2_with (go_at_call 25; refine (iSeq (k : Int) (some ⟨NA, 0, none⟩) (some ⟨NB, 0, none⟩) 1 1 [x] [y] ([], true) _ HS.out HA5.out HB5.out).mono ?_; rintro e w6 ⟨R6, r6, rfl, hl6, hb6⟩; have HBel6 := Aside0.mk (below_then HBel5.out HBel5.out.size hb6); have HA6 := Aside0.mk (HA5.out.below hb6); have HB6 := Aside0.mk (HB5.out.below hb6); have HX6 := Aside0.mk (blk_below HX5.out hb6); have HY6 := Aside0.mk (blk_below HY5.out hb6); have Q6 := Aside0.mk hl6; clear hl6 hb6; have x0 := (blk_cell HX6.out 0).trans rfl; have x1 := (blk_cell HX6.out 1).trans rfl; have x2 := (blk_cell HX6.out 2).trans rfl; have y0 := (blk_cell HY6.out 0).trans rfl; have y1 := (blk_cell HY6.out 1).trans rfl; have y2 := (blk_cell HY6.out 2).trans rfl)
        go_roundw
        case rel => exact ⟨k + 1, by omega, by go_num, ⟨below_then HBelr.out HBelr.out.size HBel6.out⟩, ⟨HW0.out _ HBel6.out⟩⟩
        case measure => simp [intOf]; omega
      | true =>
        have HS := Aside0.mk (HS0.out.trans (by rw [hcan]; rfl : _ = ([join y x], true)))
        clear HS0
        go_upto_region 10 with (go_at_call 23; refine (iAnd (k : Int) (some ⟨NA, 0, none⟩) (some ⟨NB, 0, none⟩) 1 1 [x] [y] ([join x y], true) _ HE.out HA0.out HB0.out).mono ?_; rintro e w1 ⟨R1, r1, rfl, hl1, hb1⟩; have HBel1 := Aside0.mk (below_then HBel0.out HBel0.out.size hb1); have HA1 := Aside0.mk (HA0.out.below hb1); have HB1 := Aside0.mk (HB0.out.below hb1); have HX1 := Aside0.mk (blk_below HX0.out hb1); have HY1 := Aside0.mk (blk_below HY0.out hb1); have L1 := Aside0.mk hl1; clear hl1 hb1)
        go_upto_region 11 with (go_at_call 24; refine (sAnd (k : Int) (some ⟨NA, 0, none⟩) (some ⟨NB, 0, none⟩) 1 1 [x] [y] ([join x y], true) _ HE.out HA1.out HB1.out).mono ?_; rintro e w2 ⟨R2, r2, rfl, hl2, hb2⟩; have HBel2 := Aside0.mk (below_then HBel1.out HBel1.out.size hb2); have HA2 := Aside0.mk (HA1.out.below hb2); have HB2 := Aside0.mk (HB1.out.below hb2); have HX2 := Aside0.mk (blk_below HX1.out hb2); have HY2 := Aside0.mk (blk_below HY1.out hb2); have L2 := Aside0.mk (L1.out.below hb2); have M2 := Aside0.mk hl2; clear hl2 hb2)
        go_upto_region 13 with (first | (go_at_call 20; have h4 := HBel4.out; clear h4; refine (occsSame_any _ _ _ _ _ _ _ (L4.out.below HBJ.out).rd HJL.out.rd).mono ?_; rintro e w5 ⟨rfl, hb5⟩; rw [decide_eq_true rfl]; have hb5 := below_then HBJ.out HBJ.out.size hb5; have HBel5 := Aside0.mk (below_then HBel4.out HBel4.out.size hb5); have HA5 := Aside0.mk (HA4.out.below hb5); have HB5 := Aside0.mk (HB4.out.below hb5); have HX5 := Aside0.mk (blk_below HX4.out hb5); have HY5 := Aside0.mk (blk_below HY4.out hb5); clear hb5) | (go_at_call 14; have h3 := HBel3.out; clear h3; refine (iJoin x y (join x y) _ _ _ _ _ HJ.out (isOk_big HKX.out) (isOk_big HKY.out) (HIX.out.below (HW0.out _ HBel3.out)) (HIY.out.below (HW0.out _ HBel3.out))).mono ?_; rintro e w4 ⟨J, cj, rfl, hj, hb4⟩; have HBel4 := Aside0.mk (below_then HBel3.out HBel3.out.size hb4); have HA4 := Aside0.mk (HA3.out.below hb4); have HB4 := Aside0.mk (HB3.out.below hb4); have HX4 := Aside0.mk (blk_below HX3.out hb4); have HY4 := Aside0.mk (blk_below HY3.out hb4); have L4 := Aside0.mk (L3.out.below hb4); have hbJ := below_alloc (Below.refl w4.heap.size w4) (.cells #[.int .i64 (join x y).f0, .int .i64 (join x y).f1, .slice J (join x y).f2.length cj] 25); have HJL := Aside0.mk (one_L (blk_new w4 (.cells #[.int .i64 (join x y).f0, .int .i64 (join x y).f1, .slice J (join x y).f2.length cj] 25)) (hj.below hbJ)); have HBJ := Aside0.mk hbJ; clear hj hb4 hbJ x0 x1 x2 y0 y1 y2) | (go_at_call 20; refine (occsSame_any _ _ _ _ _ _ _ L2.out.rd M2.out.rd).mono ?_; rintro e w3 ⟨rfl, hb3⟩; rw [decide_eq_true rfl]; have HBel3 := Aside0.mk (below_then HBel2.out HBel2.out.size hb3); have HA3 := Aside0.mk (HA2.out.below hb3); have HB3 := Aside0.mk (HB2.out.below hb3); have HX3 := Aside0.mk (blk_below HX2.out hb3); have HY3 := Aside0.mk (blk_below HY2.out hb3); have L3 := Aside0.mk (L2.out.below hb3); have x0 := (blk_cell HX3.out 0).trans rfl; have x1 := (blk_cell HX3.out 1).trans rfl; have x2 := (blk_cell HX3.out 2).trans rfl; have y0 := (blk_cell HY3.out 0).trans rfl; have y1 := (blk_cell HY3.out 1).trans rfl; have y2 := (blk_cell HY3.out 2).trans rfl; clear hb3))
        go_wp2_with (go_at_call 25; refine (iSeq (k : Int) (some ⟨NA, 0, none⟩) (some ⟨NB, 0, none⟩) 1 1 [x] [y] ([join y x], true) _ HS.out HA5.out HB5.out).mono ?_; rintro e w6 ⟨R6, r6, rfl, hl6, hb6⟩; have HBel6 := Aside0.mk (below_then HBel5.out HBel5.out.size hb6); have HA6 := Aside0.mk (HA5.out.below hb6); have HB6 := Aside0.mk (HB5.out.below hb6); have HX6 := Aside0.mk (blk_below HX5.out hb6); have HY6 := Aside0.mk (blk_below HY5.out hb6); have Q6 := Aside0.mk hl6; clear hl6 hb6; have x0 := (blk_cell HX6.out 0).trans rfl; have x1 := (blk_cell HX6.out 1).trans rfl; have x2 := (blk_cell HX6.out 2).trans rfl; have y0 := (blk_cell HY6.out 0).trans rfl; have y1 := (blk_cell HY6.out 1).trans rfl; have y2 := (blk_cell HY6.out 2).trans rfl)
        go_roundw
        case rel => exact ⟨k + 1, by omega, by go_num, ⟨below_then HBelr.out HBelr.out.size HBel6.out⟩, ⟨HW0.out _ HBel6.out⟩⟩
        case measure => simp [intOf]; omega
    · have hke : k = 5 := by omega
      subst hke
      have g1 : decide (((5 : Nat) : Int) < 5) = false := decide_eq_false (by omega)
      obtain ⟨lo, ho, h1, h2⟩ := or_one HKX.out HKY.out
      have HO := Aside0.mk ho
      clear ho
      have e1 : decide ((lo.length : Int) ≥ 1) = true := decide_eq_true (by omega)
      have e2 : decide ((lo.length : Int) ≤ 2) = true := decide_eq_true (by omega)
      go_wp2_with (go_at_call 26; refine (iOr (some ⟨NA, 0, none⟩) (some ⟨NB, 0, none⟩) 1 1 [x] [y] (lo, true) _ HO.out HAr.out HBr.out).mono ?_; rintro e w7 ⟨R7, r7, rfl, hl7, hb7⟩; have HBel7 := Aside0.mk (below_then HBelr.out HBelr.out.size hb7); have Q7 := Aside0.mk hl7; clear hl7 hb7)
      go_ret
      exact ⟨rfl, HBel7.out⟩
end Go.Proofs.Ytjeojdbfpncnkaa.Ub
