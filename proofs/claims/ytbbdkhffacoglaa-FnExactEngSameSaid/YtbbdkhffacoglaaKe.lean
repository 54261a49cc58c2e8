
/- Are two lists one, member by member: slices.EqualFunc at each struct type. Printed by genTy.py. -/
import Derived.Test.YtbbdkhffacoglaaKa
import Derived.Test.YtbbdkhffacoglaaJd
set_option linter.unusedVariables false
set_option linter.unusedSimpArgs false
namespace Go.Proofs.Ytbbdkhffacoglaa.Ke
open Go.RowKit Go.Proofs.YtbbdkhffacoglaaW.PrintWords Go.Proofs.Ytbbdkhffacoglaa.Ja Go.Proofs.Ytbbdkhffacoglaa.Jb Go.Proofs.Ytbbdkhffacoglaa.Jc Go.Proofs.Ytbbdkhffacoglaa.Jd Go.Proofs.Ytbbdkhffacoglaa.Ka
def eqQ {α : Type} (q : α → α → Bool) : List α → List α → Bool
  | [], [] => true
  | x :: xs, y :: ys => q x y && eqQ q xs ys
  | _, _ => false
theorem eqQ_len {α : Type} (q : α → α → Bool) : ∀ (a b : List α), ¬ a.length = b.length → eqQ q a b = false
  | [], [], h => absurd rfl h
  | [], _ :: _, _ => rfl
  | _ :: _, [], _ => rfl
  | x :: xs, y :: ys, h => by rw [eqQ, eqQ_len q xs ys (fun e => h (by simp [e])), Bool.and_false]
theorem eqQ_snoc {α : Type} (q : α → α → Bool) (z : α) : ∀ (a b : List α) (k : Nat), k < a.length → a.length = b.length → eqQ q (a.take (k + 1)) (b.take (k + 1)) = (eqQ q (a.take k) (b.take k) && q (a.getD k z) (b.getD k z))
  | [], _, k, h, _ => by simp at h
  | x :: xs, [], k, h, e => by simp at e
  | x :: xs, y :: ys, 0, h, e => by simp [eqQ]
  | x :: xs, y :: ys, k + 1, h, e => by
    have ih := eqQ_snoc q z xs ys k (by simpa using h) (by simpa using e)
    rw [List.take_succ_cons, List.take_succ_cons, List.take_succ_cons, List.take_succ_cons, eqQ, eqQ, ih, List.getD_cons_succ, List.getD_cons_succ, Bool.and_assoc]
theorem eqQ_no {α : Type} (q : α → α → Bool) (z : α) : ∀ (a b : List α) (k : Nat), k < a.length → a.length = b.length → q (a.getD k z) (b.getD k z) = false → eqQ q a b = false
  | [], _, k, h, _, _ => by simp at h
  | x :: xs, [], k, h, e, _ => by simp at e
  | x :: xs, y :: ys, 0, h, e, hq => by rw [eqQ]; have h2 : q x y = false := hq; rw [h2, Bool.false_and]
  | x :: xs, y :: ys, k + 1, h, e, hq => by rw [eqQ, eqQ_no q z xs ys k (by simpa using h) (by simpa using e) (by simpa using hq), Bool.and_false]
theorem atEx {t : Nat} {w : World} {A : Option Addr} {c : Nat} {xs : List Ex} (h : IsS (kE t) w xs A c) (k : Nat) (hk : k < xs.length) :
    ∃ ad A3 c3, A = some ad ∧ w.cell? (ad.add (k * 4)) = some (.int .i64 (xs.getD k zE).f0) ∧ w.cell? ⟨(ad.add (k * 4)).block, (ad.add (k * 4)).off + 1, none⟩ = some (.int .i64 (xs.getD k zE).f1) ∧ w.cell? ⟨(ad.add (k * 4)).block, (ad.add (k * 4)).off + 2, none⟩ = some (.int .i64 (xs.getD k zE).f2) ∧
      w.cell? ⟨(ad.add (k * 4)).block, (ad.add (k * 4)).off + 3, none⟩ = some (.slice A3 (xs.getD k zE).f3.length c3) ∧ IsS (kE t) w (xs.getD k zE).f3 A3 c3 := atE h k hk
abbrev zEx : Ex := zE
abbrev QCallEx (q : Ex → Ex → Bool) (x y : Ex) : Prop := ∀ A3 c3 B3 d3 w, IsS (kE 83) w x.f3 A3 c3 → IsS (kE 83) w y.f3 B3 d3 → Calls Try.prog 48 #[.agg #[.int .i64 x.f0, .int .i64 x.f1, .int .i64 x.f2, .slice A3 x.f3.length c3], .agg #[.int .i64 y.f0, .int .i64 y.f1, .int .i64 y.f2, .slice B3 y.f3.length d3]] w fun e w' => e = .returned (.bool (q x y)) ∧ Below w.heap.size w w'
set_option maxHeartbeats 4000000 in
set_option maxRecDepth 100000 in
theorem equalFEx_of (q : Ex → Ex → Bool) (A B : Option Addr) (c d : Nat) (a b : List Ex) (w : World) (ha : IsS (kE 83) w a A c) (hb : IsS (kE 83) w b B d) (hq : ∀ x, x ∈ a → ∀ y, y ∈ b → QCallEx q x y) :
    Calls Try.prog 72 #[.slice A a.length c, .slice B b.length d, .func (.func 48) #[] #[]] w fun e w' => e = .returned (.bool (eqQ q a b)) ∧ Below w.heap.size w w' := by
  have hna := ha.len
  have hnb := hb.len
  have HA := Aside0.mk ha
  have HBb := Aside0.mk hb
  have HQ0 := Aside0.mk hq
  clear ha hb hq
  by_cases hl : a.length = b.length
  · have n0 : ((a.length : Int) != (b.length : Int)) = false := by simp [hl]
    go_enter Try.func72, Try.ntmps72
    have HLN := Aside0.mk hl
    clear hl
    go_wp2
    go_loopw [17] (fun vi wr => ∃ (k : Nat), k ≤ a.length ∧ vi = .int .i64 k ∧ Aside0 (eqQ q (a.take k) (b.take k) = true) ∧ Aside0 (Below w.heap.size w wr)) (fun vi _ => a.length - (intOf vi).toNat)
    case atStart => exact ⟨0, Nat.zero_le _, rfl, ⟨by simp [eqQ]⟩, ⟨Below.refl _ _⟩⟩
    case round =>
      obtain ⟨k, hk, rfl, HN, HB⟩ := hrel
      by_cases hlt : k < a.length
      · have g1 : decide (k < a.length) = true := decide_eq_true hlt
        have i1 : (k : Int) < a.length := by omega
        have hltb : k < b.length := by have := HLN.out; omega
        have i2 : (k : Int) < b.length := by omega
        obtain ⟨ada, A3, c3, rfl, a0_, a1_, a2_, a3_, ja3⟩ := atEx (HA.out.below HB.out) k hlt
        obtain ⟨adb, B3, d3, rfl, b0_, b1_, b2_, b3_, jb3⟩ := atEx (HBb.out.below HB.out) k hltb
        have HSN := Aside0.mk (eqQ_snoc q zEx a b k hlt HLN.out)
        have HNO := Aside0.mk (eqQ_no q zEx a b k hlt HLN.out)
        have HQ := Aside0.mk (HQ0.out (a.getD k zEx) (by rw [List.getD_eq_getElem?_getD, List.getElem?_eq_getElem hlt]; exact List.getElem_mem hlt) (b.getD k zEx) (by rw [List.getD_eq_getElem?_getD, List.getElem?_eq_getElem hltb]; exact List.getElem_mem hltb))
        generalize a.getD k zEx = x at a0_ a1_ a2_ a3_ ja3 HSN HNO HQ
        generalize b.getD k zEx = y at b0_ b1_ b2_ b3_ jb3 HSN HNO HQ
        have HJA3 := Aside0.mk ja3
        have HJB3 := Aside0.mk jb3
        clear ja3 jb3
        have f0_ := pw_cell_below (below_alloc (Below.refl wr.heap.size wr) (.cells #[.int .i64 x.f0, .int .i64 x.f1, .int .i64 x.f2, .slice A3 x.f3.length c3] 83)) b0_
        have f1_ := pw_cell_below (below_alloc (Below.refl wr.heap.size wr) (.cells #[.int .i64 x.f0, .int .i64 x.f1, .int .i64 x.f2, .slice A3 x.f3.length c3] 83)) b1_
        have f2_ := pw_cell_below (below_alloc (Below.refl wr.heap.size wr) (.cells #[.int .i64 x.f0, .int .i64 x.f1, .int .i64 x.f2, .slice A3 x.f3.length c3] 83)) b2_
        have f3_ := pw_cell_below (below_alloc (Below.refl wr.heap.size wr) (.cells #[.int .i64 x.f0, .int .i64 x.f1, .int .i64 x.f2, .slice A3 x.f3.length c3] 83)) b3_
        have HBX := Aside0.mk (below_alloc (below_alloc (Below.refl wr.heap.size wr) (.cells #[.int .i64 x.f0, .int .i64 x.f1, .int .i64 x.f2, .slice A3 x.f3.length c3] 83)) (.cells #[.int .i64 y.f0, .int .i64 y.f1, .int .i64 y.f2, .slice B3 y.f3.length d3] 83))
        cases hd : q x y with
        | true =>
          have HE2 : Aside0 (eqQ q (a.take (k + 1)) (b.take (k + 1)) = true) := ⟨by rw [HSN.out, HN.out, hd]; rfl⟩
          have HD := Aside0.mk hd
          clear hd
          go_wp2_with (go_at_call 48; refine (HQ.out A3 c3 B3 d3 _ (HJA3.out.below HBX.out) (HJB3.out.below HBX.out)).mono ?_; rintro e w2 ⟨rfl, hb2⟩; rw [HD.out]; have HB2 := Aside0.mk (below_then HB.out HB.out.size (below_then HBX.out HBX.out.size hb2)); clear hb2)
          go_roundw
          case rel => exact ⟨k + 1, by omega, by go_num, HE2, HB2⟩
          case measure => simp [intOf]; omega
        | false =>
          have HE2 : Aside0 (eqQ q a b = false) := ⟨HNO.out hd⟩
          have HD := Aside0.mk hd
          clear hd
          go_wp2_with (go_at_call 48; refine (HQ.out A3 c3 B3 d3 _ (HJA3.out.below HBX.out) (HJB3.out.below HBX.out)).mono ?_; rintro e w2 ⟨rfl, hb2⟩; rw [HD.out]; have HB2 := Aside0.mk (below_then HB.out HB.out.size (below_then HBX.out HBX.out.size hb2)); clear hb2)
          go_ret
          exact ⟨ret_bool HE2.out.symm, HB2.out⟩
      · have hke : k = a.length := by omega
        subst hke
        have g1 : decide (a.length < a.length) = false := decide_eq_false (by omega)
        have HE2 : Aside0 (eqQ q a b = true) := ⟨by have h := HN.out; rwa [List.take_length, HLN.out, List.take_length] at h⟩
        go_wp2
        go_ret
        exact ⟨ret_bool HE2.out.symm, HB.out⟩
  · have n0 : ((a.length : Int) != (b.length : Int)) = true := by simp; omega
    have HE2 : Aside0 (eqQ q a b = false) := ⟨eqQ_len q a b hl⟩
    clear hl
    go_enter Try.func72, Try.ntmps72
    go_wp2
    go_ret
    exact ⟨ret_bool HE2.out.symm, Below.refl _ _⟩
abbrev QCallOcc (q : TOcc → TOcc → Bool) (x y : TOcc) : Prop := ∀ A2 c2 B2 d2 w, IsS (Kd.int .i64) w x.f2 A2 c2 → IsS (Kd.int .i64) w y.f2 B2 d2 → Calls Try.prog 74 #[.agg #[.int .i64 x.f0, .int .i64 x.f1, .slice A2 x.f2.length c2], .agg #[.int .i64 y.f0, .int .i64 y.f1, .slice B2 y.f2.length d2]] w fun e w' => e = .returned (.bool (q x y)) ∧ Below w.heap.size w w'
set_option maxHeartbeats 4000000 in
set_option maxRecDepth 100000 in
theorem equalFOcc_of (q : TOcc → TOcc → Bool) (A B : Option Addr) (c d : Nat) (a b : List TOcc) (w : World) (ha : IsS kOcc w a A c) (hb : IsS kOcc w b B d) (hq : ∀ x, x ∈ a → ∀ y, y ∈ b → QCallOcc q x y) :
    Calls Try.prog 73 #[.slice A a.length c, .slice B b.length d, .func (.func 74) #[] #[]] w fun e w' => e = .returned (.bool (eqQ q a b)) ∧ Below w.heap.size w w' := by
  have hna := ha.len
  have hnb := hb.len
  have HA := Aside0.mk ha
  have HBb := Aside0.mk hb
  have HQ0 := Aside0.mk hq
  clear ha hb hq
  by_cases hl : a.length = b.length
  · have n0 : ((a.length : Int) != (b.length : Int)) = false := by simp [hl]
    go_enter Try.func73, Try.ntmps73
    have HLN := Aside0.mk hl
    clear hl
    go_wp2
    go_loopw [17] (fun vi wr => ∃ (k : Nat), k ≤ a.length ∧ vi = .int .i64 k ∧ Aside0 (eqQ q (a.take k) (b.take k) = true) ∧ Aside0 (Below w.heap.size w wr)) (fun vi _ => a.length - (intOf vi).toNat)
    case atStart => exact ⟨0, Nat.zero_le _, rfl, ⟨by simp [eqQ]⟩, ⟨Below.refl _ _⟩⟩
    case round =>
      obtain ⟨k, hk, rfl, HN, HB⟩ := hrel
      by_cases hlt : k < a.length
      · have g1 : decide (k < a.length) = true := decide_eq_true hlt
        have i1 : (k : Int) < a.length := by omega
        have hltb : k < b.length := by have := HLN.out; omega
        have i2 : (k : Int) < b.length := by omega
        obtain ⟨ada, A2, c2, rfl, a0_, a1_, a2_, ja2⟩ := atOcc (HA.out.below HB.out) k hlt
        obtain ⟨adb, B2, d2, rfl, b0_, b1_, b2_, jb2⟩ := atOcc (HBb.out.below HB.out) k hltb
        have HSN := Aside0.mk (eqQ_snoc q zOcc a b k hlt HLN.out)
        have HNO := Aside0.mk (eqQ_no q zOcc a b k hlt HLN.out)
        have HQ := Aside0.mk (HQ0.out (a.getD k zOcc) (by rw [List.getD_eq_getElem?_getD, List.getElem?_eq_getElem hlt]; exact List.getElem_mem hlt) (b.getD k zOcc) (by rw [List.getD_eq_getElem?_getD, List.getElem?_eq_getElem hltb]; exact List.getElem_mem hltb))
        generalize a.getD k zOcc = x at a0_ a1_ a2_ ja2 HSN HNO HQ
        generalize b.getD k zOcc = y at b0_ b1_ b2_ jb2 HSN HNO HQ
        have HJA2 := Aside0.mk ja2
        have HJB2 := Aside0.mk jb2
        clear ja2 jb2
        have f0_ := pw_cell_below (below_alloc (Below.refl wr.heap.size wr) (.cells #[.int .i64 x.f0, .int .i64 x.f1, .slice A2 x.f2.length c2] 60)) b0_
        have f1_ := pw_cell_below (below_alloc (Below.refl wr.heap.size wr) (.cells #[.int .i64 x.f0, .int .i64 x.f1, .slice A2 x.f2.length c2] 60)) b1_
        have f2_ := pw_cell_below (below_alloc (Below.refl wr.heap.size wr) (.cells #[.int .i64 x.f0, .int .i64 x.f1, .slice A2 x.f2.length c2] 60)) b2_
        have HBX := Aside0.mk (below_alloc (below_alloc (Below.refl wr.heap.size wr) (.cells #[.int .i64 x.f0, .int .i64 x.f1, .slice A2 x.f2.length c2] 60)) (.cells #[.int .i64 y.f0, .int .i64 y.f1, .slice B2 y.f2.length d2] 60))
        cases hd : q x y with
        | true =>
          have HE2 : Aside0 (eqQ q (a.take (k + 1)) (b.take (k + 1)) = true) := ⟨by rw [HSN.out, HN.out, hd]; rfl⟩
          have HD := Aside0.mk hd
          clear hd
          go_wp2_with (go_at_call 74; refine (HQ.out A2 c2 B2 d2 _ (HJA2.out.below HBX.out) (HJB2.out.below HBX.out)).mono ?_; rintro e w2 ⟨rfl, hb2⟩; rw [HD.out]; have HB2 := Aside0.mk (below_then HB.out HB.out.size (below_then HBX.out HBX.out.size hb2)); clear hb2)
          go_roundw
          case rel => exact ⟨k + 1, by omega, by go_num, HE2, HB2⟩
          case measure => simp [intOf]; omega
        | false =>
          have HE2 : Aside0 (eqQ q a b = false) := ⟨HNO.out hd⟩
          have HD := Aside0.mk hd
          clear hd
          go_wp2_with (go_at_call 74; refine (HQ.out A2 c2 B2 d2 _ (HJA2.out.below HBX.out) (HJB2.out.below HBX.out)).mono ?_; rintro e w2 ⟨rfl, hb2⟩; rw [HD.out]; have HB2 := Aside0.mk (below_then HB.out HB.out.size (below_then HBX.out HBX.out.size hb2)); clear hb2)
          go_ret
          exact ⟨ret_bool HE2.out.symm, HB2.out⟩
      · have hke : k = a.length := by omega
        subst hke
        have g1 : decide (a.length < a.length) = false := decide_eq_false (by omega)
        have HE2 : Aside0 (eqQ q a b = true) := ⟨by have h := HN.out; rwa [List.take_length, HLN.out, List.take_length] at h⟩
        go_wp2
        go_ret
        exact ⟨ret_bool HE2.out.symm, HB.out⟩
  · have n0 : ((a.length : Int) != (b.length : Int)) = true := by simp; omega
    have HE2 : Aside0 (eqQ q a b = false) := ⟨eqQ_len q a b hl⟩
    clear hl
    go_enter Try.func73, Try.ntmps73
    go_wp2
    go_ret
    exact ⟨ret_bool HE2.out.symm, Below.refl _ _⟩
abbrev QCallNode (q : TNode → TNode → Bool) (x y : TNode) : Prop := ∀ A3 c3 A4 c4 A5 c5 A6 c6 A7 c7 A8 c8 B3 d3 B4 d4 B5 d5 B6 d6 B7 d7 B8 d8 w, IsS (Kd.int .i64) w x.f3 A3 c3 → IsS kOcc w x.f4.f0 A4 c4 → IsS kOcc w x.f4.f1 A5 c5 → IsS kOcc w x.f5.f0 A6 c6 → IsS kOcc w x.f5.f1 A7 c7 → IsS kOcc w x.f6 A8 c8 → IsS (Kd.int .i64) w y.f3 B3 d3 → IsS kOcc w y.f4.f0 B4 d4 → IsS kOcc w y.f4.f1 B5 d5 → IsS kOcc w y.f5.f0 B6 d6 → IsS kOcc w y.f5.f1 B7 d7 → IsS kOcc w y.f6 B8 d8 → Calls Try.prog 50 #[.agg #[.int .i64 x.f0, .int .i64 x.f1, .int .i64 x.f2, .slice A3 x.f3.length c3, .slice A4 x.f4.f0.length c4, .slice A5 x.f4.f1.length c5, .slice A6 x.f5.f0.length c6, .slice A7 x.f5.f1.length c7, .slice A8 x.f6.length c8, .int .i64 x.f7], .agg #[.int .i64 y.f0, .int .i64 y.f1, .int .i64 y.f2, .slice B3 y.f3.length d3, .slice B4 y.f4.f0.length d4, .slice B5 y.f4.f1.length d5, .slice B6 y.f5.f0.length d6, .slice B7 y.f5.f1.length d7, .slice B8 y.f6.length d8, .int .i64 y.f7]] w fun e w' => e = .returned (.bool (q x y)) ∧ Below w.heap.size w w'
set_option maxHeartbeats 4000000 in
set_option maxRecDepth 100000 in
theorem equalFNode_of (q : TNode → TNode → Bool) (A B : Option Addr) (c d : Nat) (a b : List TNode) (w : World) (ha : IsS kNode w a A c) (hb : IsS kNode w b B d) (hq : ∀ x, x ∈ a → ∀ y, y ∈ b → QCallNode q x y) :
    Calls Try.prog 49 #[.slice A a.length c, .slice B b.length d, .func (.func 50) #[] #[]] w fun e w' => e = .returned (.bool (eqQ q a b)) ∧ Below w.heap.size w w' := by
  have hna := ha.len
  have hnb := hb.len
  have HA := Aside0.mk ha
  have HBb := Aside0.mk hb
  have HQ0 := Aside0.mk hq
  clear ha hb hq
  by_cases hl : a.length = b.length
  · have n0 : ((a.length : Int) != (b.length : Int)) = false := by simp [hl]
    go_enter Try.func49, Try.ntmps49
    have HLN := Aside0.mk hl
    clear hl
    go_wp2
    go_loopw [17] (fun vi wr => ∃ (k : Nat), k ≤ a.length ∧ vi = .int .i64 k ∧ Aside0 (eqQ q (a.take k) (b.take k) = true) ∧ Aside0 (Below w.heap.size w wr)) (fun vi _ => a.length - (intOf vi).toNat)
    case atStart => exact ⟨0, Nat.zero_le _, rfl, ⟨by simp [eqQ]⟩, ⟨Below.refl _ _⟩⟩
    case round =>
      obtain ⟨k, hk, rfl, HN, HB⟩ := hrel
      by_cases hlt : k < a.length
      · have g1 : decide (k < a.length) = true := decide_eq_true hlt
        have i1 : (k : Int) < a.length := by omega
        have hltb : k < b.length := by have := HLN.out; omega
        have i2 : (k : Int) < b.length := by omega
        obtain ⟨ada, A3, c3, A4, c4, A5, c5, A6, c6, A7, c7, A8, c8, rfl, a0_, a1_, a2_, a3_, a4_, a5_, a6_, a7_, a8_, a9_, ja3, ja4, ja5, ja6, ja7, ja8⟩ := atNode (HA.out.below HB.out) k hlt
        obtain ⟨adb, B3, d3, B4, d4, B5, d5, B6, d6, B7, d7, B8, d8, rfl, b0_, b1_, b2_, b3_, b4_, b5_, b6_, b7_, b8_, b9_, jb3, jb4, jb5, jb6, jb7, jb8⟩ := atNode (HBb.out.below HB.out) k hltb
        have HSN := Aside0.mk (eqQ_snoc q zNode a b k hlt HLN.out)
        have HNO := Aside0.mk (eqQ_no q zNode a b k hlt HLN.out)
        have HQ := Aside0.mk (HQ0.out (a.getD k zNode) (by rw [List.getD_eq_getElem?_getD, List.getElem?_eq_getElem hlt]; exact List.getElem_mem hlt) (b.getD k zNode) (by rw [List.getD_eq_getElem?_getD, List.getElem?_eq_getElem hltb]; exact List.getElem_mem hltb))
        generalize a.getD k zNode = x at a0_ a1_ a2_ a3_ a4_ a5_ a6_ a7_ a8_ a9_ ja3 ja4 ja5 ja6 ja7 ja8 HSN HNO HQ
        generalize b.getD k zNode = y at b0_ b1_ b2_ b3_ b4_ b5_ b6_ b7_ b8_ b9_ jb3 jb4 jb5 jb6 jb7 jb8 HSN HNO HQ
        have HJA3 := Aside0.mk ja3
        have HJB3 := Aside0.mk jb3
        have HJA4 := Aside0.mk ja4
        have HJB4 := Aside0.mk jb4
        have HJA5 := Aside0.mk ja5
        have HJB5 := Aside0.mk jb5
        have HJA6 := Aside0.mk ja6
        have HJB6 := Aside0.mk jb6
        have HJA7 := Aside0.mk ja7
        have HJB7 := Aside0.mk jb7
        have HJA8 := Aside0.mk ja8
        have HJB8 := Aside0.mk jb8
        clear ja3 jb3 ja4 jb4 ja5 jb5 ja6 jb6 ja7 jb7 ja8 jb8
        have f0_ := pw_cell_below (below_alloc (Below.refl wr.heap.size wr) (.cells #[.int .i64 x.f0, .int .i64 x.f1, .int .i64 x.f2, .slice A3 x.f3.length c3, .slice A4 x.f4.f0.length c4, .slice A5 x.f4.f1.length c5, .slice A6 x.f5.f0.length c6, .slice A7 x.f5.f1.length c7, .slice A8 x.f6.length c8, .int .i64 x.f7] 96)) b0_
        have f1_ := pw_cell_below (below_alloc (Below.refl wr.heap.size wr) (.cells #[.int .i64 x.f0, .int .i64 x.f1, .int .i64 x.f2, .slice A3 x.f3.length c3, .slice A4 x.f4.f0.length c4, .slice A5 x.f4.f1.length c5, .slice A6 x.f5.f0.length c6, .slice A7 x.f5.f1.length c7, .slice A8 x.f6.length c8, .int .i64 x.f7] 96)) b1_
        have f2_ := pw_cell_below (below_alloc (Below.refl wr.heap.size wr) (.cells #[.int .i64 x.f0, .int .i64 x.f1, .int .i64 x.f2, .slice A3 x.f3.length c3, .slice A4 x.f4.f0.length c4, .slice A5 x.f4.f1.length c5, .slice A6 x.f5.f0.length c6, .slice A7 x.f5.f1.length c7, .slice A8 x.f6.length c8, .int .i64 x.f7] 96)) b2_
        have f3_ := pw_cell_below (below_alloc (Below.refl wr.heap.size wr) (.cells #[.int .i64 x.f0, .int .i64 x.f1, .int .i64 x.f2, .slice A3 x.f3.length c3, .slice A4 x.f4.f0.length c4, .slice A5 x.f4.f1.length c5, .slice A6 x.f5.f0.length c6, .slice A7 x.f5.f1.length c7, .slice A8 x.f6.length c8, .int .i64 x.f7] 96)) b3_
        have f4_ := pw_cell_below (below_alloc (Below.refl wr.heap.size wr) (.cells #[.int .i64 x.f0, .int .i64 x.f1, .int .i64 x.f2, .slice A3 x.f3.length c3, .slice A4 x.f4.f0.length c4, .slice A5 x.f4.f1.length c5, .slice A6 x.f5.f0.length c6, .slice A7 x.f5.f1.length c7, .slice A8 x.f6.length c8, .int .i64 x.f7] 96)) b4_
        have f5_ := pw_cell_below (below_alloc (Below.refl wr.heap.size wr) (.cells #[.int .i64 x.f0, .int .i64 x.f1, .int .i64 x.f2, .slice A3 x.f3.length c3, .slice A4 x.f4.f0.length c4, .slice A5 x.f4.f1.length c5, .slice A6 x.f5.f0.length c6, .slice A7 x.f5.f1.length c7, .slice A8 x.f6.length c8, .int .i64 x.f7] 96)) b5_
        have f6_ := pw_cell_below (below_alloc (Below.refl wr.heap.size wr) (.cells #[.int .i64 x.f0, .int .i64 x.f1, .int .i64 x.f2, .slice A3 x.f3.length c3, .slice A4 x.f4.f0.length c4, .slice A5 x.f4.f1.length c5, .slice A6 x.f5.f0.length c6, .slice A7 x.f5.f1.length c7, .slice A8 x.f6.length c8, .int .i64 x.f7] 96)) b6_
        have f7_ := pw_cell_below (below_alloc (Below.refl wr.heap.size wr) (.cells #[.int .i64 x.f0, .int .i64 x.f1, .int .i64 x.f2, .slice A3 x.f3.length c3, .slice A4 x.f4.f0.length c4, .slice A5 x.f4.f1.length c5, .slice A6 x.f5.f0.length c6, .slice A7 x.f5.f1.length c7, .slice A8 x.f6.length c8, .int .i64 x.f7] 96)) b7_
        have f8_ := pw_cell_below (below_alloc (Below.refl wr.heap.size wr) (.cells #[.int .i64 x.f0, .int .i64 x.f1, .int .i64 x.f2, .slice A3 x.f3.length c3, .slice A4 x.f4.f0.length c4, .slice A5 x.f4.f1.length c5, .slice A6 x.f5.f0.length c6, .slice A7 x.f5.f1.length c7, .slice A8 x.f6.length c8, .int .i64 x.f7] 96)) b8_
        have f9_ := pw_cell_below (below_alloc (Below.refl wr.heap.size wr) (.cells #[.int .i64 x.f0, .int .i64 x.f1, .int .i64 x.f2, .slice A3 x.f3.length c3, .slice A4 x.f4.f0.length c4, .slice A5 x.f4.f1.length c5, .slice A6 x.f5.f0.length c6, .slice A7 x.f5.f1.length c7, .slice A8 x.f6.length c8, .int .i64 x.f7] 96)) b9_
        have HBX := Aside0.mk (below_alloc (below_alloc (Below.refl wr.heap.size wr) (.cells #[.int .i64 x.f0, .int .i64 x.f1, .int .i64 x.f2, .slice A3 x.f3.length c3, .slice A4 x.f4.f0.length c4, .slice A5 x.f4.f1.length c5, .slice A6 x.f5.f0.length c6, .slice A7 x.f5.f1.length c7, .slice A8 x.f6.length c8, .int .i64 x.f7] 96)) (.cells #[.int .i64 y.f0, .int .i64 y.f1, .int .i64 y.f2, .slice B3 y.f3.length d3, .slice B4 y.f4.f0.length d4, .slice B5 y.f4.f1.length d5, .slice B6 y.f5.f0.length d6, .slice B7 y.f5.f1.length d7, .slice B8 y.f6.length d8, .int .i64 y.f7] 96))
        cases hd : q x y with
        | true =>
          have HE2 : Aside0 (eqQ q (a.take (k + 1)) (b.take (k + 1)) = true) := ⟨by rw [HSN.out, HN.out, hd]; rfl⟩
          have HD := Aside0.mk hd
          clear hd
          go_wp2_with (go_at_call 50; refine (HQ.out A3 c3 A4 c4 A5 c5 A6 c6 A7 c7 A8 c8 B3 d3 B4 d4 B5 d5 B6 d6 B7 d7 B8 d8 _ (HJA3.out.below HBX.out) (HJA4.out.below HBX.out) (HJA5.out.below HBX.out) (HJA6.out.below HBX.out) (HJA7.out.below HBX.out) (HJA8.out.below HBX.out) (HJB3.out.below HBX.out) (HJB4.out.below HBX.out) (HJB5.out.below HBX.out) (HJB6.out.below HBX.out) (HJB7.out.below HBX.out) (HJB8.out.below HBX.out)).mono ?_; rintro e w2 ⟨rfl, hb2⟩; rw [HD.out]; have HB2 := Aside0.mk (below_then HB.out HB.out.size (below_then HBX.out HBX.out.size hb2)); clear hb2)
          go_roundw
          case rel => exact ⟨k + 1, by omega, by go_num, HE2, HB2⟩
          case measure => simp [intOf]; omega
        | false =>
          have HE2 : Aside0 (eqQ q a b = false) := ⟨HNO.out hd⟩
          have HD := Aside0.mk hd
          clear hd
          go_wp2_with (go_at_call 50; refine (HQ.out A3 c3 A4 c4 A5 c5 A6 c6 A7 c7 A8 c8 B3 d3 B4 d4 B5 d5 B6 d6 B7 d7 B8 d8 _ (HJA3.out.below HBX.out) (HJA4.out.below HBX.out) (HJA5.out.below HBX.out) (HJA6.out.below HBX.out) (HJA7.out.below HBX.out) (HJA8.out.below HBX.out) (HJB3.out.below HBX.out) (HJB4.out.below HBX.out) (HJB5.out.below HBX.out) (HJB6.out.below HBX.out) (HJB7.out.below HBX.out) (HJB8.out.below HBX.out)).mono ?_; rintro e w2 ⟨rfl, hb2⟩; rw [HD.out]; have HB2 := Aside0.mk (below_then HB.out HB.out.size (below_then HBX.out HBX.out.size hb2)); clear hb2)
          go_ret
          exact ⟨ret_bool HE2.out.symm, HB2.out⟩
      · have hke : k = a.length := by omega
        subst hke
        have g1 : decide (a.length < a.length) = false := decide_eq_false (by omega)
        have HE2 : Aside0 (eqQ q a b = true) := ⟨by have h := HN.out; rwa [List.take_length, HLN.out, List.take_length] at h⟩
        go_wp2
        go_ret
        exact ⟨ret_bool HE2.out.symm, HB.out⟩
  · have n0 : ((a.length : Int) != (b.length : Int)) = true := by simp; omega
    have HE2 : Aside0 (eqQ q a b = false) := ⟨eqQ_len q a b hl⟩
    clear hl
    go_enter Try.func49, Try.ntmps49
    go_wp2
    go_ret
    exact ⟨ret_bool HE2.out.symm, Below.refl _ _⟩
abbrev QCallGraph (q : TGraph → TGraph → Bool) (x y : TGraph) : Prop := ∀ A1 c1 B1 d1 w, IsS kNode w x.f1 A1 c1 → IsS kNode w y.f1 B1 d1 → Calls Try.prog 25 #[.agg #[.int .i64 x.f0, .slice A1 x.f1.length c1, .int .i64 x.f2, .int .i64 x.f3, .bool x.f4], .agg #[.int .i64 y.f0, .slice B1 y.f1.length d1, .int .i64 y.f2, .int .i64 y.f3, .bool y.f4]] w fun e w' => e = .returned (.bool (q x y)) ∧ Below w.heap.size w w'
set_option maxHeartbeats 4000000 in
set_option maxRecDepth 100000 in
theorem equalFGraph_of (q : TGraph → TGraph → Bool) (A B : Option Addr) (c d : Nat) (a b : List TGraph) (w : World) (ha : IsS kGraph w a A c) (hb : IsS kGraph w b B d) (hq : ∀ x, x ∈ a → ∀ y, y ∈ b → QCallGraph q x y) :
    Calls Try.prog 24 #[.slice A a.length c, .slice B b.length d, .func (.func 25) #[] #[]] w fun e w' => e = .returned (.bool (eqQ q a b)) ∧ Below w.heap.size w w' := by
  have hna := ha.len
  have hnb := hb.len
  have HA := Aside0.mk ha
  have HBb := Aside0.mk hb
  have HQ0 := Aside0.mk hq
  clear ha hb hq
  by_cases hl : a.length = b.length
  · have n0 : ((a.length : Int) != (b.length : Int)) = false := by simp [hl]
    go_enter Try.func24, Try.ntmps24
    have HLN := Aside0.mk hl
    clear hl
    go_wp2
    go_loopw [17] (fun vi wr => ∃ (k : Nat), k ≤ a.length ∧ vi = .int .i64 k ∧ Aside0 (eqQ q (a.take k) (b.take k) = true) ∧ Aside0 (Below w.heap.size w wr)) (fun vi _ => a.length - (intOf vi).toNat)
    case atStart => exact ⟨0, Nat.zero_le _, rfl, ⟨by simp [eqQ]⟩, ⟨Below.refl _ _⟩⟩
    case round =>
      obtain ⟨k, hk, rfl, HN, HB⟩ := hrel
      by_cases hlt : k < a.length
      · have g1 : decide (k < a.length) = true := decide_eq_true hlt
        have i1 : (k : Int) < a.length := by omega
        have hltb : k < b.length := by have := HLN.out; omega
        have i2 : (k : Int) < b.length := by omega
        obtain ⟨ada, A1, c1, rfl, a0_, a1_, a2_, a3_, a4_, ja1⟩ := atGraph (HA.out.below HB.out) k hlt
        obtain ⟨adb, B1, d1, rfl, b0_, b1_, b2_, b3_, b4_, jb1⟩ := atGraph (HBb.out.below HB.out) k hltb
        have HSN := Aside0.mk (eqQ_snoc q zGraph a b k hlt HLN.out)
        have HNO := Aside0.mk (eqQ_no q zGraph a b k hlt HLN.out)
        have HQ := Aside0.mk (HQ0.out (a.getD k zGraph) (by rw [List.getD_eq_getElem?_getD, List.getElem?_eq_getElem hlt]; exact List.getElem_mem hlt) (b.getD k zGraph) (by rw [List.getD_eq_getElem?_getD, List.getElem?_eq_getElem hltb]; exact List.getElem_mem hltb))
        generalize a.getD k zGraph = x at a0_ a1_ a2_ a3_ a4_ ja1 HSN HNO HQ
        generalize b.getD k zGraph = y at b0_ b1_ b2_ b3_ b4_ jb1 HSN HNO HQ
        have HJA1 := Aside0.mk ja1
        have HJB1 := Aside0.mk jb1
        clear ja1 jb1
        have f0_ := pw_cell_below (below_alloc (Below.refl wr.heap.size wr) (.cells #[.int .i64 x.f0, .slice A1 x.f1.length c1, .int .i64 x.f2, .int .i64 x.f3, .bool x.f4] 50)) b0_
        have f1_ := pw_cell_below (below_alloc (Below.refl wr.heap.size wr) (.cells #[.int .i64 x.f0, .slice A1 x.f1.length c1, .int .i64 x.f2, .int .i64 x.f3, .bool x.f4] 50)) b1_
        have f2_ := pw_cell_below (below_alloc (Below.refl wr.heap.size wr) (.cells #[.int .i64 x.f0, .slice A1 x.f1.length c1, .int .i64 x.f2, .int .i64 x.f3, .bool x.f4] 50)) b2_
        have f3_ := pw_cell_below (below_alloc (Below.refl wr.heap.size wr) (.cells #[.int .i64 x.f0, .slice A1 x.f1.length c1, .int .i64 x.f2, .int .i64 x.f3, .bool x.f4] 50)) b3_
        have f4_ := pw_cell_below (below_alloc (Below.refl wr.heap.size wr) (.cells #[.int .i64 x.f0, .slice A1 x.f1.length c1, .int .i64 x.f2, .int .i64 x.f3, .bool x.f4] 50)) b4_
        have HBX := Aside0.mk (below_alloc (below_alloc (Below.refl wr.heap.size wr) (.cells #[.int .i64 x.f0, .slice A1 x.f1.length c1, .int .i64 x.f2, .int .i64 x.f3, .bool x.f4] 50)) (.cells #[.int .i64 y.f0, .slice B1 y.f1.length d1, .int .i64 y.f2, .int .i64 y.f3, .bool y.f4] 50))
        cases hd : q x y with
        | true =>
          have HE2 : Aside0 (eqQ q (a.take (k + 1)) (b.take (k + 1)) = true) := ⟨by rw [HSN.out, HN.out, hd]; rfl⟩
          have HD := Aside0.mk hd
          clear hd
          go_wp2_with (go_at_call 25; refine (HQ.out A1 c1 B1 d1 _ (HJA1.out.below HBX.out) (HJB1.out.below HBX.out)).mono ?_; rintro e w2 ⟨rfl, hb2⟩; rw [HD.out]; have HB2 := Aside0.mk (below_then HB.out HB.out.size (below_then HBX.out HBX.out.size hb2)); clear hb2)
          go_roundw
          case rel => exact ⟨k + 1, by omega, by go_num, HE2, HB2⟩
          case measure => simp [intOf]; omega
        | false =>
          have HE2 : Aside0 (eqQ q a b = false) := ⟨HNO.out hd⟩
          have HD := Aside0.mk hd
          clear hd
          go_wp2_with (go_at_call 25; refine (HQ.out A1 c1 B1 d1 _ (HJA1.out.below HBX.out) (HJB1.out.below HBX.out)).mono ?_; rintro e w2 ⟨rfl, hb2⟩; rw [HD.out]; have HB2 := Aside0.mk (below_then HB.out HB.out.size (below_then HBX.out HBX.out.size hb2)); clear hb2)
          go_ret
          exact ⟨ret_bool HE2.out.symm, HB2.out⟩
      · have hke : k = a.length := by omega
        subst hke
        have g1 : decide (a.length < a.length) = false := decide_eq_false (by omega)
        have HE2 : Aside0 (eqQ q a b = true) := ⟨by have h := HN.out; rwa [List.take_length, HLN.out, List.take_length] at h⟩
        go_wp2
        go_ret
        exact ⟨ret_bool HE2.out.symm, HB.out⟩
  · have n0 : ((a.length : Int) != (b.length : Int)) = true := by simp; omega
    have HE2 : Aside0 (eqQ q a b = false) := ⟨eqQ_len q a b hl⟩
    clear hl
    go_enter Try.func24, Try.ntmps24
    go_wp2
    go_ret
    exact ⟨ret_bool HE2.out.symm, Below.refl _ _⟩
abbrev QCallFire (q : TFire → TFire → Bool) (x y : TFire) : Prop := ∀ A3 c3 B3 d3 w, IsS (Kd.int .i64) w x.f1.f2 A3 c3 → IsS (Kd.int .i64) w y.f1.f2 B3 d3 → Calls Try.prog 29 #[.agg #[.int .i64 x.f0, .int .i64 x.f1.f0, .int .i64 x.f1.f1, .slice A3 x.f1.f2.length c3], .agg #[.int .i64 y.f0, .int .i64 y.f1.f0, .int .i64 y.f1.f1, .slice B3 y.f1.f2.length d3]] w fun e w' => e = .returned (.bool (q x y)) ∧ Below w.heap.size w w'
set_option maxHeartbeats 4000000 in
set_option maxRecDepth 100000 in
theorem equalFFire_of (q : TFire → TFire → Bool) (A B : Option Addr) (c d : Nat) (a b : List TFire) (w : World) (ha : IsS kFire w a A c) (hb : IsS kFire w b B d) (hq : ∀ x, x ∈ a → ∀ y, y ∈ b → QCallFire q x y) :
    Calls Try.prog 28 #[.slice A a.length c, .slice B b.length d, .func (.func 29) #[] #[]] w fun e w' => e = .returned (.bool (eqQ q a b)) ∧ Below w.heap.size w w' := by
  have hna := ha.len
  have hnb := hb.len
  have HA := Aside0.mk ha
  have HBb := Aside0.mk hb
  have HQ0 := Aside0.mk hq
  clear ha hb hq
  by_cases hl : a.length = b.length
  · have n0 : ((a.length : Int) != (b.length : Int)) = false := by simp [hl]
    go_enter Try.func28, Try.ntmps28
    have HLN := Aside0.mk hl
    clear hl
    go_wp2
    go_loopw [17] (fun vi wr => ∃ (k : Nat), k ≤ a.length ∧ vi = .int .i64 k ∧ Aside0 (eqQ q (a.take k) (b.take k) = true) ∧ Aside0 (Below w.heap.size w wr)) (fun vi _ => a.length - (intOf vi).toNat)
    case atStart => exact ⟨0, Nat.zero_le _, rfl, ⟨by simp [eqQ]⟩, ⟨Below.refl _ _⟩⟩
    case round =>
      obtain ⟨k, hk, rfl, HN, HB⟩ := hrel
      by_cases hlt : k < a.length
      · have g1 : decide (k < a.length) = true := decide_eq_true hlt
        have i1 : (k : Int) < a.length := by omega
        have hltb : k < b.length := by have := HLN.out; omega
        have i2 : (k : Int) < b.length := by omega
        obtain ⟨ada, A3, c3, rfl, a0_, a1_, a2_, a3_, ja3⟩ := atFire (HA.out.below HB.out) k hlt
        obtain ⟨adb, B3, d3, rfl, b0_, b1_, b2_, b3_, jb3⟩ := atFire (HBb.out.below HB.out) k hltb
        have HSN := Aside0.mk (eqQ_snoc q zFire a b k hlt HLN.out)
        have HNO := Aside0.mk (eqQ_no q zFire a b k hlt HLN.out)
        have HQ := Aside0.mk (HQ0.out (a.getD k zFire) (by rw [List.getD_eq_getElem?_getD, List.getElem?_eq_getElem hlt]; exact List.getElem_mem hlt) (b.getD k zFire) (by rw [List.getD_eq_getElem?_getD, List.getElem?_eq_getElem hltb]; exact List.getElem_mem hltb))
        generalize a.getD k zFire = x at a0_ a1_ a2_ a3_ ja3 HSN HNO HQ
        generalize b.getD k zFire = y at b0_ b1_ b2_ b3_ jb3 HSN HNO HQ
        have HJA3 := Aside0.mk ja3
        have HJB3 := Aside0.mk jb3
        clear ja3 jb3
        have f0_ := pw_cell_below (below_alloc (Below.refl wr.heap.size wr) (.cells #[.int .i64 x.f0, .int .i64 x.f1.f0, .int .i64 x.f1.f1, .slice A3 x.f1.f2.length c3] 62)) b0_
        have f1_ := pw_cell_below (below_alloc (Below.refl wr.heap.size wr) (.cells #[.int .i64 x.f0, .int .i64 x.f1.f0, .int .i64 x.f1.f1, .slice A3 x.f1.f2.length c3] 62)) b1_
        have f2_ := pw_cell_below (below_alloc (Below.refl wr.heap.size wr) (.cells #[.int .i64 x.f0, .int .i64 x.f1.f0, .int .i64 x.f1.f1, .slice A3 x.f1.f2.length c3] 62)) b2_
        have f3_ := pw_cell_below (below_alloc (Below.refl wr.heap.size wr) (.cells #[.int .i64 x.f0, .int .i64 x.f1.f0, .int .i64 x.f1.f1, .slice A3 x.f1.f2.length c3] 62)) b3_
        have HBX := Aside0.mk (below_alloc (below_alloc (Below.refl wr.heap.size wr) (.cells #[.int .i64 x.f0, .int .i64 x.f1.f0, .int .i64 x.f1.f1, .slice A3 x.f1.f2.length c3] 62)) (.cells #[.int .i64 y.f0, .int .i64 y.f1.f0, .int .i64 y.f1.f1, .slice B3 y.f1.f2.length d3] 62))
        cases hd : q x y with
        | true =>
          have HE2 : Aside0 (eqQ q (a.take (k + 1)) (b.take (k + 1)) = true) := ⟨by rw [HSN.out, HN.out, hd]; rfl⟩
          have HD := Aside0.mk hd
          clear hd
          go_wp2_with (go_at_call 29; refine (HQ.out A3 c3 B3 d3 _ (HJA3.out.below HBX.out) (HJB3.out.below HBX.out)).mono ?_; rintro e w2 ⟨rfl, hb2⟩; rw [HD.out]; have HB2 := Aside0.mk (below_then HB.out HB.out.size (below_then HBX.out HBX.out.size hb2)); clear hb2)
          go_roundw
          case rel => exact ⟨k + 1, by omega, by go_num, HE2, HB2⟩
          case measure => simp [intOf]; omega
        | false =>
          have HE2 : Aside0 (eqQ q a b = false) := ⟨HNO.out hd⟩
          have HD := Aside0.mk hd
          clear hd
          go_wp2_with (go_at_call 29; refine (HQ.out A3 c3 B3 d3 _ (HJA3.out.below HBX.out) (HJB3.out.below HBX.out)).mono ?_; rintro e w2 ⟨rfl, hb2⟩; rw [HD.out]; have HB2 := Aside0.mk (below_then HB.out HB.out.size (below_then HBX.out HBX.out.size hb2)); clear hb2)
          go_ret
          exact ⟨ret_bool HE2.out.symm, HB2.out⟩
      · have hke : k = a.length := by omega
        subst hke
        have g1 : decide (a.length < a.length) = false := decide_eq_false (by omega)
        have HE2 : Aside0 (eqQ q a b = true) := ⟨by have h := HN.out; rwa [List.take_length, HLN.out, List.take_length] at h⟩
        go_wp2
        go_ret
        exact ⟨ret_bool HE2.out.symm, HB.out⟩
  · have n0 : ((a.length : Int) != (b.length : Int)) = true := by simp; omega
    have HE2 : Aside0 (eqQ q a b = false) := ⟨eqQ_len q a b hl⟩
    clear hl
    go_enter Try.func28, Try.ntmps28
    go_wp2
    go_ret
    exact ⟨ret_bool HE2.out.symm, Below.refl _ _⟩
abbrev QCallRule (q : TRule → TRule → Bool) (x y : TRule) : Prop := ∀ A6 c6 B6 d6 w, IsS (kE 83) w x.f3.f3 A6 c6 → IsS (kE 83) w y.f3.f3 B6 d6 → Calls Try.prog 47 #[.agg #[.string x.f0, .int .i64 x.f1, .int .i64 x.f2, .int .i64 x.f3.f0, .int .i64 x.f3.f1, .int .i64 x.f3.f2, .slice A6 x.f3.f3.length c6, .int .i64 x.f4, .int .i64 x.f5, .int .i64 x.f6, .int .i64 x.f7, .int .i64 x.f8], .agg #[.string y.f0, .int .i64 y.f1, .int .i64 y.f2, .int .i64 y.f3.f0, .int .i64 y.f3.f1, .int .i64 y.f3.f2, .slice B6 y.f3.f3.length d6, .int .i64 y.f4, .int .i64 y.f5, .int .i64 y.f6, .int .i64 y.f7, .int .i64 y.f8]] w fun e w' => e = .returned (.bool (q x y)) ∧ Below w.heap.size w w'
set_option maxHeartbeats 4000000 in
set_option maxRecDepth 100000 in
theorem equalFRule_of (q : TRule → TRule → Bool) (A B : Option Addr) (c d : Nat) (a b : List TRule) (w : World) (ha : IsS kRule w a A c) (hb : IsS kRule w b B d) (hq : ∀ x, x ∈ a → ∀ y, y ∈ b → QCallRule q x y) :
    Calls Try.prog 46 #[.slice A a.length c, .slice B b.length d, .func (.func 47) #[] #[]] w fun e w' => e = .returned (.bool (eqQ q a b)) ∧ Below w.heap.size w w' := by
  have hna := ha.len
  have hnb := hb.len
  have HA := Aside0.mk ha
  have HBb := Aside0.mk hb
  have HQ0 := Aside0.mk hq
  clear ha hb hq
  by_cases hl : a.length = b.length
  · have n0 : ((a.length : Int) != (b.length : Int)) = false := by simp [hl]
    go_enter Try.func46, Try.ntmps46
    have HLN := Aside0.mk hl
    clear hl
    go_wp2
    go_loopw [17] (fun vi wr => ∃ (k : Nat), k ≤ a.length ∧ vi = .int .i64 k ∧ Aside0 (eqQ q (a.take k) (b.take k) = true) ∧ Aside0 (Below w.heap.size w wr)) (fun vi _ => a.length - (intOf vi).toNat)
    case atStart => exact ⟨0, Nat.zero_le _, rfl, ⟨by simp [eqQ]⟩, ⟨Below.refl _ _⟩⟩
    case round =>
      obtain ⟨k, hk, rfl, HN, HB⟩ := hrel
      by_cases hlt : k < a.length
      · have g1 : decide (k < a.length) = true := decide_eq_true hlt
        have i1 : (k : Int) < a.length := by omega
        have hltb : k < b.length := by have := HLN.out; omega
        have i2 : (k : Int) < b.length := by omega
        obtain ⟨ada, A6, c6, rfl, a0_, a1_, a2_, a3_, a4_, a5_, a6_, a7_, a8_, a9_, a10_, a11_, ja6⟩ := atRule (HA.out.below HB.out) k hlt
        obtain ⟨adb, B6, d6, rfl, b0_, b1_, b2_, b3_, b4_, b5_, b6_, b7_, b8_, b9_, b10_, b11_, jb6⟩ := atRule (HBb.out.below HB.out) k hltb
        have HSN := Aside0.mk (eqQ_snoc q zRule a b k hlt HLN.out)
        have HNO := Aside0.mk (eqQ_no q zRule a b k hlt HLN.out)
        have HQ := Aside0.mk (HQ0.out (a.getD k zRule) (by rw [List.getD_eq_getElem?_getD, List.getElem?_eq_getElem hlt]; exact List.getElem_mem hlt) (b.getD k zRule) (by rw [List.getD_eq_getElem?_getD, List.getElem?_eq_getElem hltb]; exact List.getElem_mem hltb))
        generalize a.getD k zRule = x at a0_ a1_ a2_ a3_ a4_ a5_ a6_ a7_ a8_ a9_ a10_ a11_ ja6 HSN HNO HQ
        generalize b.getD k zRule = y at b0_ b1_ b2_ b3_ b4_ b5_ b6_ b7_ b8_ b9_ b10_ b11_ jb6 HSN HNO HQ
        have HJA6 := Aside0.mk ja6
        have HJB6 := Aside0.mk jb6
        clear ja6 jb6
        have f0_ := pw_cell_below (below_alloc (Below.refl wr.heap.size wr) (.cells #[.string x.f0, .int .i64 x.f1, .int .i64 x.f2, .int .i64 x.f3.f0, .int .i64 x.f3.f1, .int .i64 x.f3.f2, .slice A6 x.f3.f3.length c6, .int .i64 x.f4, .int .i64 x.f5, .int .i64 x.f6, .int .i64 x.f7, .int .i64 x.f8] 85)) b0_
        have f1_ := pw_cell_below (below_alloc (Below.refl wr.heap.size wr) (.cells #[.string x.f0, .int .i64 x.f1, .int .i64 x.f2, .int .i64 x.f3.f0, .int .i64 x.f3.f1, .int .i64 x.f3.f2, .slice A6 x.f3.f3.length c6, .int .i64 x.f4, .int .i64 x.f5, .int .i64 x.f6, .int .i64 x.f7, .int .i64 x.f8] 85)) b1_
        have f2_ := pw_cell_below (below_alloc (Below.refl wr.heap.size wr) (.cells #[.string x.f0, .int .i64 x.f1, .int .i64 x.f2, .int .i64 x.f3.f0, .int .i64 x.f3.f1, .int .i64 x.f3.f2, .slice A6 x.f3.f3.length c6, .int .i64 x.f4, .int .i64 x.f5, .int .i64 x.f6, .int .i64 x.f7, .int .i64 x.f8] 85)) b2_
        have f3_ := pw_cell_below (below_alloc (Below.refl wr.heap.size wr) (.cells #[.string x.f0, .int .i64 x.f1, .int .i64 x.f2, .int .i64 x.f3.f0, .int .i64 x.f3.f1, .int .i64 x.f3.f2, .slice A6 x.f3.f3.length c6, .int .i64 x.f4, .int .i64 x.f5, .int .i64 x.f6, .int .i64 x.f7, .int .i64 x.f8] 85)) b3_
        have f4_ := pw_cell_below (below_alloc (Below.refl wr.heap.size wr) (.cells #[.string x.f0, .int .i64 x.f1, .int .i64 x.f2, .int .i64 x.f3.f0, .int .i64 x.f3.f1, .int .i64 x.f3.f2, .slice A6 x.f3.f3.length c6, .int .i64 x.f4, .int .i64 x.f5, .int .i64 x.f6, .int .i64 x.f7, .int .i64 x.f8] 85)) b4_
        have f5_ := pw_cell_below (below_alloc (Below.refl wr.heap.size wr) (.cells #[.string x.f0, .int .i64 x.f1, .int .i64 x.f2, .int .i64 x.f3.f0, .int .i64 x.f3.f1, .int .i64 x.f3.f2, .slice A6 x.f3.f3.length c6, .int .i64 x.f4, .int .i64 x.f5, .int .i64 x.f6, .int .i64 x.f7, .int .i64 x.f8] 85)) b5_
        have f6_ := pw_cell_below (below_alloc (Below.refl wr.heap.size wr) (.cells #[.string x.f0, .int .i64 x.f1, .int .i64 x.f2, .int .i64 x.f3.f0, .int .i64 x.f3.f1, .int .i64 x.f3.f2, .slice A6 x.f3.f3.length c6, .int .i64 x.f4, .int .i64 x.f5, .int .i64 x.f6, .int .i64 x.f7, .int .i64 x.f8] 85)) b6_
        have f7_ := pw_cell_below (below_alloc (Below.refl wr.heap.size wr) (.cells #[.string x.f0, .int .i64 x.f1, .int .i64 x.f2, .int .i64 x.f3.f0, .int .i64 x.f3.f1, .int .i64 x.f3.f2, .slice A6 x.f3.f3.length c6, .int .i64 x.f4, .int .i64 x.f5, .int .i64 x.f6, .int .i64 x.f7, .int .i64 x.f8] 85)) b7_
        have f8_ := pw_cell_below (below_alloc (Below.refl wr.heap.size wr) (.cells #[.string x.f0, .int .i64 x.f1, .int .i64 x.f2, .int .i64 x.f3.f0, .int .i64 x.f3.f1, .int .i64 x.f3.f2, .slice A6 x.f3.f3.length c6, .int .i64 x.f4, .int .i64 x.f5, .int .i64 x.f6, .int .i64 x.f7, .int .i64 x.f8] 85)) b8_
        have f9_ := pw_cell_below (below_alloc (Below.refl wr.heap.size wr) (.cells #[.string x.f0, .int .i64 x.f1, .int .i64 x.f2, .int .i64 x.f3.f0, .int .i64 x.f3.f1, .int .i64 x.f3.f2, .slice A6 x.f3.f3.length c6, .int .i64 x.f4, .int .i64 x.f5, .int .i64 x.f6, .int .i64 x.f7, .int .i64 x.f8] 85)) b9_
        have f10_ := pw_cell_below (below_alloc (Below.refl wr.heap.size wr) (.cells #[.string x.f0, .int .i64 x.f1, .int .i64 x.f2, .int .i64 x.f3.f0, .int .i64 x.f3.f1, .int .i64 x.f3.f2, .slice A6 x.f3.f3.length c6, .int .i64 x.f4, .int .i64 x.f5, .int .i64 x.f6, .int .i64 x.f7, .int .i64 x.f8] 85)) b10_
        have f11_ := pw_cell_below (below_alloc (Below.refl wr.heap.size wr) (.cells #[.string x.f0, .int .i64 x.f1, .int .i64 x.f2, .int .i64 x.f3.f0, .int .i64 x.f3.f1, .int .i64 x.f3.f2, .slice A6 x.f3.f3.length c6, .int .i64 x.f4, .int .i64 x.f5, .int .i64 x.f6, .int .i64 x.f7, .int .i64 x.f8] 85)) b11_
        have HBX := Aside0.mk (below_alloc (below_alloc (Below.refl wr.heap.size wr) (.cells #[.string x.f0, .int .i64 x.f1, .int .i64 x.f2, .int .i64 x.f3.f0, .int .i64 x.f3.f1, .int .i64 x.f3.f2, .slice A6 x.f3.f3.length c6, .int .i64 x.f4, .int .i64 x.f5, .int .i64 x.f6, .int .i64 x.f7, .int .i64 x.f8] 85)) (.cells #[.string y.f0, .int .i64 y.f1, .int .i64 y.f2, .int .i64 y.f3.f0, .int .i64 y.f3.f1, .int .i64 y.f3.f2, .slice B6 y.f3.f3.length d6, .int .i64 y.f4, .int .i64 y.f5, .int .i64 y.f6, .int .i64 y.f7, .int .i64 y.f8] 85))
        cases hd : q x y with
        | true =>
          have HE2 : Aside0 (eqQ q (a.take (k + 1)) (b.take (k + 1)) = true) := ⟨by rw [HSN.out, HN.out, hd]; rfl⟩
          have HD := Aside0.mk hd
          clear hd
          go_wp2_with (go_at_call 47; refine (HQ.out A6 c6 B6 d6 _ (HJA6.out.below HBX.out) (HJB6.out.below HBX.out)).mono ?_; rintro e w2 ⟨rfl, hb2⟩; rw [HD.out]; have HB2 := Aside0.mk (below_then HB.out HB.out.size (below_then HBX.out HBX.out.size hb2)); clear hb2)
          go_roundw
          case rel => exact ⟨k + 1, by omega, by go_num, HE2, HB2⟩
          case measure => simp [intOf]; omega
        | false =>
          have HE2 : Aside0 (eqQ q a b = false) := ⟨HNO.out hd⟩
          have HD := Aside0.mk hd
          clear hd
          go_wp2_with (go_at_call 47; refine (HQ.out A6 c6 B6 d6 _ (HJA6.out.below HBX.out) (HJB6.out.below HBX.out)).mono ?_; rintro e w2 ⟨rfl, hb2⟩; rw [HD.out]; have HB2 := Aside0.mk (below_then HB.out HB.out.size (below_then HBX.out HBX.out.size hb2)); clear hb2)
          go_ret
          exact ⟨ret_bool HE2.out.symm, HB2.out⟩
      · have hke : k = a.length := by omega
        subst hke
        have g1 : decide (a.length < a.length) = false := decide_eq_false (by omega)
        have HE2 : Aside0 (eqQ q a b = true) := ⟨by have h := HN.out; rwa [List.take_length, HLN.out, List.take_length] at h⟩
        go_wp2
        go_ret
        exact ⟨ret_bool HE2.out.symm, HB.out⟩
  · have n0 : ((a.length : Int) != (b.length : Int)) = true := by simp; omega
    have HE2 : Aside0 (eqQ q a b = false) := ⟨eqQ_len q a b hl⟩
    clear hl
    go_enter Try.func46, Try.ntmps46
    go_wp2
    go_ret
    exact ⟨ret_bool HE2.out.symm, Below.refl _ _⟩
end Go.Proofs.Ytbbdkhffacoglaa.Ke
