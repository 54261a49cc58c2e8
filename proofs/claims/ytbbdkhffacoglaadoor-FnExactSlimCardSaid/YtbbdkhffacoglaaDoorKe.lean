
/- Are two lists one, member by member: slices.EqualFunc at each struct type. Printed by genTy.py. -/
import Derived.Test.YtbbdkhffacoglaaDoorKa
import Derived.Test.YtbbdkhffacoglaaDoorJd
set_option linter.unusedVariables false
set_option linter.unusedSimpArgs false
namespace Go.Proofs.YtbbdkhffacoglaaDoor.Ke
open Go.RowKit Go.Proofs.YtbbdkhffacoglaaDoorW.PrintWords Go.Proofs.YtbbdkhffacoglaaDoor.Ja Go.Proofs.YtbbdkhffacoglaaDoor.Jb Go.Proofs.YtbbdkhffacoglaaDoor.Jc Go.Proofs.YtbbdkhffacoglaaDoor.Jd Go.Proofs.YtbbdkhffacoglaaDoor.Ka
def eqQ {α : Type} (q : α → α → Bool) : List α → List α → Bool
  | [], [] => true
  | x :: xs, y :: ys => q x y && eqQ q xs ys
  | _, _ => false
theorem eqQ_len {α : Type} (q : α → α → Bool) : ∀ (a b : List α), ¬ a.length = b.length → eqQ q a b = false
  | [], [], h => absurd rfl h
  | [], _ :: _, _ => rfl
  | _ :: _, [], _ => rfl
  | x :: xs, y :: ys, h => by rw [eqQ, eqQ_len q xs ys (fun e => h (by simp [e])), Bool.and_false]
theorem eqQ_snoc {α : Type} (q : α → α → Bool) (z : α) : ∀ (a b : List α) (k : Nat), k < a.length → a.length = b.length → eqQ q (a.take (k + 1)) (b.take (k + 1)) = (eqQ q (a.take k) (b.take k) && q (a.getD k z) (b.getD k z))
  | [], _, k, h, _ => by simp at h
  | x :: xs, [], k, h, e => by simp at e
  | x :: xs, y :: ys, 0, h, e => by simp [eqQ]
  | x :: xs, y :: ys, k + 1, h, e => by
    have ih := eqQ_snoc q z xs ys k (by simpa using h) (by simpa using e)
    rw [List.take_succ_cons, List.take_succ_cons, List.take_succ_cons, List.take_succ_cons, eqQ, eqQ, ih, List.getD_cons_succ, List.getD_cons_succ, Bool.and_assoc]
theorem eqQ_no {α : Type} (q : α → α → Bool) (z : α) : ∀ (a b : List α) (k : Nat), k < a.length → a.length = b.length → q (a.getD k z) (b.getD k z) = false → eqQ q a b = false
  | [], _, k, h, _, _ => by simp at h
  | x :: xs, [], k, h, e, _ => by simp at e
  | x :: xs, y :: ys, 0, h, e, hq => by rw [eqQ]; have h2 : q x y = false := hq; rw [h2, Bool.false_and]
  | x :: xs, y :: ys, k + 1, h, e, hq => by rw [eqQ, eqQ_no q z xs ys k (by simpa using h) (by simpa using e) (by simpa using hq), Bool.and_false]
theorem atEx {t : Nat} {w : World} {A : Option Addr} {c : Nat} {xs : List Ex} (h : IsS (kE t) w xs A c) (k : Nat) (hk : k < xs.length) :
    ∃ ad A3 c3, A = some ad ∧ w.cell? (ad.add (k * 4)) = some (.int .i64 (xs.getD k zE).f0) ∧ w.cell? ⟨(ad.add (k * 4)).block, (ad.add (k * 4)).off + 1, none⟩ = some (.int .i64 (xs.getD k zE).f1) ∧ w.cell? ⟨(ad.add (k * 4)).block, (ad.add (k * 4)).off + 2, none⟩ = some (.int .i64 (xs.getD k zE).f2) ∧
      w.cell? ⟨(ad.add (k * 4)).block, (ad.add (k * 4)).off + 3, none⟩ = some (.slice A3 (xs.getD k zE).f3.length c3) ∧ IsS (kE t) w (xs.getD k zE).f3 A3 c3 := atE h k hk
abbrev zEx : Ex := zE
abbrev QCallEx (q : Ex → Ex → Bool) (x y : Ex) : Prop := ∀ A3 c3 B3 d3 w, IsS (kE 29) w x.f3 A3 c3 → IsS (kE 29) w y.f3 B3 d3 → Calls Tryd.prog 68 #[.agg #[.int .i64 x.f0, .int .i64 x.f1, .int .i64 x.f2, .slice A3 x.f3.length c3], .agg #[.int .i64 y.f0, .int .i64 y.f1, .int .i64 y.f2, .slice B3 y.f3.length d3]] w fun e w' => e = .returned (.bool (q x y)) ∧ Below w.heap.size w w'
set_option maxHeartbeats 4000000 in
set_option maxRecDepth 100000 in
theorem equalFEx_of (q : Ex → Ex → Bool) (A B : Option Addr) (c d : Nat) (a b : List Ex) (w : World) (ha : IsS (kE 29) w a A c) (hb : IsS (kE 29) w b B d) (hq : ∀ x, x ∈ a → ∀ y, y ∈ b → QCallEx q x y) :
    Calls Tryd.prog 97 #[.slice A a.length c, .slice B b.length d, .func (.func 68) #[] #[]] w fun e w' => e = .returned (.bool (eqQ q a b)) ∧ Below w.heap.size w w' := by
  have hna := ha.len
  have hnb := hb.len
  have HA := Aside0.mk ha
  have HBb := Aside0.mk hb
  have HQ0 := Aside0.mk hq
  clear ha hb hq
  by_cases hl : a.length = b.length
  · have n0 : ((a.length : Int) != (b.length : Int)) = false := by simp [hl]
    go_enter Tryd.func97, Tryd.ntmps97
    have HLN := Aside0.mk hl
    clear hl
    go_wp2
    go_loopw [17] (fun vi wr => ∃ (k : Nat), k ≤ a.length ∧ vi = .int .i64 k ∧ Aside0 (eqQ q (a.take k) (b.take k) = true) ∧ Aside0 (Below w.heap.size w wr)) (fun vi _ => a.length - (intOf vi).toNat)
    case atStart => exact ⟨0, Nat.zero_le _, rfl, ⟨by simp [eqQ]⟩, ⟨Below.refl _ _⟩⟩
    case round =>
      obtain ⟨k, hk, rfl, HN, HB⟩ := hrel
      by_cases hlt : k < a.length
      · have g1 : decide (k < a.length) = true := decide_eq_true hlt
        have i1 : (k : Int) < a.length := by omega
        have hltb : k < b.length := by have := HLN.out; omega
        have i2 : (k : Int) < b.length := by omega
        obtain ⟨ada, A3, c3, rfl, a0_, a1_, a2_, a3_, ja3⟩ := atEx (HA.out.below HB.out) k hlt
        obtain ⟨adb, B3, d3, rfl, b0_, b1_, b2_, b3_, jb3⟩ := atEx (HBb.out.below HB.out) k hltb
        have HSN := Aside0.mk (eqQ_snoc q zEx a b k hlt HLN.out)
        have HNO := Aside0.mk (eqQ_no q zEx a b k hlt HLN.out)
        have HQ := Aside0.mk (HQ0.out (a.getD k zEx) (by rw [List.getD_eq_getElem?_getD, List.getElem?_eq_getElem hlt]; exact List.getElem_mem hlt) (b.getD k zEx) (by rw [List.getD_eq_getElem?_getD, List.getElem?_eq_getElem hltb]; exact List.getElem_mem hltb))
        generalize a.getD k zEx = x at a0_ a1_ a2_ a3_ ja3 HSN HNO HQ
        generalize b.getD k zEx = y at b0_ b1_ b2_ b3_ jb3 HSN HNO HQ
        have HJA3 := Aside0.mk ja3
        have HJB3 := Aside0.mk jb3
        clear ja3 jb3
        have f0_ := pw_cell_below (below_alloc (Below.refl wr.heap.size wr) (.cells #[.int .i64 x.f0, .int .i64 x.f1, .int .i64 x.f2, .slice A3 x.f3.length c3] 29)) b0_
        have f1_ := pw_cell_below (below_alloc (Below.refl wr.heap.size wr) (.cells #[.int .i64 x.f0, .int .i64 x.f1, .int .i64 x.f2, .slice A3 x.f3.length c3] 29)) b1_
        have f2_ := pw_cell_below (below_alloc (Below.refl wr.heap.size wr) (.cells #[.int .i64 x.f0, .int .i64 x.f1, .int .i64 x.f2, .slice A3 x.f3.length c3] 29)) b2_
        have f3_ := pw_cell_below (below_alloc (Below.refl wr.heap.size wr) (.cells #[.int .i64 x.f0, .int .i64 x.f1, .int .i64 x.f2, .slice A3 x.f3.length c3] 29)) b3_
        have HBX := Aside0.mk (below_alloc (below_alloc (Below.refl wr.heap.size wr) (.cells #[.int .i64 x.f0, .int .i64 x.f1, .int .i64 x.f2, .slice A3 x.f3.length c3] 29)) (.cells #[.int .i64 y.f0, .int .i64 y.f1, .int .i64 y.f2, .slice B3 y.f3.length d3] 29))
        cases hd : q x y with
        | true =>
          have HE2 : Aside0 (eqQ q (a.take (k + 1)) (b.take (k + 1)) = true) := ⟨by rw [HSN.out, HN.out, hd]; rfl⟩
          have HD := Aside0.mk hd
          clear hd
          go_wp2_with (go_at_call 68; refine (HQ.out A3 c3 B3 d3 _ (HJA3.out.below HBX.out) (HJB3.out.below HBX.out)).mono ?_; rintro e w2 ⟨rfl, hb2⟩; rw [HD.out]; have HB2 := Aside0.mk (below_then HB.out HB.out.size (below_then HBX.out HBX.out.size hb2)); clear hb2)
          go_roundw
          case rel => exact ⟨k + 1, by omega, by go_num, HE2, HB2⟩
          case measure => simp [intOf]; omega
        | false =>
          have HE2 : Aside0 (eqQ q a b = false) := ⟨HNO.out hd⟩
          have HD := Aside0.mk hd
          clear hd
          go_wp2_with (go_at_call 68; refine (HQ.out A3 c3 B3 d3 _ (HJA3.out.below HBX.out) (HJB3.out.below HBX.out)).mono ?_; rintro e w2 ⟨rfl, hb2⟩; rw [HD.out]; have HB2 := Aside0.mk (below_then HB.out HB.out.size (below_then HBX.out HBX.out.size hb2)); clear hb2)
          go_ret
          exact ⟨ret_bool HE2.out.symm, HB2.out⟩
      · have hke : k = a.length := by omega
        subst hke
        have g1 : decide (a.length < a.length) = false := decide_eq_false (by omega)
        have HE2 : Aside0 (eqQ q a b = true) := ⟨by have h := HN.out; rwa [List.take_length, HLN.out, List.take_length] at h⟩
        go_wp2
        go_ret
        exact ⟨ret_bool HE2.out.symm, HB.out⟩
  · have n0 : ((a.length : Int) != (b.length : Int)) = true := by simp; omega
    have HE2 : Aside0 (eqQ q a b = false) := ⟨eqQ_len q a b hl⟩
    clear hl
    go_enter Tryd.func97, Tryd.ntmps97
    go_wp2
    go_ret
    exact ⟨ret_bool HE2.out.symm, Below.refl _ _⟩
end Go.Proofs.YtbbdkhffacoglaaDoor.Ke
