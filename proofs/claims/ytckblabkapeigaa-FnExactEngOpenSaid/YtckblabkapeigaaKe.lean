
/- Are two lists one, member by member: slices.EqualFunc at each struct type. Printed by genTy.py. -/
import Derived.Test.YtckblabkapeigaaKa
import Derived.Test.YtckblabkapeigaaJd
set_option linter.unusedVariables false
set_option linter.unusedSimpArgs false
namespace Go.Proofs.Ytckblabkapeigaa.Ke
open Go.RowKit Go.Proofs.YtckblabkapeigaaW.PrintWords Go.Proofs.Ytckblabkapeigaa.Ja Go.Proofs.Ytckblabkapeigaa.Jb Go.Proofs.Ytckblabkapeigaa.Jc Go.Proofs.Ytckblabkapeigaa.Jd Go.Proofs.Ytckblabkapeigaa.Ka
def eqQ {α : Type} (q : α → α → Bool) : List α → List α → Bool
  | [], [] => true
  | x :: xs, y :: ys => q x y && eqQ q xs ys
  | _, _ => false
theorem eqQ_len {α : Type} (q : α → α → Bool) : ∀ (a b : List α), ¬ a.length = b.length → eqQ q a b = false
  | [], [], h => absurd rfl h
  | [], _ :: _, _ => rfl
  | _ :: _, [], _ => rfl
  | x :: xs, y :: ys, h => by rw [eqQ, eqQ_len q xs ys (fun e => h (by simp [e])), Bool.and_false]
theorem eqQ_snoc {α : Type} (q : α → α → Bool) (z : α) : ∀ (a b : List α) (k : Nat), k < a.length → a.length = b.length → eqQ q (a.take (k + 1)) (b.take (k + 1)) = (eqQ q (a.take k) (b.take k) && q (a.getD k z) (b.getD k z))
  | [], _, k, h, _ => by simp at h
  | x :: xs, [], k, h, e => by simp at e
  | x :: xs, y :: ys, 0, h, e => by simp [eqQ]
  | x :: xs, y :: ys, k + 1, h, e => by
    have ih := eqQ_snoc q z xs ys k (by simpa using h) (by simpa using e)
    rw [List.take_succ_cons, List.take_succ_cons, List.take_succ_cons, List.take_succ_cons, eqQ, eqQ, ih, List.getD_cons_succ, List.getD_cons_succ, Bool.and_assoc]
theorem eqQ_no {α : Type} (q : α → α → Bool) (z : α) : ∀ (a b : List α) (k : Nat), k < a.length → a.length = b.length → q (a.getD k z) (b.getD k z) = false → eqQ q a b = false
  | [], _, k, h, _, _ => by simp at h
  | x :: xs, [], k, h, e, _ => by simp at e
  | x :: xs, y :: ys, 0, h, e, hq => by rw [eqQ]; have h2 : q x y = false := hq; rw [h2, Bool.false_and]
  | x :: xs, y :: ys, k + 1, h, e, hq => by rw [eqQ, eqQ_no q z xs ys k (by simpa using h) (by simpa using e) (by simpa using hq), Bool.and_false]
theorem atEx {t : Nat} {w : World} {A : Option Addr} {c : Nat} {xs : List Ex} (h : IsS (kE t) w xs A c) (k : Nat) (hk : k < xs.length) :
    ∃ ad A3 c3, A = some ad ∧ w.cell? (ad.add (k * 4)) = some (.int .i64 (xs.getD k zE).f0) ∧ w.cell? ⟨(ad.add (k * 4)).block, (ad.add (k * 4)).off + 1, none⟩ = some (.int .i64 (xs.getD k zE).f1) ∧ w.cell? ⟨(ad.add (k * 4)).block, (ad.add (k * 4)).off + 2, none⟩ = some (.int .i64 (xs.getD k zE).f2) ∧
      w.cell? ⟨(ad.add (k * 4)).block, (ad.add (k * 4)).off + 3, none⟩ = some (.slice A3 (xs.getD k zE).f3.length c3) ∧ IsS (kE t) w (xs.getD k zE).f3 A3 c3 := atE h k hk
abbrev zEx : Ex := zE
end Go.Proofs.Ytckblabkapeigaa.Ke
