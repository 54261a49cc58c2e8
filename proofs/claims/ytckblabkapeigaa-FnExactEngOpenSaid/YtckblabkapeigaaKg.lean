
/- The order of occurrences, and the program's compare. Out of this proof's own texts. -/
import Derived.Test.YtckblabkapeigaaKe
set_option linter.unusedVariables false
set_option linter.unusedSimpArgs false
namespace Go.Proofs.Ytckblabkapeigaa.Kg
open Go.RowKit Go.Proofs.YtckblabkapeigaaW.PrintWords Go.Proofs.Ytckblabkapeigaa.Ja Go.Proofs.Ytckblabkapeigaa.Jb Go.Proofs.Ytckblabkapeigaa.Jc Go.Proofs.Ytckblabkapeigaa.Jd Go.Proofs.Ytckblabkapeigaa.Ka Go.Proofs.Ytckblabkapeigaa.Ke
abbrev Occ := TOcc
abbrev IsO (w : World) (x : Occ) (A : Option Addr) (c : Nat) : Prop := IsS (Kd.int .i64) w x.f2 A c
theorem box3 (w : World) (u0 u1 u2 : Value) (t : TypeId) : Below w.heap.size w (w.alloc (.cells #[u0, u1, u2] t)) ∧ (w.alloc (.cells #[u0, u1, u2] t)).cell? ⟨w.heap.size, 0, none⟩ = some u0 ∧
    (w.alloc (.cells #[u0, u1, u2] t)).cell? ⟨w.heap.size, 1, none⟩ = some u1 ∧ (w.alloc (.cells #[u0, u1, u2] t)).cell? ⟨w.heap.size, 2, none⟩ = some u2 := ⟨below_alloc (Below.refl _ _) _, by simp, by simp, by simp⟩
def cmpIds : List Int → List Int → Int
  | [], [] => 0
  | [], _ :: _ => -1
  | _ :: _, [] => 1
  | a :: as'', b :: bs => if a < b then -1 else if b < a then 1 else cmpIds as'' bs
theorem cmpIds_swap : ∀ a b, cmpIds b a = -(cmpIds a b)
  | [], [] => rfl
  | [], _ :: _ => rfl
  | _ :: _, [] => rfl
  | a :: as'', b :: bs => by
    simp only [cmpIds]
    have := cmpIds_swap as'' bs
    split <;> split <;> (first | omega | skip) <;> split <;> omega
theorem cmpIds_eq : ∀ a b, cmpIds a b = 0 ↔ a = b
  | [], [] => by simp [cmpIds]
  | [], _ :: _ => by simp [cmpIds]
  | _ :: _, [] => by simp [cmpIds]
  | a :: as'', b :: bs => by
    simp only [cmpIds, List.cons.injEq]
    have := cmpIds_eq as'' bs
    by_cases h1 : a < b
    · simp [h1]; omega
    · by_cases h2 : b < a
      · simp [h1, h2]; omega
      · simp only [h1, h2, if_false, this]
        constructor
        · intro h; exact ⟨by omega, h⟩
        · intro h; exact h.2
def cmpO (x y : Occ) : Int := if x.f1 = y.f1 then (if x.f0 = y.f0 then cmpIds x.f2 y.f2 else if x.f0 < y.f0 then -1 else 1) else if x.f1 < y.f1 then -1 else 1
theorem cmpO_swap (x y : Occ) : cmpO y x = -(cmpO x y) := by
  unfold cmpO
  have := cmpIds_swap x.f2 y.f2
  by_cases h : x.f1 = y.f1
  · rw [if_pos h, if_pos h.symm]
    by_cases g : x.f0 = y.f0
    · rw [if_pos g, if_pos g.symm]; exact this
    · rw [if_neg g, if_neg (fun e => g e.symm)]
      split <;> split <;> omega
  · rw [if_neg h, if_neg (fun e => h e.symm)]
    split <;> split <;> omega
theorem cmpO_eq (x y : Occ) : cmpO x y = 0 ↔ x = y := by
  obtain ⟨a, b, c⟩ := x
  obtain ⟨d, e, g⟩ := y
  unfold cmpO
  simp only [Ka.TOcc.mk.injEq]
  have := cmpIds_eq c g
  by_cases h : b = e
  · by_cases k : a = d
    · simp [h, k, this]
    · simp only [h, k, if_true, if_false]
      constructor
      · intro q; split at q <;> omega
      · intro q; exact absurd q.1 (by simp)
  · simp only [h, if_false]
    constructor
    · intro q; split at q <;> omega
    · intro q; exact absurd q.2.1 (by simp)
def cmpI (x y : Int) : Int := if x < y then -1 else if y < x then 1 else 0
theorem cmpIds_at (a b : List Int) (k : Nat) (ha : k < a.length) (hb : k < b.length) : cmpIds (a.drop k) (b.drop k) = if cmpI (a.getD k 0) (b.getD k 0) = 0 then cmpIds (a.drop (k + 1)) (b.drop (k + 1)) else cmpI (a.getD k 0) (b.getD k 0) := by
  rw [drop_at a 0 k ha, drop_at b 0 k hb, cmpIds]
  unfold cmpI
  split
  · simp
  · split <;> simp

def sgn (b : Bool) : Int := if b = true then -1 else 1
end Go.Proofs.Ytckblabkapeigaa.Kg
