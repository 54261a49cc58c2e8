
/- Marks and sizes of lists of occurrences: plain. -/
import Derived.Test.YtccenpmaooailaaGreatNB7
import Derived.Test.YtccenpmaooailaaGreatNB6
set_option linter.unusedVariables false
set_option linter.unusedSimpArgs false
namespace Go.Proofs.YtccenpmaooailaaGreat.Ea
open Go.RowKit Go.Proofs.YtccenpmaooailaaGreatW.PrintWords Go.Proofs.YtccenpmaooailaaGreat.Wd Go.Proofs.YtccenpmaooailaaGreat.Pu Go.Proofs.YtccenpmaooailaaGreat.Pv Go.Proofs.YtccenpmaooailaaGreat.Ca Go.Proofs.YtccenpmaooailaaGreat.Cb Go.Proofs.YtccenpmaooailaaGreat.Cc Go.Proofs.YtccenpmaooailaaGreat.Cp Go.Proofs.YtccenpmaooailaaGreat.Cd Go.Proofs.YtccenpmaooailaaGreat.Ci Go.Proofs.YtccenpmaooailaaGreat.Ce Go.Proofs.YtccenpmaooailaaGreat.Cf Go.Proofs.YtccenpmaooailaaGreat.Cg Go.Proofs.YtccenpmaooailaaGreat.Sc Go.Proofs.YtccenpmaooailaaGreat.Se Go.Proofs.YtccenpmaooailaaGreat.Sh Go.Proofs.YtccenpmaooailaaGreat.Si Go.Proofs.YtccenpmaooailaaGreat.Sp Go.Proofs.YtccenpmaooailaaGreat.Ia Go.Proofs.YtccenpmaooailaaGreat.Ib Go.Proofs.YtccenpmaooailaaGreat.Ic Go.Proofs.YtccenpmaooailaaGreat.Id Go.Proofs.YtccenpmaooailaaGreat.Ie Go.Proofs.YtccenpmaooailaaGreat.If Go.Proofs.YtccenpmaooailaaGreat.Ig Go.Proofs.YtccenpmaooailaaGreat.Ih Go.Proofs.YtccenpmaooailaaGreat.Ij Go.Proofs.YtccenpmaooailaaGreat.Ik Go.Proofs.YtccenpmaooailaaGreat.Ra Go.Proofs.YtccenpmaooailaaGreat.Rb Go.Proofs.YtccenpmaooailaaGreat.Rc Go.Proofs.YtccenpmaooailaaGreat.Rd Go.Proofs.YtccenpmaooailaaGreat.Re Go.Proofs.YtccenpmaooailaaGreat.Sj Go.Proofs.YtccenpmaooailaaGreat.Ya Go.Proofs.YtccenpmaooailaaGreat.Yd Go.Proofs.YtccenpmaooailaaGreat.Yf Go.Proofs.YtccenpmaooailaaGreat.Yg Go.Proofs.YtccenpmaooailaaGreat.Ih Go.Proofs.YtccenpmaooailaaGreat.Yh Go.Proofs.YtccenpmaooailaaGreat.Yi Go.Proofs.YtccenpmaooailaaGreat.Sg Go.Proofs.YtccenpmaooailaaGreat.Sf Go.Proofs.YtccenpmaooailaaGreat.Yj Go.Proofs.YtccenpmaooailaaGreat.Ig Go.Proofs.YtccenpmaooailaaGreat.Yk Go.Proofs.YtccenpmaooailaaGreat.Ik Go.Proofs.YtccenpmaooailaaGreat.Yl Go.Proofs.YtccenpmaooailaaGreat.Ij Go.Proofs.YtccenpmaooailaaGreat.Ym Go.Proofs.YtccenpmaooailaaGreat.Il Go.Proofs.YtccenpmaooailaaGreat.Yn Go.Proofs.YtccenpmaooailaaGreat.Yo Go.Proofs.YtccenpmaooailaaGreat.In Go.Proofs.YtccenpmaooailaaGreat.Yq Go.Proofs.YtccenpmaooailaaGreat.Pw Go.Proofs.YtccenpmaooailaaGreat.Px Go.Proofs.YtccenpmaooailaaGreat.La Go.Proofs.YtccenpmaooailaaGreat.Db Go.Proofs.YtccenpmaooailaaGreat.Sh Go.Proofs.YtccenpmaooailaaGreat.Id

/-- the marks: numbers one behind the other -/
def mkI (k : Int) (n : Nat) : List Int := (List.range n).map (fun (j : Nat) => k + (j : Int))
def wtO : List Occ → Nat
  | [] => 0
  | o :: os => 2 + o.f2.length + wtO os
def mk1 (k : Int) (o : Occ) : Occ := ⟨k, k + 1, mkI (k + 1 + 1) o.f2.length⟩
def mkO (k : Int) : List Occ → List Occ
  | [] => []
  | o :: os => mk1 k o :: mkO (k + ((2 + o.f2.length : Nat) : Int)) os
theorem mkI_length (k : Int) (n : Nat) : (mkI k n).length = n := by simp [mkI]
theorem mkI_snoc (k : Int) (n : Nat) : mkI k n ++ [k + (n : Int)] = mkI k (n + 1) := by simp [mkI, List.range_succ]
theorem mkI_getD (k : Int) (n i : Nat) (h : i < n) : (mkI k n).getD i 0 = k + (i : Int) := by simp [mkI, List.getD_eq_getElem?_getD, h]
theorem mkO_length : ∀ (k : Int) (l : List Occ), (mkO k l).length = l.length
  | _, [] => rfl
  | k, o :: os => by simp [mkO, mkO_length _ os]
theorem wtO_append : ∀ (l m : List Occ), wtO (l ++ m) = wtO l + wtO m
  | [], m => by simp [wtO]
  | o :: os, m => by simp only [List.cons_append, wtO, wtO_append os m]; omega
theorem mkO_append : ∀ (k : Int) (l m : List Occ), mkO k (l ++ m) = mkO k l ++ mkO (k + (wtO l : Int)) m
  | k, [], m => by simp [mkO, wtO]
  | k, o :: os, m => by
    simp only [List.cons_append, mkO, wtO, mkO_append _ os m]
    have : k + ((2 + o.f2.length : Nat) : Int) + (wtO os : Int) = k + ((2 + o.f2.length + wtO os : Nat) : Int) := by omega
    rw [this]
theorem mkO_one (k : Int) (o : Occ) : mkO k [o] = [mk1 k o] := rfl
theorem take_snoc {α : Type} (l : List α) (i : Nat) (z : α) (h : i < l.length) : l.take (i + 1) = l.take i ++ [l.getD i z] := by
  rw [List.take_succ_eq_append_getElem h, List.getD_eq_getElem?_getD, List.getElem?_eq_getElem h]; rfl
theorem wtO_snoc (l : List Occ) (i : Nat) (h : i < l.length) : wtO (l.take (i + 1)) = wtO (l.take i) + (2 + (l.getD i zO).f2.length) := by
  rw [take_snoc l i zO h, wtO_append]; simp [wtO]
theorem mkO_snoc (k : Int) (l : List Occ) (i : Nat) (h : i < l.length) : mkO k (l.take (i + 1)) = mkO k (l.take i) ++ [mk1 (k + (wtO (l.take i) : Int)) (l.getD i zO)] := by
  rw [take_snoc l i zO h, mkO_append, mkO_one]
theorem wtO_take_le (l : List Occ) (i : Nat) : wtO (l.take i) ≤ wtO l := by
  have := wtO_append (l.take i) (l.drop i)
  rw [List.take_append_drop] at this
  omega
theorem mid_getD {α : Type} (pre l : List α) (i : Nat) (z : α) (hp : pre.length = i) : (pre ++ l.drop i).getD i z = l.getD i z := by
  subst hp
  simp [List.getD_eq_getElem?_getD, List.getElem?_append_right]
theorem mid_set {α : Type} (pre l : List α) (i : Nat) (y : α) (hp : pre.length = i) (h : i < l.length) : (pre ++ l.drop i).set i y = (pre ++ [y]) ++ l.drop (i + 1) := by
  subst hp
  rw [List.set_append_right _ _ (Nat.le_refl _), Nat.sub_self, List.drop_eq_getElem_cons h, List.set_cons_zero]
  simp
theorem mid_length {α : Type} (pre l : List α) (i : Nat) (hp : pre.length = i) (h : i ≤ l.length) : (pre ++ l.drop i).length = l.length := by
  simp [hp]; omega
theorem mkO_getD (k : Int) (l : List Occ) (i : Nat) (h : i < l.length) : (mkO k l).getD i zO = mk1 (k + (wtO (l.take i) : Int)) (l.getD i zO) := by
  have e : mkO k l = mkO k (l.take i) ++ (mk1 (k + (wtO (l.take i) : Int)) (l.getD i zO) :: mkO (k + (wtO (l.take (i + 1)) : Int)) (l.drop (i + 1))) := by
    have h2 := mkO_append k (l.take (i + 1)) (l.drop (i + 1))
    rw [List.take_append_drop, mkO_snoc k l i h] at h2
    rw [h2]
    simp
  have hl : (mkO k (l.take i)).length = i := by rw [mkO_length, List.length_take]; omega
  rw [e, List.getD_eq_getElem?_getD, List.getElem?_append_right (by omega), hl, Nat.sub_self]
  rfl
/-- the sizes: what is left -/
def SzOut (w w' : World) (left : Int) (l : List Occ) (e : Ending) : Prop := ∃ r, e = .returned (.int .i64 r) ∧ Below w.heap.size w w' ∧ -1 ≤ r ∧ r ≤ left ∧ (0 ≤ r → l.length ≤ left ∧ ∀ x ∈ l, x.f2.length ≤ left)
end Go.Proofs.YtccenpmaooailaaGreat.Ea
