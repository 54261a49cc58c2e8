
/- Where Go's slices.Sort and slices.Compact of whole numbers lie in this program, and what they come to on a row of one's own. -/
import Derived.Test.YtccenpmaooailaaProg
import Derived.Test.YtccenpmaooailaaWWords
import Derived.Shelf.Sort.Plain
import Derived.Shelf.Slices.In.SortNone
import Derived.Shelf.Slices.CompactI
import Derived.Lib.OwnBridge
import Derived.Lib.RowBridge
set_option linter.unusedVariables false
set_option linter.unusedSimpArgs false
namespace Go.Proofs.Ytccenpmaooailaa.Lays
open Go.Proofs Go.RowKit Go.Sort Go.Proofs.YtccenpmaooailaaW.PrintWords
def sortRen : Shelf.Ren :=
{
  f := fun x =>
    match x with
    | 189 => 119
    | 125 => 138
    | 257 => 137
    | 128 => 154
    | 129 => 155
    | 294 => 145
    | 295 => 146
    | 296 => 147
    | 297 => 148
    | 298 => 149
    | 299 => 150
    | 216 => 151
    | 300 => 152
    | 301 => 153
    | 328 => 157
    | 329 => 158
    | 330 => 159
    | 331 => 160
    | 332 => 161
    | 215 => 141
    | 343 => 163
    | n => n,
  t := fun x =>
    match x with
    | 28 => 59
    | 3 => 3
    | 46 => 132
    | 0 => 0
    | 51 => 149
    | 53 => 151
    | 4 => 4
    | 183 => 142
    | 182 => 141
    | 131 => 117
    | 5 => 5
    | 9 => 9
    | 218 => 152
    | 222 => 156
    | 228 => 159
    | 229 => 160
    | n => n,
  g := fun x =>
    x }
set_option maxRecDepth 100000 in
theorem sort : Lays.n189 Try.prog sortRen :=
{ mixed := Eq.refl true, f125 := Eq.trans Try.func138 (congrArg some (Eq.refl (Body.n125 sortRen))),
  f128 := Eq.trans Try.func154 (congrArg some (Eq.refl (Body.n128 sortRen))),
  f129 := Eq.trans Try.func155 (congrArg some (Eq.refl (Body.n129 sortRen))),
  f189 := Eq.trans Try.func119 (congrArg some (Eq.refl (Body.n189 sortRen))),
  f215 := Eq.trans Try.func141 (congrArg some (Eq.refl (Body.n215 sortRen))),
  f216 := Eq.trans Try.func151 (congrArg some (Eq.refl (Body.n216 sortRen))),
  f257 := Eq.trans Try.func137 (congrArg some (Eq.refl (Body.n257 sortRen))),
  f294 := Eq.trans Try.func145 (congrArg some (Eq.refl (Body.n294 sortRen))),
  f295 := Eq.trans Try.func146 (congrArg some (Eq.refl (Body.n295 sortRen))),
  f296 := Eq.trans Try.func147 (congrArg some (Eq.refl (Body.n296 sortRen))),
  f297 := Eq.trans Try.func148 (congrArg some (Eq.refl (Body.n297 sortRen))),
  f298 := Eq.trans Try.func149 (congrArg some (Eq.refl (Body.n298 sortRen))),
  f299 := Eq.trans Try.func150 (congrArg some (Eq.refl (Body.n299 sortRen))),
  f300 := Eq.trans Try.func152 (congrArg some (Eq.refl (Body.n300 sortRen))),
  f301 := Eq.trans Try.func153 (congrArg some (Eq.refl (Body.n301 sortRen))),
  f328 := Eq.trans Try.func157 (congrArg some (Eq.refl (Body.n328 sortRen))),
  f329 := Eq.trans Try.func158 (congrArg some (Eq.refl (Body.n329 sortRen))),
  f330 := Eq.trans Try.func159 (congrArg some (Eq.refl (Body.n330 sortRen))),
  f331 := Eq.trans Try.func160 (congrArg some (Eq.refl (Body.n331 sortRen))),
  f332 := Eq.trans Try.func161 (congrArg some (Eq.refl (Body.n332 sortRen))),
  f343 := Eq.trans Try.func163 (congrArg some (Eq.refl (Body.n343 sortRen))), t0 := Try.underlying0,
  a0 := Try.isAgg0, z0 := Try.sizeOf0, v0 := Try.zeroValue0, t3 := Try.underlying3, a3 := Try.isAgg3, z3 := Try.sizeOf3,
  v3 := Try.zeroValue3, t4 := Try.underlying4, a4 := Try.isAgg4, z4 := Try.sizeOf4, v4 := Try.zeroValue4,
  t5 := Try.underlying5, a5 := Try.isAgg5, z5 := Try.sizeOf5, v5 := Try.zeroValue5, t9 := Try.underlying9,
  a9 := Try.isAgg9, z9 := Try.sizeOf9, v9 := Try.zeroValue9, t28 := Try.underlying59, a28 := Try.isAgg59,
  z28 := Try.sizeOf59, v28 := Try.zeroValue59, t46 := Try.underlying132, a46 := Try.isAgg132, z46 := Try.sizeOf132,
  v46 := Try.zeroValue132, t51 := Try.underlying149, a51 := Try.isAgg149, z51 := Try.sizeOf149, v51 := Try.zeroValue149,
  t53 := Try.underlying151, a53 := Try.isAgg151, z53 := Try.sizeOf151, v53 := Try.zeroValue151,
  t131 := Try.underlying117, a131 := Try.isAgg117, z131 := Try.sizeOf117, v131 := Try.zeroValue117,
  t182 := Try.underlying141, a182 := Try.isAgg141, z182 := Try.sizeOf141, v182 := Try.zeroValue141,
  t183 := Try.underlying142, a183 := Try.isAgg142, z183 := Try.sizeOf142, v183 := Try.zeroValue142,
  t218 := Try.underlying152, a218 := Try.isAgg152, z218 := Try.sizeOf152, v218 := Try.zeroValue152,
  t222 := Try.underlying156, a222 := Try.isAgg156, z222 := Try.sizeOf156, v222 := Try.zeroValue156,
  t228 := Try.underlying159, a228 := Try.isAgg159, z228 := Try.sizeOf159, v228 := Try.zeroValue159,
  t229 := Try.underlying160, a229 := Try.isAgg160, z229 := Try.sizeOf160, v229 := Try.zeroValue160 }
def compRen : Shelf.Ren :=
{
  f := fun x =>
    match x with
    | 20 => 120
    | n => n,
  t := fun x =>
    match x with
    | 22 => 59
    | 3 => 3
    | 4 => 4
    | 0 => 0
    | n => n,
  g := fun x =>
    x }
set_option maxRecDepth 100000 in
theorem comp : Lays2.n20 Try.prog compRen :=
{ mixed := Eq.refl true, f20 := Eq.trans Try.func120 (congrArg some (Eq.refl (Body2.n20 compRen))),
  t0 := Try.underlying0, a0 := Try.isAgg0, z0 := Try.sizeOf0, v0 := Try.zeroValue0, t3 := Try.underlying3,
  a3 := Try.isAgg3, z3 := Try.sizeOf3, v3 := Try.zeroValue3, t4 := Try.underlying4, a4 := Try.isAgg4, z4 := Try.sizeOf4,
  v4 := Try.zeroValue4, t22 := Try.underlying59, a22 := Try.isAgg59, z22 := Try.sizeOf59, v22 := Try.zeroValue59,
  i3 := Eq.refl (some (some (Value.int IntKind.i64 0), 1, 8)) }
abbrev leb (x y : Int) : Bool := decide (x ≤ y)
theorem heap_put {w : World} {g q : Nat} {d : Array Int} {os : Array Obj} : w.grownBy (grow (putRow (Value.int .i64) (Sort.ahead w q) g 0 d) os) (some g) := by
  refine ⟨rfl, rfl, rfl, by simp [grow, putRow, mapBlock, Sort.ahead], fun k hk hne => ?_⟩
  have hkg : g ≠ k := fun e => hne (by rw [e])
  rw [heap_grow_old _ os (by simpa [putRow, mapBlock, Sort.ahead] using hk)]
  simp only [putRow, mapBlock, Sort.ahead, Array.getElem?_modify]
  rw [if_neg hkg]
theorem put_grown {w : World} {g q : Nat} {d : Array Int} : w.grownBy (putRow (Value.int .i64) (Sort.ahead w q) g 0 d) (some g) := by
  refine ⟨rfl, rfl, rfl, by simp [putRow, mapBlock, Sort.ahead], fun k hk hne => ?_⟩
  have hkg : g ≠ k := fun e => hne (by rw [e])
  simp only [putRow, mapBlock, Sort.ahead, Array.getElem?_modify]
  rw [if_neg hkg]
theorem own_grow {w : World} {base : Nat} {e : TypeId} {size n : Nat} {v : Value} {xs : List Value} (h : w.ownsRow base e size v n xs) (os : Array Obj) : (grow w os).ownsRow base e size v n xs :=
  own_move h (fun k hk => by
    have := own_lt h k hk
    simp [grow, Array.getElem?_append, this])
theorem sort_any (v : Value) (base : Nat) (ok : Nat → Prop) (xs : List Int) (w : World) (h : (Kd.int .i64).R 3 w base ok v xs) (hsz : xs.length < 4611686018427387904) :
    Calls Try.prog 119 #[v] w fun e w' => e = .returned (.tuple #[]) ∧ (Kd.int .i64).R 3 w' base ok v (xs.mergeSort leb) ∧ w.grownBy w' v.ownBlock := by
  have ho : w.ownsRow base 3 1 v xs.length (xs.map (Value.int .i64)) := Kd.own_of_R h
  by_cases hv : v = .slice none 0 0
  · subst hv
    have hx : xs = [] := by
      rcases ho.2 with ⟨_, h0⟩ | ⟨_, _, _, h0, _⟩
      · exact List.eq_nil_of_length_eq_zero h0
      · cases h0
    subst hx
    refine (Any.slices_Sort_int_none sort none 0 w).mono ?_
    rintro e w' ⟨he, hw⟩
    subst hw
    exact ⟨he, by simpa using h, World.grownBy.refl _ _⟩
  · obtain ⟨g, cap, rfl, hb, hlt, hn, hm, hl, hH⟩ := Lib.holds_of_ownsRow ho hv
    refine (Any.slices_Sort_int sort g 0 cap xs w hH hlt hsz).mono ?_
    rintro e w' ⟨he, q, os, hw⟩
    have hlen : (xs.mergeSort leb).length = xs.length := List.length_mergeSort xs
    have h1 := Lib.ownsRow_putRow (q := q) ho hlen (Nat.le_refl _)
    rw [List.take_of_length_le (by omega)] at h1
    have h2 := own_grow h1 os
    refine ⟨he, ?_, by rw [hw]; exact heap_put⟩
    rw [hw]
    exact Kd.R_of_own (by rw [hlen]; exact h2) h.1
theorem compact_any (v : Value) (base : Nat) (ok : Nat → Prop) (xs : List Int) (w : World) (h : (Kd.int .i64).R 3 w base ok v xs) (hsz : xs.length ≤ 9223372036854775807) :
    Calls Try.prog 120 #[v] w fun e w' => ∃ v', e = .returned v' ∧ (Kd.int .i64).R 3 w' base ok v' (Lib.compact xs) ∧ v'.ownBlock = v.ownBlock ∧ w.grownBy w' v.ownBlock := by
  have ho : w.ownsRow base 3 1 v xs.length (xs.map (Value.int .i64)) := Kd.own_of_R h
  by_cases hv : v = .slice none 0 0
  · subst hv
    have hx : xs = [] := by
      rcases ho.2 with ⟨_, h0⟩ | ⟨_, _, _, h0, _⟩
      · exact List.eq_nil_of_length_eq_zero h0
      · cases h0
    subst hx
    refine (Any.slices_Compact_int_empty comp none 0 w).mono ?_
    rintro e w' ⟨he, hw⟩
    subst hw
    exact ⟨_, he, h, rfl, World.grownBy.refl _ _⟩
  · obtain ⟨g, cap, rfl, hb, hlt, hn, hm, hl, hH⟩ := Lib.holds_of_ownsRow ho hv
    refine (Any.slices_Compact_int comp g 0 cap xs w hH hsz hn).mono ?_
    rintro e w' ⟨he, q, hw⟩
    have hcl : (Lib.compact xs).length ≤ xs.length := Lib.compact_length_le xs
    have h1 := Lib.ownsRow_putRow (q := q) (k := (Lib.compact xs).length) (ys := Lib.compact xs ++ List.replicate (xs.length - (Lib.compact xs).length) 0) ho (by rw [List.length_append, List.length_replicate]; omega) hcl
    rw [List.take_left'] at h1
    · refine ⟨_, he, ?_, rfl, ?_⟩
      · rw [hw]
        exact Kd.R_of_own h1 h.1
      · rw [hw]
        exact put_grown
    · rfl
end Go.Proofs.Ytccenpmaooailaa.Lays
