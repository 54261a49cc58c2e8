
/- Where Go's slices.Sort and slices.Compact of whole numbers lie in this program, and what they come to on a row of one's own. -/
import Derived.Test.YtccenpmaooailaaGreatProg
import Derived.Test.YtccenpmaooailaaGreatWWords
import Derived.Shelf.Sort.Plain
import Derived.Shelf.Slices.In.SortNone
import Derived.Shelf.Slices.CompactI
import Derived.Lib.OwnBridge
import Derived.Lib.RowBridge
set_option linter.unusedVariables false
set_option linter.unusedSimpArgs false
namespace Go.Proofs.YtccenpmaooailaaGreat.Lays
open Go.Proofs Go.RowKit Go.Sort Go.Proofs.YtccenpmaooailaaGreatW.PrintWords
def sortRen : Shelf.Ren :=
{
  f := fun x =>
    match x with
    | 189 => 107
    | 125 => 127
    | 257 => 126
    | 128 => 143
    | 129 => 144
    | 294 => 134
    | 295 => 135
    | 296 => 136
    | 297 => 137
    | 298 => 138
    | 299 => 139
    | 216 => 140
    | 300 => 141
    | 301 => 142
    | 328 => 146
    | 329 => 147
    | 330 => 148
    | 331 => 149
    | 332 => 150
    | 215 => 132
    | 343 => 151
    | n => n,
  t := fun x =>
    match x with
    | 28 => 41
    | 3 => 3
    | 46 => 120
    | 0 => 0
    | 51 => 138
    | 53 => 140
    | 4 => 4
    | 183 => 131
    | 182 => 130
    | 131 => 107
    | 5 => 5
    | 9 => 9
    | 218 => 142
    | 222 => 146
    | 228 => 148
    | 229 => 149
    | n => n,
  g := fun x =>
    x }
set_option maxRecDepth 100000 in
theorem sort : Lays.n189 Tryz.prog sortRen :=
{ mixed := Eq.refl true, f125 := Eq.trans Tryz.func127 (congrArg some (Eq.refl (Body.n125 sortRen))),
  f128 := Eq.trans Tryz.func143 (congrArg some (Eq.refl (Body.n128 sortRen))),
  f129 := Eq.trans Tryz.func144 (congrArg some (Eq.refl (Body.n129 sortRen))),
  f189 := Eq.trans Tryz.func107 (congrArg some (Eq.refl (Body.n189 sortRen))),
  f215 := Eq.trans Tryz.func132 (congrArg some (Eq.refl (Body.n215 sortRen))),
  f216 := Eq.trans Tryz.func140 (congrArg some (Eq.refl (Body.n216 sortRen))),
  f257 := Eq.trans Tryz.func126 (congrArg some (Eq.refl (Body.n257 sortRen))),
  f294 := Eq.trans Tryz.func134 (congrArg some (Eq.refl (Body.n294 sortRen))),
  f295 := Eq.trans Tryz.func135 (congrArg some (Eq.refl (Body.n295 sortRen))),
  f296 := Eq.trans Tryz.func136 (congrArg some (Eq.refl (Body.n296 sortRen))),
  f297 := Eq.trans Tryz.func137 (congrArg some (Eq.refl (Body.n297 sortRen))),
  f298 := Eq.trans Tryz.func138 (congrArg some (Eq.refl (Body.n298 sortRen))),
  f299 := Eq.trans Tryz.func139 (congrArg some (Eq.refl (Body.n299 sortRen))),
  f300 := Eq.trans Tryz.func141 (congrArg some (Eq.refl (Body.n300 sortRen))),
  f301 := Eq.trans Tryz.func142 (congrArg some (Eq.refl (Body.n301 sortRen))),
  f328 := Eq.trans Tryz.func146 (congrArg some (Eq.refl (Body.n328 sortRen))),
  f329 := Eq.trans Tryz.func147 (congrArg some (Eq.refl (Body.n329 sortRen))),
  f330 := Eq.trans Tryz.func148 (congrArg some (Eq.refl (Body.n330 sortRen))),
  f331 := Eq.trans Tryz.func149 (congrArg some (Eq.refl (Body.n331 sortRen))),
  f332 := Eq.trans Tryz.func150 (congrArg some (Eq.refl (Body.n332 sortRen))),
  f343 := Eq.trans Tryz.func151 (congrArg some (Eq.refl (Body.n343 sortRen))), t0 := Tryz.underlying0,
  a0 := Tryz.isAgg0, z0 := Tryz.sizeOf0, v0 := Tryz.zeroValue0, t3 := Tryz.underlying3, a3 := Tryz.isAgg3,
  z3 := Tryz.sizeOf3, v3 := Tryz.zeroValue3, t4 := Tryz.underlying4, a4 := Tryz.isAgg4, z4 := Tryz.sizeOf4,
  v4 := Tryz.zeroValue4, t5 := Tryz.underlying5, a5 := Tryz.isAgg5, z5 := Tryz.sizeOf5, v5 := Tryz.zeroValue5,
  t9 := Tryz.underlying9, a9 := Tryz.isAgg9, z9 := Tryz.sizeOf9, v9 := Tryz.zeroValue9, t28 := Tryz.underlying41,
  a28 := Tryz.isAgg41, z28 := Tryz.sizeOf41, v28 := Tryz.zeroValue41, t46 := Tryz.underlying120, a46 := Tryz.isAgg120,
  z46 := Tryz.sizeOf120, v46 := Tryz.zeroValue120, t51 := Tryz.underlying138, a51 := Tryz.isAgg138,
  z51 := Tryz.sizeOf138, v51 := Tryz.zeroValue138, t53 := Tryz.underlying140, a53 := Tryz.isAgg140,
  z53 := Tryz.sizeOf140, v53 := Tryz.zeroValue140, t131 := Tryz.underlying107, a131 := Tryz.isAgg107,
  z131 := Tryz.sizeOf107, v131 := Tryz.zeroValue107, t182 := Tryz.underlying130, a182 := Tryz.isAgg130,
  z182 := Tryz.sizeOf130, v182 := Tryz.zeroValue130, t183 := Tryz.underlying131, a183 := Tryz.isAgg131,
  z183 := Tryz.sizeOf131, v183 := Tryz.zeroValue131, t218 := Tryz.underlying142, a218 := Tryz.isAgg142,
  z218 := Tryz.sizeOf142, v218 := Tryz.zeroValue142, t222 := Tryz.underlying146, a222 := Tryz.isAgg146,
  z222 := Tryz.sizeOf146, v222 := Tryz.zeroValue146, t228 := Tryz.underlying148, a228 := Tryz.isAgg148,
  z228 := Tryz.sizeOf148, v228 := Tryz.zeroValue148, t229 := Tryz.underlying149, a229 := Tryz.isAgg149,
  z229 := Tryz.sizeOf149, v229 := Tryz.zeroValue149 }
def compRen : Shelf.Ren :=
{
  f := fun x =>
    match x with
    | 20 => 108
    | n => n,
  t := fun x =>
    match x with
    | 22 => 41
    | 3 => 3
    | 4 => 4
    | 0 => 0
    | n => n,
  g := fun x =>
    x }
set_option maxRecDepth 100000 in
theorem comp : Lays2.n20 Tryz.prog compRen :=
{ mixed := Eq.refl true, f20 := Eq.trans Tryz.func108 (congrArg some (Eq.refl (Body2.n20 compRen))),
  t0 := Tryz.underlying0, a0 := Tryz.isAgg0, z0 := Tryz.sizeOf0, v0 := Tryz.zeroValue0, t3 := Tryz.underlying3,
  a3 := Tryz.isAgg3, z3 := Tryz.sizeOf3, v3 := Tryz.zeroValue3, t4 := Tryz.underlying4, a4 := Tryz.isAgg4,
  z4 := Tryz.sizeOf4, v4 := Tryz.zeroValue4, t22 := Tryz.underlying41, a22 := Tryz.isAgg41, z22 := Tryz.sizeOf41,
  v22 := Tryz.zeroValue41, i3 := Eq.refl (some (some (Value.int IntKind.i64 0), 1, 8)) }
abbrev leb (x y : Int) : Bool := decide (x ≤ y)
theorem heap_put {w : World} {g q : Nat} {d : Array Int} {os : Array Obj} : w.grownBy (grow (putRow (Value.int .i64) (Sort.ahead w q) g 0 d) os) (some g) := by
  refine ⟨rfl, rfl, rfl, by simp [grow, putRow, mapBlock, Sort.ahead], fun k hk hne => ?_⟩
  have hkg : g ≠ k := fun e => hne (by rw [e])
  rw [heap_grow_old _ os (by simpa [putRow, mapBlock, Sort.ahead] using hk)]
  simp only [putRow, mapBlock, Sort.ahead, Array.getElem?_modify]
  rw [if_neg hkg]
theorem put_grown {w : World} {g q : Nat} {d : Array Int} : w.grownBy (putRow (Value.int .i64) (Sort.ahead w q) g 0 d) (some g) := by
  refine ⟨rfl, rfl, rfl, by simp [putRow, mapBlock, Sort.ahead], fun k hk hne => ?_⟩
  have hkg : g ≠ k := fun e => hne (by rw [e])
  simp only [putRow, mapBlock, Sort.ahead, Array.getElem?_modify]
  rw [if_neg hkg]
theorem own_grow {w : World} {base : Nat} {e : TypeId} {size n : Nat} {v : Value} {xs : List Value} (h : w.ownsRow base e size v n xs) (os : Array Obj) : (grow w os).ownsRow base e size v n xs :=
  own_move h (fun k hk => by
    have := own_lt h k hk
    simp [grow, Array.getElem?_append, this])
theorem sort_any (v : Value) (base : Nat) (ok : Nat → Prop) (xs : List Int) (w : World) (h : (Kd.int .i64).R 3 w base ok v xs) (hsz : xs.length < 4611686018427387904) :
    Calls Tryz.prog 107 #[v] w fun e w' => e = .returned (.tuple #[]) ∧ (Kd.int .i64).R 3 w' base ok v (xs.mergeSort leb) ∧ w.grownBy w' v.ownBlock := by
  have ho : w.ownsRow base 3 1 v xs.length (xs.map (Value.int .i64)) := Kd.own_of_R h
  by_cases hv : v = .slice none 0 0
  · subst hv
    have hx : xs = [] := by
      rcases ho.2 with ⟨_, h0⟩ | ⟨_, _, _, h0, _⟩
      · exact List.eq_nil_of_length_eq_zero h0
      · cases h0
    subst hx
    refine (Any.slices_Sort_int_none sort none 0 w).mono ?_
    rintro e w' ⟨he, hw⟩
    subst hw
    exact ⟨he, by simpa using h, World.grownBy.refl _ _⟩
  · obtain ⟨g, cap, rfl, hb, hlt, hn, hm, hl, hH⟩ := Lib.holds_of_ownsRow ho hv
    refine (Any.slices_Sort_int sort g 0 cap xs w hH hlt hsz).mono ?_
    rintro e w' ⟨he, q, os, hw⟩
    have hlen : (xs.mergeSort leb).length = xs.length := List.length_mergeSort xs
    have h1 := Lib.ownsRow_putRow (q := q) ho hlen (Nat.le_refl _)
    rw [List.take_of_length_le (by omega)] at h1
    have h2 := own_grow h1 os
    refine ⟨he, ?_, by rw [hw]; exact heap_put⟩
    rw [hw]
    exact Kd.R_of_own (by rw [hlen]; exact h2) h.1
theorem compact_any (v : Value) (base : Nat) (ok : Nat → Prop) (xs : List Int) (w : World) (h : (Kd.int .i64).R 3 w base ok v xs) (hsz : xs.length ≤ 9223372036854775807) :
    Calls Tryz.prog 108 #[v] w fun e w' => ∃ v', e = .returned v' ∧ (Kd.int .i64).R 3 w' base ok v' (Lib.compact xs) ∧ v'.ownBlock = v.ownBlock ∧ w.grownBy w' v.ownBlock := by
  have ho : w.ownsRow base 3 1 v xs.length (xs.map (Value.int .i64)) := Kd.own_of_R h
  by_cases hv : v = .slice none 0 0
  · subst hv
    have hx : xs = [] := by
      rcases ho.2 with ⟨_, h0⟩ | ⟨_, _, _, h0, _⟩
      · exact List.eq_nil_of_length_eq_zero h0
      · cases h0
    subst hx
    refine (Any.slices_Compact_int_empty comp none 0 w).mono ?_
    rintro e w' ⟨he, hw⟩
    subst hw
    exact ⟨_, he, h, rfl, World.grownBy.refl _ _⟩
  · obtain ⟨g, cap, rfl, hb, hlt, hn, hm, hl, hH⟩ := Lib.holds_of_ownsRow ho hv
    refine (Any.slices_Compact_int comp g 0 cap xs w hH hsz hn).mono ?_
    rintro e w' ⟨he, q, hw⟩
    have hcl : (Lib.compact xs).length ≤ xs.length := Lib.compact_length_le xs
    have h1 := Lib.ownsRow_putRow (q := q) (k := (Lib.compact xs).length) (ys := Lib.compact xs ++ List.replicate (xs.length - (Lib.compact xs).length) 0) ho (by rw [List.length_append, List.length_replicate]; omega) hcl
    rw [List.take_left'] at h1
    · refine ⟨_, he, ?_, rfl, ?_⟩
      · rw [hw]
        exact Kd.R_of_own h1 h.1
      · rw [hw]
        exact put_grown
    · rfl
end Go.Proofs.YtccenpmaooailaaGreat.Lays
