/- Where functions of Go's library lie in this program. -/
import Derived.Test.YtdohneeejfeknaaDoorProg
import Derived.Test.YtdohneeejfeknaaDoorChecked
import Derived.Shelf.Strconv.Itoa3
import Derived.Shelf.Small.Strs
import Derived.Shelf.Strings.Cut
import Derived.Shelf.Strings.SplitShaped
import Derived.Shelf.Strings.OnBuilder
import Derived.Shelf.Strconv.ErrVarAll
import Derived.Ground.NamesProg
set_option linter.unusedVariables false
set_option linter.unusedSimpArgs false
namespace Go.Proofs.YtdohneeejfeknaaDoor.Ls
open Go.Proofs Go.Shelf Go.RowKit
def itoaRen : Shelf.Ren :=
{
  f := fun x =>
    match x with
    | 171 => 42
    | 243 => 57
    | 246 => 70
    | 283 => 80
    | 284 => 81
    | 285 => 82
    | 286 => 83
    | 129 => 88
    | 317 => 87
    | 318 => 89
    | 319 => 90
    | 320 => 91
    | 337 => 92
    | 338 => 93
    | n => n,
  t := fun x =>
    match x with
    | 3 => 3
    | 9 => 9
    | 2 => 2
    | 4 => 4
    | 171 => 103
    | 0 => 0
    | 53 => 96
    | 37 => 28
    | 5 => 5
    | 173 => 106
    | 212 => 120
    | 51 => 112
    | 20 => 20
    | 213 => 121
    | 46 => 95
    | 232 => 124
    | 233 => 125
    | n => n,
  g := fun x =>
    match x with
    | 17 => 5
    | 18 => 6
    | 19 => 7
    | n => n }
set_option maxRecDepth 100000 in
theorem itoa : LaysM.n171 Tryd.prog itoaRen :=
{ mixed := Eq.refl true, f129 := Eq.trans Tryd.func88 (congrArg some (Eq.refl (Body.n129 itoaRen))),
  f171 := Eq.trans Tryd.func42 (congrArg some (Eq.refl (Body.n171 itoaRen))),
  f243 := Eq.trans Tryd.func57 (congrArg some (Eq.refl (Body.n243 itoaRen))),
  f246 := Eq.trans Tryd.func70 (congrArg some (Eq.refl (Body.n246 itoaRen))),
  f283 := Eq.trans Tryd.func80 (congrArg some (Eq.refl (Body.n283 itoaRen))),
  f284 := Eq.trans Tryd.func81 (congrArg some (Eq.refl (Body.n284 itoaRen))),
  f285 := Eq.trans Tryd.func82 (congrArg some (Eq.refl (Body.n285 itoaRen))),
  f286 := Eq.trans Tryd.func83 (congrArg some (Eq.refl (Body.n286 itoaRen))),
  f317 := Eq.trans Tryd.func87 (congrArg some (Eq.refl (Body.n317 itoaRen))),
  f318 := Eq.trans Tryd.func89 (congrArg some (Eq.refl (Body.n318 itoaRen))),
  f319 := Eq.trans Tryd.func90 (congrArg some (Eq.refl (Body.n319 itoaRen))),
  f320 := Eq.trans Tryd.func91 (congrArg some (Eq.refl (Body.n320 itoaRen))),
  f337 := Eq.trans Tryd.func92 (congrArg some (Eq.refl (Body.n337 itoaRen))),
  f338 := Eq.trans Tryd.func93 (congrArg some (Eq.refl (Body.n338 itoaRen))), t0 := Tryd.underlying0,
  a0 := Tryd.isAgg0, z0 := Tryd.sizeOf0, v0 := Tryd.zeroValue0, t2 := Tryd.underlying2, a2 := Tryd.isAgg2,
  z2 := Tryd.sizeOf2, v2 := Tryd.zeroValue2, t3 := Tryd.underlying3, a3 := Tryd.isAgg3, z3 := Tryd.sizeOf3,
  v3 := Tryd.zeroValue3, t4 := Tryd.underlying4, a4 := Tryd.isAgg4, z4 := Tryd.sizeOf4, v4 := Tryd.zeroValue4,
  t5 := Tryd.underlying5, a5 := Tryd.isAgg5, z5 := Tryd.sizeOf5, v5 := Tryd.zeroValue5, t9 := Tryd.underlying9,
  a9 := Tryd.isAgg9, z9 := Tryd.sizeOf9, v9 := Tryd.zeroValue9, t20 := Tryd.underlying20, a20 := Tryd.isAgg20,
  z20 := Tryd.sizeOf20, v20 := Tryd.zeroValue20, t37 := Tryd.underlying28, a37 := Tryd.isAgg28, z37 := Tryd.sizeOf28,
  v37 := Tryd.zeroValue28, t46 := Tryd.underlying95, a46 := Tryd.isAgg95, z46 := Tryd.sizeOf95, v46 := Tryd.zeroValue95,
  t51 := Tryd.underlying112, a51 := Tryd.isAgg112, z51 := Tryd.sizeOf112, v51 := Tryd.zeroValue112,
  t53 := Tryd.underlying96, a53 := Tryd.isAgg96, z53 := Tryd.sizeOf96, v53 := Tryd.zeroValue96,
  t171 := Tryd.underlying103, a171 := Tryd.isAgg103, z171 := Tryd.sizeOf103, v171 := Tryd.zeroValue103,
  t173 := Tryd.underlying106, a173 := Tryd.isAgg106, z173 := Tryd.sizeOf106, v173 := Tryd.zeroValue106,
  t212 := Tryd.underlying120, a212 := Tryd.isAgg120, z212 := Tryd.sizeOf120, v212 := Tryd.zeroValue120,
  t213 := Tryd.underlying121, a213 := Tryd.isAgg121, z213 := Tryd.sizeOf121, t232 := Tryd.underlying124,
  a232 := Tryd.isAgg124, z232 := Tryd.sizeOf124, v232 := Tryd.zeroValue124, t233 := Tryd.underlying125,
  a233 := Tryd.isAgg125, z233 := Tryd.sizeOf125, v233 := Tryd.zeroValue125, g17 := (by kernel_rfl),
  g18 := (by kernel_rfl), g19 := (by kernel_rfl),
  i0 := Eq.refl (some (some (Value.tuple #[]), 1, 0)), i2 := Eq.refl (some (some (Value.int IntKind.i64 0), 1, 8)),
  i3 := Eq.refl (some (some (Value.int IntKind.i64 0), 1, 8)), i4 := Eq.refl (some (some (Value.bool false), 1, 1)),
  i5 := Eq.refl (some (some (Value.int IntKind.u8 0), 1, 1)),
  i9 := Eq.refl (some (some (Value.string { data := #[] }), 1, 16)), i20 := Eq.refl (some (some Value.nilIface, 1, 16)),
  i37 := Eq.refl (some (some (Value.slice none 0 0), 1, 24)),
  i46 := Eq.refl (some (some (Value.int IntKind.u64 0), 1, 8)),
  i51 := Eq.refl (some (some (Value.int IntKind.u32 0), 1, 4)),
  i53 := Eq.refl (some (some (Value.int IntKind.u64 0), 1, 8)),
  i171 :=
    Eq.refl
      (some
        (some
            (Value.agg
              #[Value.int IntKind.u8 0, Value.int IntKind.u8 0, Value.int IntKind.u8 0, Value.int IntKind.u8 0,
                Value.int IntKind.u8 0, Value.int IntKind.u8 0, Value.int IntKind.u8 0, Value.int IntKind.u8 0,
                Value.int IntKind.u8 0, Value.int IntKind.u8 0, Value.int IntKind.u8 0, Value.int IntKind.u8 0,
                Value.int IntKind.u8 0, Value.int IntKind.u8 0, Value.int IntKind.u8 0, Value.int IntKind.u8 0,
                Value.int IntKind.u8 0, Value.int IntKind.u8 0, Value.int IntKind.u8 0, Value.int IntKind.u8 0,
                Value.int IntKind.u8 0, Value.int IntKind.u8 0, Value.int IntKind.u8 0, Value.int IntKind.u8 0]),
          24, 24)),
  i173 := Eq.refl (some (some (Value.tuple #[Value.slice none 0 0, Value.string { data := #[] }]), 1, 0)),
  i212 :=
    Eq.refl
      (some
        (some
            (Value.agg
              #[Value.int IntKind.u64 0, Value.int IntKind.u64 0, Value.int IntKind.u64 0, Value.int IntKind.u64 0,
                Value.int IntKind.u64 0, Value.int IntKind.u64 0, Value.int IntKind.u64 0, Value.int IntKind.u64 0,
                Value.int IntKind.u64 0, Value.int IntKind.u64 0, Value.int IntKind.u64 0, Value.int IntKind.u64 0,
                Value.int IntKind.u64 0, Value.int IntKind.u64 0, Value.int IntKind.u64 0, Value.int IntKind.u64 0,
                Value.int IntKind.u64 0, Value.int IntKind.u64 0, Value.int IntKind.u64 0, Value.int IntKind.u64 0]),
          20, 160)),
  i232 :=
    Eq.refl
      (some
        (some
            (Value.agg
              #[Value.int IntKind.u8 0, Value.int IntKind.u8 0, Value.int IntKind.u8 0, Value.int IntKind.u8 0,
                Value.int IntKind.u8 0, Value.int IntKind.u8 0, Value.int IntKind.u8 0, Value.int IntKind.u8 0,
                Value.int IntKind.u8 0, Value.int IntKind.u8 0, Value.int IntKind.u8 0, Value.int IntKind.u8 0,
                Value.int IntKind.u8 0, Value.int IntKind.u8 0, Value.int IntKind.u8 0, Value.int IntKind.u8 0,
                Value.int IntKind.u8 0, Value.int IntKind.u8 0, Value.int IntKind.u8 0, Value.int IntKind.u8 0,
                Value.int IntKind.u8 0, Value.int IntKind.u8 0, Value.int IntKind.u8 0, Value.int IntKind.u8 0,
                Value.int IntKind.u8 0, Value.int IntKind.u8 0, Value.int IntKind.u8 0, Value.int IntKind.u8 0,
                Value.int IntKind.u8 0, Value.int IntKind.u8 0, Value.int IntKind.u8 0, Value.int IntKind.u8 0]),
          32, 32)),
  i233 :=
    Eq.refl
      (some
        (some
            (Value.agg
              (let y :=
                  let y :=
                    let y :=
                      let y :=
                        [Value.int IntKind.u8 0, Value.int IntKind.u8 0, Value.int IntKind.u8 0,
                          Value.int IntKind.u8 0];
                      Value.int IntKind.u8 0 ::
                        Value.int IntKind.u8 0 :: Value.int IntKind.u8 0 :: Value.int IntKind.u8 0 :: y;
                    let y :=
                      Value.int IntKind.u8 0 ::
                        Value.int IntKind.u8 0 :: Value.int IntKind.u8 0 :: Value.int IntKind.u8 0 :: y;
                    Value.int IntKind.u8 0 ::
                      Value.int IntKind.u8 0 :: Value.int IntKind.u8 0 :: Value.int IntKind.u8 0 :: y;
                  let y :=
                    let y :=
                      Value.int IntKind.u8 0 ::
                        Value.int IntKind.u8 0 :: Value.int IntKind.u8 0 :: Value.int IntKind.u8 0 :: y;
                    Value.int IntKind.u8 0 ::
                      Value.int IntKind.u8 0 :: Value.int IntKind.u8 0 :: Value.int IntKind.u8 0 :: y;
                  let y :=
                    Value.int IntKind.u8 0 ::
                      Value.int IntKind.u8 0 :: Value.int IntKind.u8 0 :: Value.int IntKind.u8 0 :: y;
                  Value.int IntKind.u8 0 ::
                    Value.int IntKind.u8 0 :: Value.int IntKind.u8 0 :: Value.int IntKind.u8 0 :: y;
                let y :=
                  let y :=
                    let y :=
                      Value.int IntKind.u8 0 ::
                        Value.int IntKind.u8 0 :: Value.int IntKind.u8 0 :: Value.int IntKind.u8 0 :: y;
                    Value.int IntKind.u8 0 ::
                      Value.int IntKind.u8 0 :: Value.int IntKind.u8 0 :: Value.int IntKind.u8 0 :: y;
                  let y :=
                    Value.int IntKind.u8 0 ::
                      Value.int IntKind.u8 0 :: Value.int IntKind.u8 0 :: Value.int IntKind.u8 0 :: y;
                  Value.int IntKind.u8 0 ::
                    Value.int IntKind.u8 0 :: Value.int IntKind.u8 0 :: Value.int IntKind.u8 0 :: y;
                let y :=
                  let y :=
                    Value.int IntKind.u8 0 ::
                      Value.int IntKind.u8 0 :: Value.int IntKind.u8 0 :: Value.int IntKind.u8 0 :: y;
                  Value.int IntKind.u8 0 ::
                    Value.int IntKind.u8 0 :: Value.int IntKind.u8 0 :: Value.int IntKind.u8 0 :: y;
                let y :=
                  Value.int IntKind.u8 0 ::
                    Value.int IntKind.u8 0 :: Value.int IntKind.u8 0 :: Value.int IntKind.u8 0 :: y;
                Value.int IntKind.u8 0 ::
                  Value.int IntKind.u8 0 :: Value.int IntKind.u8 0 :: Value.int IntKind.u8 0 :: y).toArray),
          64, 64)),
  m17 := (by kernel_rfl), m18 := (by kernel_rfl),
  m19 := (by kernel_rfl) }
def splitRen : Shelf.Ren :=
{
  f := fun x =>
    match x with
    | 146 => 18
    | 221 => 35
    | 268 => 50
    | 138 => 51
    | 143 => 52
    | 195 => 60
    | 197 => 61
    | 218 => 62
    | 219 => 63
    | 260 => 73
    | 217 => 56
    | 225 => 74
    | 224 => 75
    | 267 => 76
    | 266 => 69
    | 314 => 84
    | n => n,
  t := fun x =>
    match x with
    | 9 => 9
    | 31 => 34
    | 3 => 3
    | 4 => 4
    | 0 => 0
    | 105 => 83
    | 21 => 21
    | 5 => 5
    | 46 => 95
    | 119 => 108
    | 139 => 111
    | 138 => 110
    | 146 => 113
    | 51 => 112
    | n => n,
  g := fun x =>
    match x with
    | 1 => 0
    | 3 => 3
    | 4 => 4
    | n => n }
set_option maxRecDepth 100000 in
theorem split : LaysM.n146 Tryd.prog splitRen :=
{ mixed := Eq.refl true, f138 := Eq.trans Tryd.func51 (congrArg some (Eq.refl (Body.n138 splitRen))),
  f143 := Eq.trans Tryd.func52 (congrArg some (Eq.refl (Body.n143 splitRen))),
  f146 := Eq.trans Tryd.func18 (congrArg some (Eq.refl (Body.n146 splitRen))),
  f195 := Eq.trans Tryd.func60 (congrArg some (Eq.refl (Body.n195 splitRen))),
  f197 := Eq.trans Tryd.func61 (congrArg some (Eq.refl (Body.n197 splitRen))),
  f217 := Eq.trans Tryd.func56 (congrArg some (Eq.refl (Body.n217 splitRen))),
  f218 := Eq.trans Tryd.func62 (congrArg some (Eq.refl (Body.n218 splitRen))),
  f219 := Eq.trans Tryd.func63 (congrArg some (Eq.refl (Body.n219 splitRen))),
  f221 := Eq.trans Tryd.func35 (congrArg some (Eq.refl (Body.n221 splitRen))),
  f224 := Eq.trans Tryd.func75 (congrArg some (Eq.refl (Body.n224 splitRen))),
  f225 := Eq.trans Tryd.func74 (congrArg some (Eq.refl (Body.n225 splitRen))),
  f260 := Eq.trans Tryd.func73 (congrArg some (Eq.refl (Body.n260 splitRen))),
  f266 := Eq.trans Tryd.func69 (congrArg some (Eq.refl (Body.n266 splitRen))),
  f267 := Eq.trans Tryd.func76 (congrArg some (Eq.refl (Body.n267 splitRen))),
  f268 := Eq.trans Tryd.func50 (congrArg some (Eq.refl (Body.n268 splitRen))),
  f314 := Eq.trans Tryd.func84 (congrArg some (Eq.refl (Body.n314 splitRen))), t0 := Tryd.underlying0,
  a0 := Tryd.isAgg0, z0 := Tryd.sizeOf0, v0 := Tryd.zeroValue0, t3 := Tryd.underlying3, a3 := Tryd.isAgg3,
  z3 := Tryd.sizeOf3, v3 := Tryd.zeroValue3, t4 := Tryd.underlying4, a4 := Tryd.isAgg4, z4 := Tryd.sizeOf4,
  v4 := Tryd.zeroValue4, t5 := Tryd.underlying5, a5 := Tryd.isAgg5, z5 := Tryd.sizeOf5, v5 := Tryd.zeroValue5,
  t9 := Tryd.underlying9, a9 := Tryd.isAgg9, z9 := Tryd.sizeOf9, v9 := Tryd.zeroValue9, t21 := Tryd.underlying21,
  a21 := Tryd.isAgg21, z21 := Tryd.sizeOf21, v21 := Tryd.zeroValue21, t31 := Tryd.underlying34, a31 := Tryd.isAgg34,
  z31 := Tryd.sizeOf34, v31 := Tryd.zeroValue34, t46 := Tryd.underlying95, a46 := Tryd.isAgg95, z46 := Tryd.sizeOf95,
  v46 := Tryd.zeroValue95, t51 := Tryd.underlying112, a51 := Tryd.isAgg112, z51 := Tryd.sizeOf112,
  v51 := Tryd.zeroValue112, t105 := Tryd.underlying83, a105 := Tryd.isAgg83, z105 := Tryd.sizeOf83,
  v105 := Tryd.zeroValue83, t119 := Tryd.underlying108, a119 := Tryd.isAgg108, z119 := Tryd.sizeOf108,
  t138 := Tryd.underlying110, a138 := Tryd.isAgg110, z138 := Tryd.sizeOf110, v138 := Tryd.zeroValue110,
  t139 := Tryd.underlying111, a139 := Tryd.isAgg111, z139 := Tryd.sizeOf111, v139 := Tryd.zeroValue111,
  t146 := Tryd.underlying113, a146 := Tryd.isAgg113, z146 := Tryd.sizeOf113, v146 := Tryd.zeroValue113,
  g1 := (by kernel_rfl), g3 := (by kernel_rfl),
  g4 := (by kernel_rfl), i0 := Eq.refl (some (some (Value.tuple #[]), 1, 0)),
  i3 := Eq.refl (some (some (Value.int IntKind.i64 0), 1, 8)), i4 := Eq.refl (some (some (Value.bool false), 1, 1)),
  i5 := Eq.refl (some (some (Value.int IntKind.u8 0), 1, 1)),
  i9 := Eq.refl (some (some (Value.string { data := #[] }), 1, 16)),
  i21 := Eq.refl (some (some (Value.int IntKind.i32 0), 1, 4)),
  i31 := Eq.refl (some (some (Value.slice none 0 0), 1, 24)),
  i46 := Eq.refl (some (some (Value.int IntKind.u64 0), 1, 8)),
  i51 := Eq.refl (some (some (Value.int IntKind.u32 0), 1, 4)),
  i105 := Eq.refl (some (some (Value.tuple #[Value.int IntKind.i32 0, Value.int IntKind.i64 0]), 1, 0)),
  i138 := Eq.refl (some (some (Value.agg #[Value.int IntKind.u8 0, Value.int IntKind.u8 0]), 2, 2)),
  i139 :=
    Eq.refl
      (some
        (some
            (Value.agg
              #[Value.int IntKind.u8 0, Value.int IntKind.u8 0, Value.int IntKind.u8 0, Value.int IntKind.u8 0,
                Value.int IntKind.u8 0, Value.int IntKind.u8 0, Value.int IntKind.u8 0, Value.int IntKind.u8 0,
                Value.int IntKind.u8 0, Value.int IntKind.u8 0, Value.int IntKind.u8 0, Value.int IntKind.u8 0,
                Value.int IntKind.u8 0, Value.int IntKind.u8 0, Value.int IntKind.u8 0, Value.int IntKind.u8 0,
                Value.int IntKind.u8 0, Value.int IntKind.u8 0, Value.int IntKind.u8 0, Value.int IntKind.u8 0,
                Value.int IntKind.u8 0, Value.int IntKind.u8 0, Value.int IntKind.u8 0, Value.int IntKind.u8 0,
                Value.int IntKind.u8 0, Value.int IntKind.u8 0, Value.int IntKind.u8 0, Value.int IntKind.u8 0,
                Value.int IntKind.u8 0, Value.int IntKind.u8 0, Value.int IntKind.u8 0, Value.int IntKind.u8 0]),
          32, 32)),
  i146 := Eq.refl (some (some (Value.tuple #[Value.int IntKind.u32 0, Value.int IntKind.u32 0]), 1, 0)),
  m1 := (by kernel_rfl),
  s1_3 := fun w h =>
    cell_of_shapedOpen_int h (of_decide_eq_true (Eq.refl true)) (Eq.refl (some (#[Value.int IntKind.i64 0], 3))) rfl
      (Eq.refl true) (Eq.refl (some [3])) Tryd.underlying3,
  m3 := (by kernel_rfl), m4 := (by kernel_rfl) }
def cutRen : Shelf.Ren :=
{
  f := fun x =>
    match x with
    | 145 => 36
    | 220 => 53
    | 219 => 63
    | 217 => 56
    | 225 => 74
    | 224 => 75
    | 267 => 76
    | 266 => 69
    | 314 => 84
    | n => n,
  t := fun x =>
    match x with
    | 9 => 9
    | 4 => 4
    | 59 => 60
    | 3 => 3
    | 5 => 5
    | 46 => 95
    | 146 => 113
    | 51 => 112
    | n => n,
  g := fun x =>
    match x with
    | 1 => 0
    | n => n }
set_option maxRecDepth 100000 in
theorem cut : Lays.n145 Tryd.prog cutRen :=
{ mixed := Eq.refl true, f145 := Eq.trans Tryd.func36 (congrArg some (Eq.refl (Body.n145 cutRen))),
  f217 := Eq.trans Tryd.func56 (congrArg some (Eq.refl (Body.n217 cutRen))),
  f219 := Eq.trans Tryd.func63 (congrArg some (Eq.refl (Body.n219 cutRen))),
  f220 := Eq.trans Tryd.func53 (congrArg some (Eq.refl (Body.n220 cutRen))),
  f224 := Eq.trans Tryd.func75 (congrArg some (Eq.refl (Body.n224 cutRen))),
  f225 := Eq.trans Tryd.func74 (congrArg some (Eq.refl (Body.n225 cutRen))),
  f266 := Eq.trans Tryd.func69 (congrArg some (Eq.refl (Body.n266 cutRen))),
  f267 := Eq.trans Tryd.func76 (congrArg some (Eq.refl (Body.n267 cutRen))),
  f314 := Eq.trans Tryd.func84 (congrArg some (Eq.refl (Body.n314 cutRen))), t3 := Tryd.underlying3,
  a3 := Tryd.isAgg3, z3 := Tryd.sizeOf3, v3 := Tryd.zeroValue3, t4 := Tryd.underlying4, a4 := Tryd.isAgg4,
  z4 := Tryd.sizeOf4, v4 := Tryd.zeroValue4, t5 := Tryd.underlying5, a5 := Tryd.isAgg5, z5 := Tryd.sizeOf5,
  v5 := Tryd.zeroValue5, t9 := Tryd.underlying9, a9 := Tryd.isAgg9, z9 := Tryd.sizeOf9, v9 := Tryd.zeroValue9,
  t46 := Tryd.underlying95, a46 := Tryd.isAgg95, z46 := Tryd.sizeOf95, v46 := Tryd.zeroValue95,
  t51 := Tryd.underlying112, a51 := Tryd.isAgg112, z51 := Tryd.sizeOf112, v51 := Tryd.zeroValue112,
  t59 := Tryd.underlying60, a59 := Tryd.isAgg60, z59 := Tryd.sizeOf60, v59 := Tryd.zeroValue60,
  t146 := Tryd.underlying113, a146 := Tryd.isAgg113, z146 := Tryd.sizeOf113, v146 := Tryd.zeroValue113,
  g1 := (by kernel_rfl) }
def joinRen : Shelf.Ren :=
{
  f := fun x =>
    match x with
    | 156 => 24
    | 165 => 43
    | 166 => 44
    | 169 => 45
    | 240 => 58
    | 241 => 59
    | 276 => 71
    | 277 => 72
    | n => n,
  t := fun x =>
    match x with
    | 31 => 34
    | 9 => 9
    | 3 => 3
    | 4 => 4
    | 0 => 0
    | 20 => 20
    | 72 => 72
    | 76 => 64
    | 70 => 70
    | 37 => 28
    | 75 => 63
    | 127 => 81
    | 164 => 92
    | 5 => 5
    | 80 => 74
    | n => n,
  g := fun x =>
    x }
set_option maxRecDepth 100000 in
theorem join : Lays.n156 Tryd.prog joinRen :=
{ mixed := Eq.refl true, f156 := Eq.trans Tryd.func24 (congrArg some (Eq.refl (Body.n156 joinRen))),
  f165 := Eq.trans Tryd.func43 (congrArg some (Eq.refl (Body.n165 joinRen))),
  f166 := Eq.trans Tryd.func44 (congrArg some (Eq.refl (Body.n166 joinRen))),
  f169 := Eq.trans Tryd.func45 (congrArg some (Eq.refl (Body.n169 joinRen))),
  f240 := Eq.trans Tryd.func58 (congrArg some (Eq.refl (Body.n240 joinRen))),
  f241 := Eq.trans Tryd.func59 (congrArg some (Eq.refl (Body.n241 joinRen))),
  f276 := Eq.trans Tryd.func71 (congrArg some (Eq.refl (Body.n276 joinRen))),
  f277 := Eq.trans Tryd.func72 (congrArg some (Eq.refl (Body.n277 joinRen))), t0 := Tryd.underlying0,
  a0 := Tryd.isAgg0, z0 := Tryd.sizeOf0, v0 := Tryd.zeroValue0, t3 := Tryd.underlying3, a3 := Tryd.isAgg3,
  z3 := Tryd.sizeOf3, v3 := Tryd.zeroValue3, t4 := Tryd.underlying4, a4 := Tryd.isAgg4, z4 := Tryd.sizeOf4,
  v4 := Tryd.zeroValue4, t9 := Tryd.underlying9, a9 := Tryd.isAgg9, z9 := Tryd.sizeOf9, v9 := Tryd.zeroValue9,
  t20 := Tryd.underlying20, a20 := Tryd.isAgg20, z20 := Tryd.sizeOf20, v20 := Tryd.zeroValue20,
  t31 := Tryd.underlying34, a31 := Tryd.isAgg34, z31 := Tryd.sizeOf34, v31 := Tryd.zeroValue34,
  t37 := Tryd.underlying28, a37 := Tryd.isAgg28, z37 := Tryd.sizeOf28, v37 := Tryd.zeroValue28,
  t70 := Tryd.underlying70, a70 := Tryd.isAgg70, z70 := Tryd.sizeOf70, v70 := Tryd.zeroValue70,
  t72 := Tryd.underlying72, a72 := Tryd.isAgg72, z72 := Tryd.sizeOf72, v72 := Tryd.zeroValue72,
  t75 := Tryd.underlying63, a75 := Tryd.isAgg63, z75 := Tryd.sizeOf63, v75 := Tryd.zeroValue63,
  t76 := Tryd.underlying64, a76 := Tryd.isAgg64, z76 := Tryd.sizeOf64, v76 := Tryd.zeroValue64,
  t127 := Tryd.underlying81, a127 := Tryd.isAgg81, z127 := Tryd.sizeOf81, v127 := Tryd.zeroValue81,
  t164 := Tryd.underlying92, a164 := Tryd.isAgg92, z164 := Tryd.sizeOf92, v164 := Tryd.zeroValue92 }
def ibyteRen : Shelf.Ren :=
{
  f := fun x =>
    match x with
    | 137 => 38
    | 217 => 56
    | 266 => 69
    | n => n,
  t := fun x =>
    match x with
    | 9 => 9
    | 5 => 5
    | 3 => 3
    | n => n,
  g := fun x =>
    x }
set_option maxRecDepth 100000 in
theorem ibyte : Lays.n137 Tryd.prog ibyteRen :=
{ mixed := Eq.refl true, f137 := Eq.trans Tryd.func38 (congrArg some (Eq.refl (Body.n137 ibyteRen))),
  f217 := Eq.trans Tryd.func56 (congrArg some (Eq.refl (Body.n217 ibyteRen))),
  f266 := Eq.trans Tryd.func69 (congrArg some (Eq.refl (Body.n266 ibyteRen))), t3 := Tryd.underlying3,
  a3 := Tryd.isAgg3, z3 := Tryd.sizeOf3, v3 := Tryd.zeroValue3, t5 := Tryd.underlying5, a5 := Tryd.isAgg5,
  z5 := Tryd.sizeOf5, v5 := Tryd.zeroValue5, t9 := Tryd.underlying9, a9 := Tryd.isAgg9, z9 := Tryd.sizeOf9,
  v9 := Tryd.zeroValue9 }
def atoiRen : Shelf.Ren :=
{
  f := fun x =>
    match x with
    | 172 => 37
    | 244 => 54
    | 245 => 55
    | 247 => 64
    | 279 => 65
    | 280 => 66
    | 281 => 67
    | 282 => 68
    | 287 => 77
    | 316 => 78
    | 171 => 42
    | 205 => 79
    | 321 => 85
    | 322 => 86
    | 243 => 57
    | 246 => 70
    | 283 => 80
    | 284 => 81
    | 285 => 82
    | 286 => 83
    | 129 => 88
    | 317 => 87
    | 318 => 89
    | 319 => 90
    | 320 => 91
    | 337 => 92
    | 338 => 93
    | n => n,
  t := fun x =>
    match x with
    | 9 => 9
    | 3 => 3
    | 75 => 63
    | 76 => 64
    | 4 => 4
    | 5 => 5
    | 167 => 85
    | 37 => 28
    | 0 => 0
    | 85 => 86
    | 2 => 2
    | 168 => 88
    | 53 => 96
    | 175 => 97
    | 46 => 95
    | 210 => 101
    | 127 => 81
    | 145 => 118
    | 143 => 116
    | 21 => 21
    | 171 => 103
    | 173 => 106
    | 212 => 120
    | 51 => 112
    | 20 => 20
    | 213 => 121
    | 232 => 124
    | 233 => 125
    | 80 => 74
    | n => n,
  g := fun x =>
    match x with
    | 15 => 1
    | 16 => 2
    | 17 => 5
    | 18 => 6
    | 19 => 7
    | n => n }
set_option maxRecDepth 100000 in
theorem atoi : LaysC.n172 Tryd.prog atoiRen :=
{ mixed := Eq.refl true, f129 := Eq.trans Tryd.func88 (congrArg some (Eq.refl (Body.n129 atoiRen))),
  f171 := Eq.trans Tryd.func42 (congrArg some (Eq.refl (Body.n171 atoiRen))),
  f172 := Eq.trans Tryd.func37 (congrArg some (Eq.refl (Body.n172 atoiRen))),
  f205 := Eq.trans Tryd.func79 (congrArg some (Eq.refl (Body.n205 atoiRen))),
  f243 := Eq.trans Tryd.func57 (congrArg some (Eq.refl (Body.n243 atoiRen))),
  f244 := Eq.trans Tryd.func54 (congrArg some (Eq.refl (Body.n244 atoiRen))),
  f245 := Eq.trans Tryd.func55 (congrArg some (Eq.refl (Body.n245 atoiRen))),
  f246 := Eq.trans Tryd.func70 (congrArg some (Eq.refl (Body.n246 atoiRen))),
  f247 := Eq.trans Tryd.func64 (congrArg some (Eq.refl (Body.n247 atoiRen))),
  f279 := Eq.trans Tryd.func65 (congrArg some (Eq.refl (Body.n279 atoiRen))),
  f280 := Eq.trans Tryd.func66 (congrArg some (Eq.refl (Body.n280 atoiRen))),
  f281 := Eq.trans Tryd.func67 (congrArg some (Eq.refl (Body.n281 atoiRen))),
  f282 := Eq.trans Tryd.func68 (congrArg some (Eq.refl (Body.n282 atoiRen))),
  f283 := Eq.trans Tryd.func80 (congrArg some (Eq.refl (Body.n283 atoiRen))),
  f284 := Eq.trans Tryd.func81 (congrArg some (Eq.refl (Body.n284 atoiRen))),
  f285 := Eq.trans Tryd.func82 (congrArg some (Eq.refl (Body.n285 atoiRen))),
  f286 := Eq.trans Tryd.func83 (congrArg some (Eq.refl (Body.n286 atoiRen))),
  f287 := Eq.trans Tryd.func77 (congrArg some (Eq.refl (Body.n287 atoiRen))),
  f316 := Eq.trans Tryd.func78 (congrArg some (Eq.refl (Body.n316 atoiRen))),
  f317 := Eq.trans Tryd.func87 (congrArg some (Eq.refl (Body.n317 atoiRen))),
  f318 := Eq.trans Tryd.func89 (congrArg some (Eq.refl (Body.n318 atoiRen))),
  f319 := Eq.trans Tryd.func90 (congrArg some (Eq.refl (Body.n319 atoiRen))),
  f320 := Eq.trans Tryd.func91 (congrArg some (Eq.refl (Body.n320 atoiRen))),
  f321 := Eq.trans Tryd.func85 (congrArg some (Eq.refl (Body.n321 atoiRen))),
  f322 := Eq.trans Tryd.func86 (congrArg some (Eq.refl (Body.n322 atoiRen))),
  f337 := Eq.trans Tryd.func92 (congrArg some (Eq.refl (Body.n337 atoiRen))),
  f338 := Eq.trans Tryd.func93 (congrArg some (Eq.refl (Body.n338 atoiRen))), t0 := Tryd.underlying0,
  a0 := Tryd.isAgg0, z0 := Tryd.sizeOf0, v0 := Tryd.zeroValue0, t2 := Tryd.underlying2, a2 := Tryd.isAgg2,
  z2 := Tryd.sizeOf2, v2 := Tryd.zeroValue2, t3 := Tryd.underlying3, a3 := Tryd.isAgg3, z3 := Tryd.sizeOf3,
  v3 := Tryd.zeroValue3, t4 := Tryd.underlying4, a4 := Tryd.isAgg4, z4 := Tryd.sizeOf4, v4 := Tryd.zeroValue4,
  t5 := Tryd.underlying5, a5 := Tryd.isAgg5, z5 := Tryd.sizeOf5, v5 := Tryd.zeroValue5, t9 := Tryd.underlying9,
  a9 := Tryd.isAgg9, z9 := Tryd.sizeOf9, v9 := Tryd.zeroValue9, t20 := Tryd.underlying20, a20 := Tryd.isAgg20,
  z20 := Tryd.sizeOf20, v20 := Tryd.zeroValue20, t21 := Tryd.underlying21, a21 := Tryd.isAgg21, z21 := Tryd.sizeOf21,
  v21 := Tryd.zeroValue21, t37 := Tryd.underlying28, a37 := Tryd.isAgg28, z37 := Tryd.sizeOf28, v37 := Tryd.zeroValue28,
  t46 := Tryd.underlying95, a46 := Tryd.isAgg95, z46 := Tryd.sizeOf95, v46 := Tryd.zeroValue95,
  t51 := Tryd.underlying112, a51 := Tryd.isAgg112, z51 := Tryd.sizeOf112, v51 := Tryd.zeroValue112,
  t53 := Tryd.underlying96, a53 := Tryd.isAgg96, z53 := Tryd.sizeOf96, v53 := Tryd.zeroValue96,
  t75 := Tryd.underlying63, a75 := Tryd.isAgg63, z75 := Tryd.sizeOf63, v75 := Tryd.zeroValue63,
  t76 := Tryd.underlying64, a76 := Tryd.isAgg64, z76 := Tryd.sizeOf64, v76 := Tryd.zeroValue64,
  t85 := Tryd.underlying86, a85 := Tryd.isAgg86, z85 := Tryd.sizeOf86, v85 := Tryd.zeroValue86,
  t127 := Tryd.underlying81, a127 := Tryd.isAgg81, z127 := Tryd.sizeOf81, v127 := Tryd.zeroValue81,
  t143 := Tryd.underlying116, a143 := Tryd.isAgg116, z143 := Tryd.sizeOf116, v143 := Tryd.zeroValue116,
  t145 := Tryd.underlying118, a145 := Tryd.isAgg118, z145 := Tryd.sizeOf118, v145 := Tryd.zeroValue118,
  t167 := Tryd.underlying85, a167 := Tryd.isAgg85, z167 := Tryd.sizeOf85, v167 := Tryd.zeroValue85,
  t168 := Tryd.underlying88, a168 := Tryd.isAgg88, z168 := Tryd.sizeOf88, v168 := Tryd.zeroValue88,
  t171 := Tryd.underlying103, a171 := Tryd.isAgg103, z171 := Tryd.sizeOf103, v171 := Tryd.zeroValue103,
  t173 := Tryd.underlying106, a173 := Tryd.isAgg106, z173 := Tryd.sizeOf106, v173 := Tryd.zeroValue106,
  t175 := Tryd.underlying97, a175 := Tryd.isAgg97, z175 := Tryd.sizeOf97, v175 := Tryd.zeroValue97,
  t210 := Tryd.underlying101, a210 := Tryd.isAgg101, z210 := Tryd.sizeOf101, v210 := Tryd.zeroValue101,
  t212 := Tryd.underlying120, a212 := Tryd.isAgg120, z212 := Tryd.sizeOf120, v212 := Tryd.zeroValue120,
  t213 := Tryd.underlying121, a213 := Tryd.isAgg121, z213 := Tryd.sizeOf121, t232 := Tryd.underlying124,
  a232 := Tryd.isAgg124, z232 := Tryd.sizeOf124, v232 := Tryd.zeroValue124, t233 := Tryd.underlying125,
  a233 := Tryd.isAgg125, z233 := Tryd.sizeOf125, v233 := Tryd.zeroValue125, g15 := (by kernel_rfl),
  g16 := (by kernel_rfl), g17 := (by kernel_rfl),
  g18 := (by kernel_rfl), g19 := (by kernel_rfl), t80 := Tryd.underlying74,
  a80 := Tryd.isAgg74, z80 := Tryd.sizeOf74, v80 := Tryd.zeroValue74,
  i0 := Eq.refl (some (some (Value.tuple #[]), 1, 0)), i2 := Eq.refl (some (some (Value.int IntKind.i64 0), 1, 8)),
  i3 := Eq.refl (some (some (Value.int IntKind.i64 0), 1, 8)), i4 := Eq.refl (some (some (Value.bool false), 1, 1)),
  i5 := Eq.refl (some (some (Value.int IntKind.u8 0), 1, 1)),
  i9 := Eq.refl (some (some (Value.string { data := #[] }), 1, 16)), i20 := Eq.refl (some (some Value.nilIface, 1, 16)),
  i21 := Eq.refl (some (some (Value.int IntKind.i32 0), 1, 4)),
  i37 := Eq.refl (some (some (Value.slice none 0 0), 1, 24)),
  i46 := Eq.refl (some (some (Value.int IntKind.u64 0), 1, 8)),
  i51 := Eq.refl (some (some (Value.int IntKind.u32 0), 1, 4)),
  i53 := Eq.refl (some (some (Value.int IntKind.u64 0), 1, 8)), i75 := Eq.refl (some (some Value.nilIface, 1, 16)),
  i76 := Eq.refl (some (some (Value.tuple #[Value.int IntKind.i64 0, Value.nilIface]), 1, 0)),
  i80 := Eq.refl (some (some Value.nilFunc, 1, 8)),
  i85 := Eq.refl (some (some (Value.tuple #[Value.int IntKind.i64 0, Value.nilIface]), 1, 0)),
  i127 := Eq.refl (some (some (Value.pointer none), 1, 8)), i143 := Eq.refl (some (some (Value.pointer none), 1, 8)),
  i145 := Eq.refl (some (some (Value.agg #[Value.string { data := #[] }]), 1, 16)),
  i167 := Eq.refl (some (some (Value.int IntKind.i64 0), 1, 8)),
  i168 := Eq.refl (some (some (Value.pointer none), 1, 8)),
  i171 :=
    Eq.refl
      (some
        (some
            (Value.agg
              #[Value.int IntKind.u8 0, Value.int IntKind.u8 0, Value.int IntKind.u8 0, Value.int IntKind.u8 0,
                Value.int IntKind.u8 0, Value.int IntKind.u8 0, Value.int IntKind.u8 0, Value.int IntKind.u8 0,
                Value.int IntKind.u8 0, Value.int IntKind.u8 0, Value.int IntKind.u8 0, Value.int IntKind.u8 0,
                Value.int IntKind.u8 0, Value.int IntKind.u8 0, Value.int IntKind.u8 0, Value.int IntKind.u8 0,
                Value.int IntKind.u8 0, Value.int IntKind.u8 0, Value.int IntKind.u8 0, Value.int IntKind.u8 0,
                Value.int IntKind.u8 0, Value.int IntKind.u8 0, Value.int IntKind.u8 0, Value.int IntKind.u8 0]),
          24, 24)),
  i173 := Eq.refl (some (some (Value.tuple #[Value.slice none 0 0, Value.string { data := #[] }]), 1, 0)),
  i175 := Eq.refl (some (some (Value.tuple #[Value.int IntKind.u64 0, Value.nilIface]), 1, 0)),
  i210 :=
    Eq.refl
      (some (some (Value.agg #[Value.string { data := #[] }, Value.string { data := #[] }, Value.nilIface]), 3, 48)),
  i212 :=
    Eq.refl
      (some
        (some
            (Value.agg
              #[Value.int IntKind.u64 0, Value.int IntKind.u64 0, Value.int IntKind.u64 0, Value.int IntKind.u64 0,
                Value.int IntKind.u64 0, Value.int IntKind.u64 0, Value.int IntKind.u64 0, Value.int IntKind.u64 0,
                Value.int IntKind.u64 0, Value.int IntKind.u64 0, Value.int IntKind.u64 0, Value.int IntKind.u64 0,
                Value.int IntKind.u64 0, Value.int IntKind.u64 0, Value.int IntKind.u64 0, Value.int IntKind.u64 0,
                Value.int IntKind.u64 0, Value.int IntKind.u64 0, Value.int IntKind.u64 0, Value.int IntKind.u64 0]),
          20, 160)),
  i232 :=
    Eq.refl
      (some
        (some
            (Value.agg
              #[Value.int IntKind.u8 0, Value.int IntKind.u8 0, Value.int IntKind.u8 0, Value.int IntKind.u8 0,
                Value.int IntKind.u8 0, Value.int IntKind.u8 0, Value.int IntKind.u8 0, Value.int IntKind.u8 0,
                Value.int IntKind.u8 0, Value.int IntKind.u8 0, Value.int IntKind.u8 0, Value.int IntKind.u8 0,
                Value.int IntKind.u8 0, Value.int IntKind.u8 0, Value.int IntKind.u8 0, Value.int IntKind.u8 0,
                Value.int IntKind.u8 0, Value.int IntKind.u8 0, Value.int IntKind.u8 0, Value.int IntKind.u8 0,
                Value.int IntKind.u8 0, Value.int IntKind.u8 0, Value.int IntKind.u8 0, Value.int IntKind.u8 0,
                Value.int IntKind.u8 0, Value.int IntKind.u8 0, Value.int IntKind.u8 0, Value.int IntKind.u8 0,
                Value.int IntKind.u8 0, Value.int IntKind.u8 0, Value.int IntKind.u8 0, Value.int IntKind.u8 0]),
          32, 32)),
  i233 :=
    Eq.refl
      (some
        (some
            (Value.agg
              (let y :=
                  let y :=
                    let y :=
                      let y :=
                        [Value.int IntKind.u8 0, Value.int IntKind.u8 0, Value.int IntKind.u8 0,
                          Value.int IntKind.u8 0];
                      Value.int IntKind.u8 0 ::
                        Value.int IntKind.u8 0 :: Value.int IntKind.u8 0 :: Value.int IntKind.u8 0 :: y;
                    let y :=
                      Value.int IntKind.u8 0 ::
                        Value.int IntKind.u8 0 :: Value.int IntKind.u8 0 :: Value.int IntKind.u8 0 :: y;
                    Value.int IntKind.u8 0 ::
                      Value.int IntKind.u8 0 :: Value.int IntKind.u8 0 :: Value.int IntKind.u8 0 :: y;
                  let y :=
                    let y :=
                      Value.int IntKind.u8 0 ::
                        Value.int IntKind.u8 0 :: Value.int IntKind.u8 0 :: Value.int IntKind.u8 0 :: y;
                    Value.int IntKind.u8 0 ::
                      Value.int IntKind.u8 0 :: Value.int IntKind.u8 0 :: Value.int IntKind.u8 0 :: y;
                  let y :=
                    Value.int IntKind.u8 0 ::
                      Value.int IntKind.u8 0 :: Value.int IntKind.u8 0 :: Value.int IntKind.u8 0 :: y;
                  Value.int IntKind.u8 0 ::
                    Value.int IntKind.u8 0 :: Value.int IntKind.u8 0 :: Value.int IntKind.u8 0 :: y;
                let y :=
                  let y :=
                    let y :=
                      Value.int IntKind.u8 0 ::
                        Value.int IntKind.u8 0 :: Value.int IntKind.u8 0 :: Value.int IntKind.u8 0 :: y;
                    Value.int IntKind.u8 0 ::
                      Value.int IntKind.u8 0 :: Value.int IntKind.u8 0 :: Value.int IntKind.u8 0 :: y;
                  let y :=
                    Value.int IntKind.u8 0 ::
                      Value.int IntKind.u8 0 :: Value.int IntKind.u8 0 :: Value.int IntKind.u8 0 :: y;
                  Value.int IntKind.u8 0 ::
                    Value.int IntKind.u8 0 :: Value.int IntKind.u8 0 :: Value.int IntKind.u8 0 :: y;
                let y :=
                  let y :=
                    Value.int IntKind.u8 0 ::
                      Value.int IntKind.u8 0 :: Value.int IntKind.u8 0 :: Value.int IntKind.u8 0 :: y;
                  Value.int IntKind.u8 0 ::
                    Value.int IntKind.u8 0 :: Value.int IntKind.u8 0 :: Value.int IntKind.u8 0 :: y;
                let y :=
                  Value.int IntKind.u8 0 ::
                    Value.int IntKind.u8 0 :: Value.int IntKind.u8 0 :: Value.int IntKind.u8 0 :: y;
                Value.int IntKind.u8 0 ::
                  Value.int IntKind.u8 0 :: Value.int IntKind.u8 0 :: Value.int IntKind.u8 0 :: y).toArray),
          64, 64)),
  m15 := (by kernel_rfl), m16 := (by kernel_rfl),
  m17 := (by kernel_rfl), m18 := (by kernel_rfl),
  m19 := (by kernel_rfl), c0 := Eq.refl (some false), c2 := Eq.refl (some true),
  c3 := Eq.refl (some true), c4 := Eq.refl (some true), c5 := Eq.refl (some true), c9 := Eq.refl (some true),
  c20 := Eq.refl (some true), c21 := Eq.refl (some true), c37 := Eq.refl (some false), c46 := Eq.refl (some true),
  c51 := Eq.refl (some true), c53 := Eq.refl (some true), c75 := Eq.refl (some true), c76 := Eq.refl (some false),
  c80 := Eq.refl (some false), c85 := Eq.refl (some false), c127 := Eq.refl (some true), c143 := Eq.refl (some true),
  c145 := Eq.refl (some true), c167 := Eq.refl (some true), c168 := Eq.refl (some true), c171 := Eq.refl (some true),
  c173 := Eq.refl (some false), c175 := Eq.refl (some false), c210 := Eq.refl (some true), c212 := Eq.refl (some true),
  c213 := Eq.refl (some true), c232 := Eq.refl (some true), c233 := Eq.refl (some true) }
end Go.Proofs.YtdohneeejfeknaaDoor.Ls
