/- Where functions of Go's library lie in this program. -/
import Derived.Test.YtbbdkhffacoglaaDoorProg
import Derived.Test.YtbbdkhffacoglaaDoorChecked
import Derived.Shelf.Strconv.Itoa3
import Derived.Shelf.SlSortCmp.WholeK
import Derived.Ground.SlsfProg
import Derived.Ground.NamesProg
set_option linter.unusedVariables false
set_option linter.unusedSimpArgs false
namespace Go.Proofs.YtbbdkhffacoglaaDoor.Ls
open Go.Proofs Go.Shelf Go.RowKit
def itoaRen : Shelf.Ren :=
{
  f := fun x =>
    match x with
    | 171 => 79
    | 243 => 105
    | 246 => 130
    | 283 => 145
    | 284 => 146
    | 285 => 147
    | 286 => 148
    | 129 => 119
    | 317 => 153
    | 318 => 154
    | 319 => 155
    | 320 => 156
    | 337 => 157
    | 338 => 158
    | n => n,
  t := fun x =>
    match x with
    | 3 => 3
    | 9 => 9
    | 2 => 2
    | 4 => 4
    | 171 => 158
    | 0 => 0
    | 53 => 132
    | 37 => 43
    | 5 => 5
    | 173 => 160
    | 212 => 175
    | 51 => 130
    | 20 => 20
    | 213 => 176
    | 46 => 115
    | 232 => 177
    | 233 => 178
    | n => n,
  g := fun x =>
    match x with
    | 17 => 6
    | 18 => 7
    | 19 => 8
    | n => n }
set_option maxRecDepth 100000 in
theorem itoa : Lays.n171 Tryd.prog itoaRen :=
{ mixed := Eq.refl true, f129 := Eq.trans Tryd.func119 (congrArg some (Eq.refl (Body.n129 itoaRen))),
  f171 := Eq.trans Tryd.func79 (congrArg some (Eq.refl (Body.n171 itoaRen))),
  f243 := Eq.trans Tryd.func105 (congrArg some (Eq.refl (Body.n243 itoaRen))),
  f246 := Eq.trans Tryd.func130 (congrArg some (Eq.refl (Body.n246 itoaRen))),
  f283 := Eq.trans Tryd.func145 (congrArg some (Eq.refl (Body.n283 itoaRen))),
  f284 := Eq.trans Tryd.func146 (congrArg some (Eq.refl (Body.n284 itoaRen))),
  f285 := Eq.trans Tryd.func147 (congrArg some (Eq.refl (Body.n285 itoaRen))),
  f286 := Eq.trans Tryd.func148 (congrArg some (Eq.refl (Body.n286 itoaRen))),
  f317 := Eq.trans Tryd.func153 (congrArg some (Eq.refl (Body.n317 itoaRen))),
  f318 := Eq.trans Tryd.func154 (congrArg some (Eq.refl (Body.n318 itoaRen))),
  f319 := Eq.trans Tryd.func155 (congrArg some (Eq.refl (Body.n319 itoaRen))),
  f320 := Eq.trans Tryd.func156 (congrArg some (Eq.refl (Body.n320 itoaRen))),
  f337 := Eq.trans Tryd.func157 (congrArg some (Eq.refl (Body.n337 itoaRen))),
  f338 := Eq.trans Tryd.func158 (congrArg some (Eq.refl (Body.n338 itoaRen))), t0 := Tryd.underlying0,
  a0 := Tryd.isAgg0, z0 := Tryd.sizeOf0, v0 := Tryd.zeroValue0, t2 := Tryd.underlying2, a2 := Tryd.isAgg2,
  z2 := Tryd.sizeOf2, v2 := Tryd.zeroValue2, t3 := Tryd.underlying3, a3 := Tryd.isAgg3, z3 := Tryd.sizeOf3,
  v3 := Tryd.zeroValue3, t4 := Tryd.underlying4, a4 := Tryd.isAgg4, z4 := Tryd.sizeOf4, v4 := Tryd.zeroValue4,
  t5 := Tryd.underlying5, a5 := Tryd.isAgg5, z5 := Tryd.sizeOf5, v5 := Tryd.zeroValue5, t9 := Tryd.underlying9,
  a9 := Tryd.isAgg9, z9 := Tryd.sizeOf9, v9 := Tryd.zeroValue9, t20 := Tryd.underlying20, a20 := Tryd.isAgg20,
  z20 := Tryd.sizeOf20, v20 := Tryd.zeroValue20, t37 := Tryd.underlying43, a37 := Tryd.isAgg43, z37 := Tryd.sizeOf43,
  v37 := Tryd.zeroValue43, t46 := Tryd.underlying115, a46 := Tryd.isAgg115, z46 := Tryd.sizeOf115,
  v46 := Tryd.zeroValue115, t51 := Tryd.underlying130, a51 := Tryd.isAgg130, z51 := Tryd.sizeOf130,
  v51 := Tryd.zeroValue130, t53 := Tryd.underlying132, a53 := Tryd.isAgg132, z53 := Tryd.sizeOf132,
  v53 := Tryd.zeroValue132, t171 := Tryd.underlying158, a171 := Tryd.isAgg158, z171 := Tryd.sizeOf158,
  v171 := Tryd.zeroValue158, t173 := Tryd.underlying160, a173 := Tryd.isAgg160, z173 := Tryd.sizeOf160,
  v173 := Tryd.zeroValue160, t212 := Tryd.underlying175, a212 := Tryd.isAgg175, z212 := Tryd.sizeOf175,
  v212 := Tryd.zeroValue175, t213 := Tryd.underlying176, a213 := Tryd.isAgg176, z213 := Tryd.sizeOf176,
  t232 := Tryd.underlying177, a232 := Tryd.isAgg177, z232 := Tryd.sizeOf177, v232 := Tryd.zeroValue177,
  t233 := Tryd.underlying178, a233 := Tryd.isAgg178, z233 := Tryd.sizeOf178, v233 := Tryd.zeroValue178,
  g17 := (by kernel_rfl), g18 := (by kernel_rfl),
  g19 := (by kernel_rfl) }
def sortExRen : Shelf.Ren :=
{
  f := fun x =>
    match x with
    | 6 => 63
    | 15 => 95
    | 14 => 94
    | 28 => 118
    | 29 => 119
    | 20 => 110
    | 21 => 111
    | 22 => 112
    | 23 => 113
    | 24 => 114
    | 25 => 115
    | 26 => 116
    | 27 => 117
    | 46 => 133
    | 47 => 134
    | 48 => 135
    | 49 => 136
    | 50 => 137
    | 57 => 149
    | n => n,
  t := fun x =>
    match x with
    | 22 => 26
    | 24 => 29
    | 25 => 85
    | 3 => 3
    | 39 => 115
    | 0 => 0
    | 53 => 130
    | 55 => 132
    | 4 => 4
    | 46 => 124
    | 45 => 123
    | 50 => 89
    | 5 => 5
    | 9 => 9
    | 66 => 146
    | 70 => 150
    | 76 => 162
    | 77 => 78
    | n => n,
  g := fun x =>
    x }
set_option maxRecDepth 100000 in
theorem sortEx : SlLaysF0.n6 Tryd.prog sortExRen :=
{ mixed := Eq.refl true,
  f6 :=
    Exists.intro "slices.SortFunc[[]loop.example/bellman/impl.Ex,loop.example/bellman/impl.Ex]"
      ⟨of_decide_eq_true (id (Eq.refl true)),
        Eq.trans Tryd.func63
          (congrArg some
            (Eq.refl (α := Func)
              { name := "slices.SortFunc[[]loop.example/bellman/impl.Ex,loop.example/bellman/impl.Ex]",
                origin := (SlBodyF.n6 sortExRen).origin, targs := (SlBodyF.n6 sortExRen).targs,
                params := (SlBodyF.n6 sortExRen).params, resultTypes := (SlBodyF.n6 sortExRen).resultTypes,
                nfree := (SlBodyF.n6 sortExRen).nfree, ntmps := (SlBodyF.n6 sortExRen).ntmps,
                results := (SlBodyF.n6 sortExRen).results, body := (SlBodyF.n6 sortExRen).body,
                norace := (SlBodyF.n6 sortExRen).norace, ours := (SlBodyF.n6 sortExRen).ours,
                file := (SlBodyF.n6 sortExRen).file, endLine := (SlBodyF.n6 sortExRen).endLine,
                litNo := (SlBodyF.n6 sortExRen).litNo, met := (SlBodyF.n6 sortExRen).met,
                tmpNames := (SlBodyF.n6 sortExRen).tmpNames }))⟩,
  f14 :=
    Exists.intro "slices.pdqsortCmpFunc[loop.example/bellman/impl.Ex]"
      ⟨of_decide_eq_true (id (Eq.refl true)),
        Eq.trans Tryd.func94
          (congrArg some
            (Eq.refl (α := Func)
              { name := "slices.pdqsortCmpFunc[loop.example/bellman/impl.Ex]",
                origin := (SlBodyF.n14 sortExRen).origin, targs := (SlBodyF.n14 sortExRen).targs,
                params := (SlBodyF.n14 sortExRen).params,
                resultTypes := (SlBodyF.n14 sortExRen).resultTypes, nfree := (SlBodyF.n14 sortExRen).nfree,
                ntmps := (SlBodyF.n14 sortExRen).ntmps, results := (SlBodyF.n14 sortExRen).results,
                body := (SlBodyF.n14 sortExRen).body, norace := (SlBodyF.n14 sortExRen).norace,
                ours := (SlBodyF.n14 sortExRen).ours, file := (SlBodyF.n14 sortExRen).file,
                endLine := (SlBodyF.n14 sortExRen).endLine, litNo := (SlBodyF.n14 sortExRen).litNo,
                met := (SlBodyF.n14 sortExRen).met, tmpNames := (SlBodyF.n14 sortExRen).tmpNames }))⟩,
  f15 := Eq.trans Tryd.func95 (congrArg some (Eq.refl (SlBodyF.n15 sortExRen))),
  f20 :=
    Exists.intro "slices.insertionSortCmpFunc[loop.example/bellman/impl.Ex]"
      ⟨of_decide_eq_true (id (Eq.refl true)),
        Eq.trans Tryd.func110
          (congrArg some
            (Eq.refl (α := Func)
              { name := "slices.insertionSortCmpFunc[loop.example/bellman/impl.Ex]",
                origin := (SlBodyF.n20 sortExRen).origin, targs := (SlBodyF.n20 sortExRen).targs,
                params := (SlBodyF.n20 sortExRen).params,
                resultTypes := (SlBodyF.n20 sortExRen).resultTypes, nfree := (SlBodyF.n20 sortExRen).nfree,
                ntmps := (SlBodyF.n20 sortExRen).ntmps, results := (SlBodyF.n20 sortExRen).results,
                body := (SlBodyF.n20 sortExRen).body, norace := (SlBodyF.n20 sortExRen).norace,
                ours := (SlBodyF.n20 sortExRen).ours, file := (SlBodyF.n20 sortExRen).file,
                endLine := (SlBodyF.n20 sortExRen).endLine, litNo := (SlBodyF.n20 sortExRen).litNo,
                met := (SlBodyF.n20 sortExRen).met, tmpNames := (SlBodyF.n20 sortExRen).tmpNames }))⟩,
  f21 :=
    Exists.intro "slices.heapSortCmpFunc[loop.example/bellman/impl.Ex]"
      ⟨of_decide_eq_true (id (Eq.refl true)),
        Eq.trans Tryd.func111
          (congrArg some
            (Eq.refl (α := Func)
              { name := "slices.heapSortCmpFunc[loop.example/bellman/impl.Ex]",
                origin := (SlBodyF.n21 sortExRen).origin, targs := (SlBodyF.n21 sortExRen).targs,
                params := (SlBodyF.n21 sortExRen).params,
                resultTypes := (SlBodyF.n21 sortExRen).resultTypes, nfree := (SlBodyF.n21 sortExRen).nfree,
                ntmps := (SlBodyF.n21 sortExRen).ntmps, results := (SlBodyF.n21 sortExRen).results,
                body := (SlBodyF.n21 sortExRen).body, norace := (SlBodyF.n21 sortExRen).norace,
                ours := (SlBodyF.n21 sortExRen).ours, file := (SlBodyF.n21 sortExRen).file,
                endLine := (SlBodyF.n21 sortExRen).endLine, litNo := (SlBodyF.n21 sortExRen).litNo,
                met := (SlBodyF.n21 sortExRen).met, tmpNames := (SlBodyF.n21 sortExRen).tmpNames }))⟩,
  f22 :=
    Exists.intro "slices.breakPatternsCmpFunc[loop.example/bellman/impl.Ex]"
      ⟨of_decide_eq_true (id (Eq.refl true)),
        Eq.trans Tryd.func112
          (congrArg some
            (Eq.refl (α := Func)
              { name := "slices.breakPatternsCmpFunc[loop.example/bellman/impl.Ex]",
                origin := (SlBodyF.n22 sortExRen).origin, targs := (SlBodyF.n22 sortExRen).targs,
                params := (SlBodyF.n22 sortExRen).params,
                resultTypes := (SlBodyF.n22 sortExRen).resultTypes, nfree := (SlBodyF.n22 sortExRen).nfree,
                ntmps := (SlBodyF.n22 sortExRen).ntmps, results := (SlBodyF.n22 sortExRen).results,
                body := (SlBodyF.n22 sortExRen).body, norace := (SlBodyF.n22 sortExRen).norace,
                ours := (SlBodyF.n22 sortExRen).ours, file := (SlBodyF.n22 sortExRen).file,
                endLine := (SlBodyF.n22 sortExRen).endLine, litNo := (SlBodyF.n22 sortExRen).litNo,
                met := (SlBodyF.n22 sortExRen).met, tmpNames := (SlBodyF.n22 sortExRen).tmpNames }))⟩,
  f23 :=
    Exists.intro "slices.choosePivotCmpFunc[loop.example/bellman/impl.Ex]"
      ⟨of_decide_eq_true (id (Eq.refl true)),
        Eq.trans Tryd.func113
          (congrArg some
            (Eq.refl (α := Func)
              { name := "slices.choosePivotCmpFunc[loop.example/bellman/impl.Ex]",
                origin := (SlBodyF.n23 sortExRen).origin, targs := (SlBodyF.n23 sortExRen).targs,
                params := (SlBodyF.n23 sortExRen).params,
                resultTypes := (SlBodyF.n23 sortExRen).resultTypes, nfree := (SlBodyF.n23 sortExRen).nfree,
                ntmps := (SlBodyF.n23 sortExRen).ntmps, results := (SlBodyF.n23 sortExRen).results,
                body := (SlBodyF.n23 sortExRen).body, norace := (SlBodyF.n23 sortExRen).norace,
                ours := (SlBodyF.n23 sortExRen).ours, file := (SlBodyF.n23 sortExRen).file,
                endLine := (SlBodyF.n23 sortExRen).endLine, litNo := (SlBodyF.n23 sortExRen).litNo,
                met := (SlBodyF.n23 sortExRen).met, tmpNames := (SlBodyF.n23 sortExRen).tmpNames }))⟩,
  f24 :=
    Exists.intro "slices.reverseRangeCmpFunc[loop.example/bellman/impl.Ex]"
      ⟨of_decide_eq_true (id (Eq.refl true)),
        Eq.trans Tryd.func114
          (congrArg some
            (Eq.refl (α := Func)
              { name := "slices.reverseRangeCmpFunc[loop.example/bellman/impl.Ex]",
                origin := (SlBodyF.n24 sortExRen).origin, targs := (SlBodyF.n24 sortExRen).targs,
                params := (SlBodyF.n24 sortExRen).params,
                resultTypes := (SlBodyF.n24 sortExRen).resultTypes, nfree := (SlBodyF.n24 sortExRen).nfree,
                ntmps := (SlBodyF.n24 sortExRen).ntmps, results := (SlBodyF.n24 sortExRen).results,
                body := (SlBodyF.n24 sortExRen).body, norace := (SlBodyF.n24 sortExRen).norace,
                ours := (SlBodyF.n24 sortExRen).ours, file := (SlBodyF.n24 sortExRen).file,
                endLine := (SlBodyF.n24 sortExRen).endLine, litNo := (SlBodyF.n24 sortExRen).litNo,
                met := (SlBodyF.n24 sortExRen).met, tmpNames := (SlBodyF.n24 sortExRen).tmpNames }))⟩,
  f25 :=
    Exists.intro "slices.partialInsertionSortCmpFunc[loop.example/bellman/impl.Ex]"
      ⟨of_decide_eq_true (id (Eq.refl true)),
        Eq.trans Tryd.func115
          (congrArg some
            (Eq.refl (α := Func)
              { name := "slices.partialInsertionSortCmpFunc[loop.example/bellman/impl.Ex]",
                origin := (SlBodyF.n25 sortExRen).origin, targs := (SlBodyF.n25 sortExRen).targs,
                params := (SlBodyF.n25 sortExRen).params,
                resultTypes := (SlBodyF.n25 sortExRen).resultTypes, nfree := (SlBodyF.n25 sortExRen).nfree,
                ntmps := (SlBodyF.n25 sortExRen).ntmps, results := (SlBodyF.n25 sortExRen).results,
                body := (SlBodyF.n25 sortExRen).body, norace := (SlBodyF.n25 sortExRen).norace,
                ours := (SlBodyF.n25 sortExRen).ours, file := (SlBodyF.n25 sortExRen).file,
                endLine := (SlBodyF.n25 sortExRen).endLine, litNo := (SlBodyF.n25 sortExRen).litNo,
                met := (SlBodyF.n25 sortExRen).met, tmpNames := (SlBodyF.n25 sortExRen).tmpNames }))⟩,
  f26 :=
    Exists.intro "slices.partitionEqualCmpFunc[loop.example/bellman/impl.Ex]"
      ⟨of_decide_eq_true (id (Eq.refl true)),
        Eq.trans Tryd.func116
          (congrArg some
            (Eq.refl (α := Func)
              { name := "slices.partitionEqualCmpFunc[loop.example/bellman/impl.Ex]",
                origin := (SlBodyF.n26 sortExRen).origin, targs := (SlBodyF.n26 sortExRen).targs,
                params := (SlBodyF.n26 sortExRen).params,
                resultTypes := (SlBodyF.n26 sortExRen).resultTypes, nfree := (SlBodyF.n26 sortExRen).nfree,
                ntmps := (SlBodyF.n26 sortExRen).ntmps, results := (SlBodyF.n26 sortExRen).results,
                body := (SlBodyF.n26 sortExRen).body, norace := (SlBodyF.n26 sortExRen).norace,
                ours := (SlBodyF.n26 sortExRen).ours, file := (SlBodyF.n26 sortExRen).file,
                endLine := (SlBodyF.n26 sortExRen).endLine, litNo := (SlBodyF.n26 sortExRen).litNo,
                met := (SlBodyF.n26 sortExRen).met, tmpNames := (SlBodyF.n26 sortExRen).tmpNames }))⟩,
  f27 :=
    Exists.intro "slices.partitionCmpFunc[loop.example/bellman/impl.Ex]"
      ⟨of_decide_eq_true (id (Eq.refl true)),
        Eq.trans Tryd.func117
          (congrArg some
            (Eq.refl (α := Func)
              { name := "slices.partitionCmpFunc[loop.example/bellman/impl.Ex]",
                origin := (SlBodyF.n27 sortExRen).origin, targs := (SlBodyF.n27 sortExRen).targs,
                params := (SlBodyF.n27 sortExRen).params,
                resultTypes := (SlBodyF.n27 sortExRen).resultTypes, nfree := (SlBodyF.n27 sortExRen).nfree,
                ntmps := (SlBodyF.n27 sortExRen).ntmps, results := (SlBodyF.n27 sortExRen).results,
                body := (SlBodyF.n27 sortExRen).body, norace := (SlBodyF.n27 sortExRen).norace,
                ours := (SlBodyF.n27 sortExRen).ours, file := (SlBodyF.n27 sortExRen).file,
                endLine := (SlBodyF.n27 sortExRen).endLine, litNo := (SlBodyF.n27 sortExRen).litNo,
                met := (SlBodyF.n27 sortExRen).met, tmpNames := (SlBodyF.n27 sortExRen).tmpNames }))⟩,
  f28 := Eq.trans Tryd.func118 (congrArg some (Eq.refl (SlBodyF.n28 sortExRen))),
  f29 := Eq.trans Tryd.func119 (congrArg some (Eq.refl (SlBodyF.n29 sortExRen))),
  f46 :=
    Exists.intro "slices.siftDownCmpFunc[loop.example/bellman/impl.Ex]"
      ⟨of_decide_eq_true (id (Eq.refl true)),
        Eq.trans Tryd.func133
          (congrArg some
            (Eq.refl (α := Func)
              { name := "slices.siftDownCmpFunc[loop.example/bellman/impl.Ex]",
                origin := (SlBodyF.n46 sortExRen).origin, targs := (SlBodyF.n46 sortExRen).targs,
                params := (SlBodyF.n46 sortExRen).params,
                resultTypes := (SlBodyF.n46 sortExRen).resultTypes, nfree := (SlBodyF.n46 sortExRen).nfree,
                ntmps := (SlBodyF.n46 sortExRen).ntmps, results := (SlBodyF.n46 sortExRen).results,
                body := (SlBodyF.n46 sortExRen).body, norace := (SlBodyF.n46 sortExRen).norace,
                ours := (SlBodyF.n46 sortExRen).ours, file := (SlBodyF.n46 sortExRen).file,
                endLine := (SlBodyF.n46 sortExRen).endLine, litNo := (SlBodyF.n46 sortExRen).litNo,
                met := (SlBodyF.n46 sortExRen).met, tmpNames := (SlBodyF.n46 sortExRen).tmpNames }))⟩,
  f47 := Eq.trans Tryd.func134 (congrArg some (Eq.refl (SlBodyF.n47 sortExRen))),
  f48 := Eq.trans Tryd.func135 (congrArg some (Eq.refl (SlBodyF.n48 sortExRen))),
  f49 :=
    Exists.intro "slices.medianAdjacentCmpFunc[loop.example/bellman/impl.Ex]"
      ⟨of_decide_eq_true (id (Eq.refl true)),
        Eq.trans Tryd.func136
          (congrArg some
            (Eq.refl (α := Func)
              { name := "slices.medianAdjacentCmpFunc[loop.example/bellman/impl.Ex]",
                origin := (SlBodyF.n49 sortExRen).origin, targs := (SlBodyF.n49 sortExRen).targs,
                params := (SlBodyF.n49 sortExRen).params,
                resultTypes := (SlBodyF.n49 sortExRen).resultTypes, nfree := (SlBodyF.n49 sortExRen).nfree,
                ntmps := (SlBodyF.n49 sortExRen).ntmps, results := (SlBodyF.n49 sortExRen).results,
                body := (SlBodyF.n49 sortExRen).body, norace := (SlBodyF.n49 sortExRen).norace,
                ours := (SlBodyF.n49 sortExRen).ours, file := (SlBodyF.n49 sortExRen).file,
                endLine := (SlBodyF.n49 sortExRen).endLine, litNo := (SlBodyF.n49 sortExRen).litNo,
                met := (SlBodyF.n49 sortExRen).met, tmpNames := (SlBodyF.n49 sortExRen).tmpNames }))⟩,
  f50 :=
    Exists.intro "slices.medianCmpFunc[loop.example/bellman/impl.Ex]"
      ⟨of_decide_eq_true (id (Eq.refl true)),
        Eq.trans Tryd.func137
          (congrArg some
            (Eq.refl (α := Func)
              { name := "slices.medianCmpFunc[loop.example/bellman/impl.Ex]",
                origin := (SlBodyF.n50 sortExRen).origin, targs := (SlBodyF.n50 sortExRen).targs,
                params := (SlBodyF.n50 sortExRen).params,
                resultTypes := (SlBodyF.n50 sortExRen).resultTypes, nfree := (SlBodyF.n50 sortExRen).nfree,
                ntmps := (SlBodyF.n50 sortExRen).ntmps, results := (SlBodyF.n50 sortExRen).results,
                body := (SlBodyF.n50 sortExRen).body, norace := (SlBodyF.n50 sortExRen).norace,
                ours := (SlBodyF.n50 sortExRen).ours, file := (SlBodyF.n50 sortExRen).file,
                endLine := (SlBodyF.n50 sortExRen).endLine, litNo := (SlBodyF.n50 sortExRen).litNo,
                met := (SlBodyF.n50 sortExRen).met, tmpNames := (SlBodyF.n50 sortExRen).tmpNames }))⟩,
  f57 :=
    Exists.intro "slices.order2CmpFunc[loop.example/bellman/impl.Ex]"
      ⟨of_decide_eq_true (id (Eq.refl true)),
        Eq.trans Tryd.func149
          (congrArg some
            (Eq.refl (α := Func)
              { name := "slices.order2CmpFunc[loop.example/bellman/impl.Ex]",
                origin := (SlBodyF.n57 sortExRen).origin, targs := (SlBodyF.n57 sortExRen).targs,
                params := (SlBodyF.n57 sortExRen).params,
                resultTypes := (SlBodyF.n57 sortExRen).resultTypes, nfree := (SlBodyF.n57 sortExRen).nfree,
                ntmps := (SlBodyF.n57 sortExRen).ntmps, results := (SlBodyF.n57 sortExRen).results,
                body := (SlBodyF.n57 sortExRen).body, norace := (SlBodyF.n57 sortExRen).norace,
                ours := (SlBodyF.n57 sortExRen).ours, file := (SlBodyF.n57 sortExRen).file,
                endLine := (SlBodyF.n57 sortExRen).endLine, litNo := (SlBodyF.n57 sortExRen).litNo,
                met := (SlBodyF.n57 sortExRen).met, tmpNames := (SlBodyF.n57 sortExRen).tmpNames }))⟩,
  t0 := Tryd.underlying0, a0 := Tryd.isAgg0, z0 := Tryd.sizeOf0, v0 := Tryd.zeroValue0, t3 := Tryd.underlying3,
  a3 := Tryd.isAgg3, z3 := Tryd.sizeOf3, v3 := Tryd.zeroValue3, t4 := Tryd.underlying4, a4 := Tryd.isAgg4,
  z4 := Tryd.sizeOf4, v4 := Tryd.zeroValue4, t5 := Tryd.underlying5, a5 := Tryd.isAgg5, z5 := Tryd.sizeOf5,
  v5 := Tryd.zeroValue5, t9 := Tryd.underlying9, a9 := Tryd.isAgg9, z9 := Tryd.sizeOf9, v9 := Tryd.zeroValue9,
  t22 := Tryd.underlying26, a22 := Tryd.isAgg26, z22 := Tryd.sizeOf26, v22 := Tryd.zeroValue26,
  t25 := Tryd.underlying85, a25 := Tryd.isAgg85, z25 := Tryd.sizeOf85, v25 := Tryd.zeroValue85,
  t39 := Tryd.underlying115, a39 := Tryd.isAgg115, z39 := Tryd.sizeOf115, v39 := Tryd.zeroValue115,
  t45 := Tryd.underlying123, a45 := Tryd.isAgg123, z45 := Tryd.sizeOf123, v45 := Tryd.zeroValue123,
  t46 := Tryd.underlying124, a46 := Tryd.isAgg124, z46 := Tryd.sizeOf124, v46 := Tryd.zeroValue124,
  t50 := Tryd.underlying89, a50 := Tryd.isAgg89, z50 := Tryd.sizeOf89, v50 := Tryd.zeroValue89,
  t53 := Tryd.underlying130, a53 := Tryd.isAgg130, z53 := Tryd.sizeOf130, v53 := Tryd.zeroValue130,
  t55 := Tryd.underlying132, a55 := Tryd.isAgg132, z55 := Tryd.sizeOf132, v55 := Tryd.zeroValue132,
  t66 := Tryd.underlying146, a66 := Tryd.isAgg146, z66 := Tryd.sizeOf146, v66 := Tryd.zeroValue146,
  t70 := Tryd.underlying150, a70 := Tryd.isAgg150, z70 := Tryd.sizeOf150, v70 := Tryd.zeroValue150,
  t76 := Tryd.underlying162, a76 := Tryd.isAgg162, z76 := Tryd.sizeOf162, v76 := Tryd.zeroValue162,
  t77 := Tryd.underlying78, a77 := Tryd.isAgg78, z77 := Tryd.sizeOf78, v77 := Tryd.zeroValue78 }
end Go.Proofs.YtbbdkhffacoglaaDoor.Ls
