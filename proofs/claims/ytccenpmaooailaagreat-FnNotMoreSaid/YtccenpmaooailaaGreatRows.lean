/-
  No cell of these rows narrows 'for every input' (looked for: loops, veiled, ifaces, maps, wideKeys, modest, calm, conditions, laid).
  DERIVED. THE GIVEN ROWS OF THIS SEAT. 7 by the template 'for every input the law returns true; each argument reads behind the call as it read before'; 0 by the template 'total and deterministic' (their statements: YtccenpmaooailaaGreatTotals.lean).
  GIVEN WITH THE SEED: the statements are not yours to turn. If you find one false, say at which input.
  Laid BY PROGRAM, IN A SANDBOX (cutbox-rows.mjs): the forced cells as the released guide's own fill.sh prints them over the translation 25b404925f8d1ca6… (all of the seat's roots in one cut). By AI agents, Wed Nov 11 2026. No macro, syntax, notation, axiom, sorry.
-/
import Derived.Test.YtccenpmaooailaaGreatChecked
import GoSem.Claim
import GoSem.ClaimJoined
import GoSem.ClaimMapViews
import Derived.JoinedTies
import Derived.KernelRfl
namespace Go.Proofs.YtccenpmaooailaaGreat
/- THE CELL 'sum', in the pinned program and in every row, IS THE sha256 OF THE DUMP (.gsa) THAT YtccenpmaooailaaGreatProg.lean LOADS. Nothing in Lean hashes anything: it is a label: what it is worth is what the hold of that sum in a sandbox is worth. -/
noncomputable def Tryz.pinned : Pinned := { name := "ytccenpmaooailaagreat", sum := "25b404925f8d1ca6b1e49a96de2dc35c551bff4153e0675c50e632f811fa5790", checked := Tryz.checked }
namespace Rows
def none {H : Type} : Left H := { results := [], args := [] }

/-- 'laws.FnSpan': WHATEVER THE INPUT: true; the input reads as it did. -/
def fnSpanSpec : ChangeSpec := { name := "fnSpan", fn := fun _ => fun
  | [d] => { results := [.lit (.bool true)], args := [d] }
  | _ => none }
def fnSpanRow : OpenClaim := { program := "ytccenpmaooailaagreat", sum := "25b404925f8d1ca6b1e49a96de2dc35c551bff4153e0675c50e632f811fa5790", func := "loop.example/bellman/laws.FnSpan", spec := "fnSpan", inPlace := ["slices.overlaps[loop.example/bellman/impl.Occ]"], unfollowed := true, recurses := true, apart := false }
def FnSpanSaid : Prop := fnSpanRow.holds Tryz.pinned (OpenSpec.ofChange fnSpanSpec)

/-- ITS FALSE NEIGHBOUR: 'it returns false'. Refute it at one input. -/
def fnSpanWrong : ChangeSpec := { name := "fnSpan", fn := fun _ => fun
  | [d] => { results := [.lit (.bool false)], args := [d] }
  | _ => none }
def FnSpanWrongFalsely : Prop := fnSpanRow.holds Tryz.pinned (OpenSpec.ofChange fnSpanWrong)

/-- 'laws.FnEach': WHATEVER THE INPUT: true; the input reads as it did. -/
def fnEachSpec : ChangeSpec := { name := "fnEach", fn := fun _ => fun
  | [d] => { results := [.lit (.bool true)], args := [d] }
  | _ => none }
def fnEachRow : OpenClaim := { program := "ytccenpmaooailaagreat", sum := "25b404925f8d1ca6b1e49a96de2dc35c551bff4153e0675c50e632f811fa5790", func := "loop.example/bellman/laws.FnEach", spec := "fnEach", inPlace := ["slices.overlaps[loop.example/bellman/impl.Occ]"], unfollowed := true, recurses := true, apart := false }
def FnEachSaid : Prop := fnEachRow.holds Tryz.pinned (OpenSpec.ofChange fnEachSpec)

/-- ITS FALSE NEIGHBOUR: 'it returns false'. Refute it at one input. -/
def fnEachWrong : ChangeSpec := { name := "fnEach", fn := fun _ => fun
  | [d] => { results := [.lit (.bool false)], args := [d] }
  | _ => none }
def FnEachWrongFalsely : Prop := fnEachRow.holds Tryz.pinned (OpenSpec.ofChange fnEachWrong)

/-- 'laws.FnNot': WHATEVER THE INPUT: true; the input reads as it did. -/
def fnNotSpec : ChangeSpec := { name := "fnNot", fn := fun _ => fun
  | [d] => { results := [.lit (.bool true)], args := [d] }
  | _ => none }
def fnNotRow : OpenClaim := { program := "ytccenpmaooailaagreat", sum := "25b404925f8d1ca6b1e49a96de2dc35c551bff4153e0675c50e632f811fa5790", func := "loop.example/bellman/laws.FnNot", spec := "fnNot", inPlace := ["slices.overlaps[loop.example/bellman/impl.Occ]"], unfollowed := true, recurses := true, apart := false }
def FnNotSaid : Prop := fnNotRow.holds Tryz.pinned (OpenSpec.ofChange fnNotSpec)

/-- ITS FALSE NEIGHBOUR: 'it returns false'. Refute it at one input. -/
def fnNotWrong : ChangeSpec := { name := "fnNot", fn := fun _ => fun
  | [d] => { results := [.lit (.bool false)], args := [d] }
  | _ => none }
def FnNotWrongFalsely : Prop := fnNotRow.holds Tryz.pinned (OpenSpec.ofChange fnNotWrong)

/-- 'laws.FnNotMore': WHATEVER THE INPUT: true; the input reads as it did. -/
def fnNotMoreSpec : ChangeSpec := { name := "fnNotMore", fn := fun _ => fun
  | [d1, d2] => { results := [.lit (.bool true)], args := [d1, d2] }
  | _ => none }
def fnNotMoreRow : OpenClaim := { program := "ytccenpmaooailaagreat", sum := "25b404925f8d1ca6b1e49a96de2dc35c551bff4153e0675c50e632f811fa5790", func := "loop.example/bellman/laws.FnNotMore", spec := "fnNotMore", inPlace := ["slices.overlaps[loop.example/bellman/impl.Occ]"], unfollowed := true, recurses := true, apart := false }
def FnNotMoreSaid : Prop := fnNotMoreRow.holds Tryz.pinned (OpenSpec.ofChange fnNotMoreSpec)

/-- ITS FALSE NEIGHBOUR: 'it returns false'. Refute it at one input. -/
def fnNotMoreWrong : ChangeSpec := { name := "fnNotMore", fn := fun _ => fun
  | [d1, d2] => { results := [.lit (.bool false)], args := [d1, d2] }
  | _ => none }
def FnNotMoreWrongFalsely : Prop := fnNotMoreRow.holds Tryz.pinned (OpenSpec.ofChange fnNotMoreWrong)

/-- 'laws.FnEachMore': WHATEVER THE INPUT: true; the input reads as it did. -/
def fnEachMoreSpec : ChangeSpec := { name := "fnEachMore", fn := fun _ => fun
  | [d1, d2] => { results := [.lit (.bool true)], args := [d1, d2] }
  | _ => none }
def fnEachMoreRow : OpenClaim := { program := "ytccenpmaooailaagreat", sum := "25b404925f8d1ca6b1e49a96de2dc35c551bff4153e0675c50e632f811fa5790", func := "loop.example/bellman/laws.FnEachMore", spec := "fnEachMore", inPlace := ["slices.overlaps[loop.example/bellman/impl.Occ]"], unfollowed := true, recurses := true, apart := false }
def FnEachMoreSaid : Prop := fnEachMoreRow.holds Tryz.pinned (OpenSpec.ofChange fnEachMoreSpec)

/-- ITS FALSE NEIGHBOUR: 'it returns false'. Refute it at one input. -/
def fnEachMoreWrong : ChangeSpec := { name := "fnEachMore", fn := fun _ => fun
  | [d1, d2] => { results := [.lit (.bool false)], args := [d1, d2] }
  | _ => none }
def FnEachMoreWrongFalsely : Prop := fnEachMoreRow.holds Tryz.pinned (OpenSpec.ofChange fnEachMoreWrong)

/-- 'laws.FnExactNotOf': WHATEVER THE INPUT: true; the input reads as it did. -/
def fnExactNotOfSpec : ChangeSpec := { name := "fnExactNotOf", fn := fun _ => fun
  | [d1, d2, d3, d4] => { results := [.lit (.bool true)], args := [d1, d2, d3, d4] }
  | _ => none }
def fnExactNotOfRow : OpenClaim := { program := "ytccenpmaooailaagreat", sum := "25b404925f8d1ca6b1e49a96de2dc35c551bff4153e0675c50e632f811fa5790", func := "loop.example/bellman/laws.FnExactNotOf", spec := "fnExactNotOf", inPlace := ["slices.overlaps[loop.example/bellman/impl.Occ]"], unfollowed := true, recurses := true, apart := false }
def FnExactNotOfSaid : Prop := fnExactNotOfRow.holds Tryz.pinned (OpenSpec.ofChange fnExactNotOfSpec)

/-- ITS FALSE NEIGHBOUR: 'it returns false'. Refute it at one input. -/
def fnExactNotOfWrong : ChangeSpec := { name := "fnExactNotOf", fn := fun _ => fun
  | [d1, d2, d3, d4] => { results := [.lit (.bool false)], args := [d1, d2, d3, d4] }
  | _ => none }
def FnExactNotOfWrongFalsely : Prop := fnExactNotOfRow.holds Tryz.pinned (OpenSpec.ofChange fnExactNotOfWrong)

/-- 'laws.FnExactEachOf': WHATEVER THE INPUT: true; the input reads as it did. -/
def fnExactEachOfSpec : ChangeSpec := { name := "fnExactEachOf", fn := fun _ => fun
  | [d1, d2, d3, d4] => { results := [.lit (.bool true)], args := [d1, d2, d3, d4] }
  | _ => none }
def fnExactEachOfRow : OpenClaim := { program := "ytccenpmaooailaagreat", sum := "25b404925f8d1ca6b1e49a96de2dc35c551bff4153e0675c50e632f811fa5790", func := "loop.example/bellman/laws.FnExactEachOf", spec := "fnExactEachOf", inPlace := ["slices.overlaps[loop.example/bellman/impl.Occ]"], unfollowed := true, recurses := true, apart := false }
def FnExactEachOfSaid : Prop := fnExactEachOfRow.holds Tryz.pinned (OpenSpec.ofChange fnExactEachOfSpec)

/-- ITS FALSE NEIGHBOUR: 'it returns false'. Refute it at one input. -/
def fnExactEachOfWrong : ChangeSpec := { name := "fnExactEachOf", fn := fun _ => fun
  | [d1, d2, d3, d4] => { results := [.lit (.bool false)], args := [d1, d2, d3, d4] }
  | _ => none }
def FnExactEachOfWrongFalsely : Prop := fnExactEachOfRow.holds Tryz.pinned (OpenSpec.ofChange fnExactEachOfWrong)

/- THE SECOND FORM. 'bulk': how many values and letters a reading holds, each counted each time it is reached (what is shared counts as often as it is met; a slice's spare places count too). A statement '..UptoSaid' is the law's where the arguments, and the package variables that the reading takes, are together of bulk at most 1048576: NARROWER than '..Said'. Prove '..Said' where nothing that the law and all that it calls make is longer than what came in: it says more and counts as full. Else prove '..UptoSaid'. A law counts once. -/
mutual
def uptoBulk {H : Type} : DataW H → Nat
  | .lit (.string bytes) => bytes.length + 1
  | .lit _ => 1
  | .nil => 1
  | .ptr d => uptoBulk d + 1
  | .slice elems spare => uptoBulkAll elems + uptoBulkAll spare + 1
  | .agg parts => uptoBulkAll parts + 1
  | .iface _ d => uptoBulk d + 1
  | .map entries => uptoBulkEntries entries + 1
  | .held _ => 1
def uptoBulkAll {H : Type} : List (DataW H) → Nat
  | [] => 0
  | d :: r => uptoBulk d + uptoBulkAll r
def uptoBulkEntries {H : Type} : List (Lit × DataW H) → Nat
  | [] => 0
  | x :: r => uptoBulkEntry x + uptoBulkEntries r
def uptoBulkEntry {H : Type} : Lit × DataW H → Nat
  | (.string bytes, d) => bytes.length + uptoBulk d + 1
  | (_, d) => uptoBulk d + 1
 end
def uptoSmall : (H : Type) → List (DataW H) → Bool := fun _ ds => decide (uptoBulkAll ds ≤ 1048576)
def OpenSpec.upto (s : _root_.Go.ChangeSpec) : _root_.Go.OpenSpec := { _root_.Go.OpenSpec.ofChange s with cond := some uptoSmall }

/-- 'laws.FnSpan', WHERE WHAT IT READS IS OF BULK AT MOST 1048576: true; the input reads as it did. -/
def fnSpanUptoRow : OpenClaim := { program := "ytccenpmaooailaagreat", sum := "25b404925f8d1ca6b1e49a96de2dc35c551bff4153e0675c50e632f811fa5790", func := "loop.example/bellman/laws.FnSpan", spec := "fnSpan", inPlace := ["slices.overlaps[loop.example/bellman/impl.Occ]"], unfollowed := true, recurses := true, apart := false, narrowed := true }
def FnSpanUptoSaid : Prop := fnSpanUptoRow.holds Tryz.pinned (OpenSpec.upto fnSpanSpec)

/-- 'laws.FnEach', WHERE WHAT IT READS IS OF BULK AT MOST 1048576: true; the input reads as it did. -/
def fnEachUptoRow : OpenClaim := { program := "ytccenpmaooailaagreat", sum := "25b404925f8d1ca6b1e49a96de2dc35c551bff4153e0675c50e632f811fa5790", func := "loop.example/bellman/laws.FnEach", spec := "fnEach", inPlace := ["slices.overlaps[loop.example/bellman/impl.Occ]"], unfollowed := true, recurses := true, apart := false, narrowed := true }
def FnEachUptoSaid : Prop := fnEachUptoRow.holds Tryz.pinned (OpenSpec.upto fnEachSpec)

/-- 'laws.FnNot', WHERE WHAT IT READS IS OF BULK AT MOST 1048576: true; the input reads as it did. -/
def fnNotUptoRow : OpenClaim := { program := "ytccenpmaooailaagreat", sum := "25b404925f8d1ca6b1e49a96de2dc35c551bff4153e0675c50e632f811fa5790", func := "loop.example/bellman/laws.FnNot", spec := "fnNot", inPlace := ["slices.overlaps[loop.example/bellman/impl.Occ]"], unfollowed := true, recurses := true, apart := false, narrowed := true }
def FnNotUptoSaid : Prop := fnNotUptoRow.holds Tryz.pinned (OpenSpec.upto fnNotSpec)

/-- 'laws.FnNotMore', WHERE WHAT IT READS IS OF BULK AT MOST 1048576: true; the input reads as it did. -/
def fnNotMoreUptoRow : OpenClaim := { program := "ytccenpmaooailaagreat", sum := "25b404925f8d1ca6b1e49a96de2dc35c551bff4153e0675c50e632f811fa5790", func := "loop.example/bellman/laws.FnNotMore", spec := "fnNotMore", inPlace := ["slices.overlaps[loop.example/bellman/impl.Occ]"], unfollowed := true, recurses := true, apart := false, narrowed := true }
def FnNotMoreUptoSaid : Prop := fnNotMoreUptoRow.holds Tryz.pinned (OpenSpec.upto fnNotMoreSpec)

/-- 'laws.FnEachMore', WHERE WHAT IT READS IS OF BULK AT MOST 1048576: true; the input reads as it did. -/
def fnEachMoreUptoRow : OpenClaim := { program := "ytccenpmaooailaagreat", sum := "25b404925f8d1ca6b1e49a96de2dc35c551bff4153e0675c50e632f811fa5790", func := "loop.example/bellman/laws.FnEachMore", spec := "fnEachMore", inPlace := ["slices.overlaps[loop.example/bellman/impl.Occ]"], unfollowed := true, recurses := true, apart := false, narrowed := true }
def FnEachMoreUptoSaid : Prop := fnEachMoreUptoRow.holds Tryz.pinned (OpenSpec.upto fnEachMoreSpec)

/-- 'laws.FnExactNotOf', WHERE WHAT IT READS IS OF BULK AT MOST 1048576: true; the input reads as it did. -/
def fnExactNotOfUptoRow : OpenClaim := { program := "ytccenpmaooailaagreat", sum := "25b404925f8d1ca6b1e49a96de2dc35c551bff4153e0675c50e632f811fa5790", func := "loop.example/bellman/laws.FnExactNotOf", spec := "fnExactNotOf", inPlace := ["slices.overlaps[loop.example/bellman/impl.Occ]"], unfollowed := true, recurses := true, apart := false, narrowed := true }
def FnExactNotOfUptoSaid : Prop := fnExactNotOfUptoRow.holds Tryz.pinned (OpenSpec.upto fnExactNotOfSpec)

/-- 'laws.FnExactEachOf', WHERE WHAT IT READS IS OF BULK AT MOST 1048576: true; the input reads as it did. -/
def fnExactEachOfUptoRow : OpenClaim := { program := "ytccenpmaooailaagreat", sum := "25b404925f8d1ca6b1e49a96de2dc35c551bff4153e0675c50e632f811fa5790", func := "loop.example/bellman/laws.FnExactEachOf", spec := "fnExactEachOf", inPlace := ["slices.overlaps[loop.example/bellman/impl.Occ]"], unfollowed := true, recurses := true, apart := false, narrowed := true }
def FnExactEachOfUptoSaid : Prop := fnExactEachOfUptoRow.holds Tryz.pinned (OpenSpec.upto fnExactEachOfSpec)

end Rows
end Go.Proofs.YtccenpmaooailaaGreat
