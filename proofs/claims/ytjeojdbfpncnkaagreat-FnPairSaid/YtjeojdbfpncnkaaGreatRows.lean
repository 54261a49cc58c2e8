/-
  No cell of these rows narrows 'for every input' (looked for: loops, veiled, ifaces, maps, wideKeys, modest, calm, conditions, laid).
  DERIVED. THE GIVEN ROWS OF THIS SEAT. 7 by the template 'for every input the law returns true; each argument reads behind the call as it read before'; 0 by the template 'total and deterministic' (their statements: YtjeojdbfpncnkaaGreatTotals.lean).
  GIVEN WITH THE SEED: the statements are not yours to turn. If you find one false, say at which input.
  Laid BY PROGRAM, IN A SANDBOX (cutbox-rows.mjs): the forced cells as the released guide's own fill.sh prints them over the translation 1124c9ca9aeab418… (all of the seat's roots in one cut). By AI agents, Wed Nov 11 2026. No macro, syntax, notation, axiom, sorry.
-/
import Derived.Test.YtjeojdbfpncnkaaGreatChecked
import GoSem.Claim
import GoSem.ClaimJoined
import GoSem.ClaimMapViews
import Derived.JoinedTies
import Derived.KernelRfl
namespace Go.Proofs.YtjeojdbfpncnkaaGreat
/- THE CELL 'sum', in the pinned program and in every row, IS THE sha256 OF THE DUMP (.gsa) THAT YtjeojdbfpncnkaaGreatProg.lean LOADS. Nothing in Lean hashes anything: it is a label: what it is worth is what the hold of that sum in a sandbox is worth. -/
noncomputable def Tryz.pinned : Pinned := { name := "ytjeojdbfpncnkaagreat", sum := "1124c9ca9aeab418dd5f65ec1fffa3e32aee960c76581ee047ddfa8636789d13", checked := Tryz.checked }
namespace Rows
def none {H : Type} : Left H := { results := [], args := [] }

/-- 'laws.FnPair': WHATEVER THE INPUT: true; the input reads as it did. -/
def fnPairSpec : ChangeSpec := { name := "fnPair", fn := fun _ => fun
  | [d] => { results := [.lit (.bool true)], args := [d] }
  | _ => none }
def fnPairRow : OpenClaim := { program := "ytjeojdbfpncnkaagreat", sum := "1124c9ca9aeab418dd5f65ec1fffa3e32aee960c76581ee047ddfa8636789d13", func := "loop.example/bellman/laws.FnPair", spec := "fnPair", inPlace := ["slices.overlaps[loop.example/bellman/impl.Occ]"], unfollowed := true, recurses := true, apart := false }
def FnPairSaid : Prop := fnPairRow.holds Tryz.pinned (OpenSpec.ofChange fnPairSpec)

/-- ITS FALSE NEIGHBOUR: 'it returns false'. Refute it at one input. -/
def fnPairWrong : ChangeSpec := { name := "fnPair", fn := fun _ => fun
  | [d] => { results := [.lit (.bool false)], args := [d] }
  | _ => none }
def FnPairWrongFalsely : Prop := fnPairRow.holds Tryz.pinned (OpenSpec.ofChange fnPairWrong)

/-- 'laws.FnSeq': WHATEVER THE INPUT: true; the input reads as it did. -/
def fnSeqSpec : ChangeSpec := { name := "fnSeq", fn := fun _ => fun
  | [d] => { results := [.lit (.bool true)], args := [d] }
  | _ => none }
def fnSeqRow : OpenClaim := { program := "ytjeojdbfpncnkaagreat", sum := "1124c9ca9aeab418dd5f65ec1fffa3e32aee960c76581ee047ddfa8636789d13", func := "loop.example/bellman/laws.FnSeq", spec := "fnSeq", inPlace := ["slices.overlaps[loop.example/bellman/impl.Occ]"], unfollowed := true, recurses := true, apart := false }
def FnSeqSaid : Prop := fnSeqRow.holds Tryz.pinned (OpenSpec.ofChange fnSeqSpec)

/-- ITS FALSE NEIGHBOUR: 'it returns false'. Refute it at one input. -/
def fnSeqWrong : ChangeSpec := { name := "fnSeq", fn := fun _ => fun
  | [d] => { results := [.lit (.bool false)], args := [d] }
  | _ => none }
def FnSeqWrongFalsely : Prop := fnSeqRow.holds Tryz.pinned (OpenSpec.ofChange fnSeqWrong)

/-- 'laws.FnAnd': WHATEVER THE INPUT: true; the input reads as it did. -/
def fnAndSpec : ChangeSpec := { name := "fnAnd", fn := fun _ => fun
  | [d] => { results := [.lit (.bool true)], args := [d] }
  | _ => none }
def fnAndRow : OpenClaim := { program := "ytjeojdbfpncnkaagreat", sum := "1124c9ca9aeab418dd5f65ec1fffa3e32aee960c76581ee047ddfa8636789d13", func := "loop.example/bellman/laws.FnAnd", spec := "fnAnd", inPlace := ["slices.overlaps[loop.example/bellman/impl.Occ]"], unfollowed := true, recurses := true, apart := false }
def FnAndSaid : Prop := fnAndRow.holds Tryz.pinned (OpenSpec.ofChange fnAndSpec)

/-- ITS FALSE NEIGHBOUR: 'it returns false'. Refute it at one input. -/
def fnAndWrong : ChangeSpec := { name := "fnAnd", fn := fun _ => fun
  | [d] => { results := [.lit (.bool false)], args := [d] }
  | _ => none }
def FnAndWrongFalsely : Prop := fnAndRow.holds Tryz.pinned (OpenSpec.ofChange fnAndWrong)

/-- 'laws.FnAndUsed': WHATEVER THE INPUT: true; the input reads as it did. -/
def fnAndUsedSpec : ChangeSpec := { name := "fnAndUsed", fn := fun _ => fun
  | [d] => { results := [.lit (.bool true)], args := [d] }
  | _ => none }
def fnAndUsedRow : OpenClaim := { program := "ytjeojdbfpncnkaagreat", sum := "1124c9ca9aeab418dd5f65ec1fffa3e32aee960c76581ee047ddfa8636789d13", func := "loop.example/bellman/laws.FnAndUsed", spec := "fnAndUsed", inPlace := ["slices.overlaps[loop.example/bellman/impl.Occ]"], unfollowed := true, recurses := true, apart := false }
def FnAndUsedSaid : Prop := fnAndUsedRow.holds Tryz.pinned (OpenSpec.ofChange fnAndUsedSpec)

/-- ITS FALSE NEIGHBOUR: 'it returns false'. Refute it at one input. -/
def fnAndUsedWrong : ChangeSpec := { name := "fnAndUsed", fn := fun _ => fun
  | [d] => { results := [.lit (.bool false)], args := [d] }
  | _ => none }
def FnAndUsedWrongFalsely : Prop := fnAndUsedRow.holds Tryz.pinned (OpenSpec.ofChange fnAndUsedWrong)

/-- 'laws.FnSeqAlgebra': WHATEVER THE INPUT: true; the input reads as it did. -/
def fnSeqAlgebraSpec : ChangeSpec := { name := "fnSeqAlgebra", fn := fun _ => fun
  | [d1, d2] => { results := [.lit (.bool true)], args := [d1, d2] }
  | _ => none }
def fnSeqAlgebraRow : OpenClaim := { program := "ytjeojdbfpncnkaagreat", sum := "1124c9ca9aeab418dd5f65ec1fffa3e32aee960c76581ee047ddfa8636789d13", func := "loop.example/bellman/laws.FnSeqAlgebra", spec := "fnSeqAlgebra", inPlace := ["slices.overlaps[loop.example/bellman/impl.Occ]"], unfollowed := true, recurses := true, apart := false }
def FnSeqAlgebraSaid : Prop := fnSeqAlgebraRow.holds Tryz.pinned (OpenSpec.ofChange fnSeqAlgebraSpec)

/-- ITS FALSE NEIGHBOUR: 'it returns false'. Refute it at one input. -/
def fnSeqAlgebraWrong : ChangeSpec := { name := "fnSeqAlgebra", fn := fun _ => fun
  | [d1, d2] => { results := [.lit (.bool false)], args := [d1, d2] }
  | _ => none }
def FnSeqAlgebraWrongFalsely : Prop := fnSeqAlgebraRow.holds Tryz.pinned (OpenSpec.ofChange fnSeqAlgebraWrong)

/-- 'laws.FnSeqWays': WHATEVER THE INPUT: true; the input reads as it did. -/
def fnSeqWaysSpec : ChangeSpec := { name := "fnSeqWays", fn := fun _ => fun
  | [d] => { results := [.lit (.bool true)], args := [d] }
  | _ => none }
def fnSeqWaysRow : OpenClaim := { program := "ytjeojdbfpncnkaagreat", sum := "1124c9ca9aeab418dd5f65ec1fffa3e32aee960c76581ee047ddfa8636789d13", func := "loop.example/bellman/laws.FnSeqWays", spec := "fnSeqWays", inPlace := ["slices.overlaps[loop.example/bellman/impl.Occ]"], unfollowed := true, recurses := true, apart := false }
def FnSeqWaysSaid : Prop := fnSeqWaysRow.holds Tryz.pinned (OpenSpec.ofChange fnSeqWaysSpec)

/-- ITS FALSE NEIGHBOUR: 'it returns false'. Refute it at one input. -/
def fnSeqWaysWrong : ChangeSpec := { name := "fnSeqWays", fn := fun _ => fun
  | [d] => { results := [.lit (.bool false)], args := [d] }
  | _ => none }
def FnSeqWaysWrongFalsely : Prop := fnSeqWaysRow.holds Tryz.pinned (OpenSpec.ofChange fnSeqWaysWrong)

/-- 'laws.FnSeqSum': WHATEVER THE INPUT: true; the input reads as it did. -/
def fnSeqSumSpec : ChangeSpec := { name := "fnSeqSum", fn := fun _ => fun
  | [d] => { results := [.lit (.bool true)], args := [d] }
  | _ => none }
def fnSeqSumRow : OpenClaim := { program := "ytjeojdbfpncnkaagreat", sum := "1124c9ca9aeab418dd5f65ec1fffa3e32aee960c76581ee047ddfa8636789d13", func := "loop.example/bellman/laws.FnSeqSum", spec := "fnSeqSum", inPlace := ["slices.overlaps[loop.example/bellman/impl.Occ]"], unfollowed := true, recurses := true, apart := false }
def FnSeqSumSaid : Prop := fnSeqSumRow.holds Tryz.pinned (OpenSpec.ofChange fnSeqSumSpec)

/-- ITS FALSE NEIGHBOUR: 'it returns false'. Refute it at one input. -/
def fnSeqSumWrong : ChangeSpec := { name := "fnSeqSum", fn := fun _ => fun
  | [d] => { results := [.lit (.bool false)], args := [d] }
  | _ => none }
def FnSeqSumWrongFalsely : Prop := fnSeqSumRow.holds Tryz.pinned (OpenSpec.ofChange fnSeqSumWrong)

/- THE SECOND FORM. 'bulk': how many values and letters a reading holds, each counted each time it is reached (what is shared counts as often as it is met; a slice's spare places count too). A statement '..UptoSaid' is the law's where the arguments, and the package variables that the reading takes, are together of bulk at most 1048576: NARROWER than '..Said'. Prove '..Said' where nothing that the law and all that it calls make is longer than what came in: it says more and counts as full. Else prove '..UptoSaid'. A law counts once. -/
mutual
def uptoBulk {H : Type} : DataW H → Nat
  | .lit (.string bytes) => bytes.length + 1
  | .lit _ => 1
  | .nil => 1
  | .ptr d => uptoBulk d + 1
  | .slice elems spare => uptoBulkAll elems + uptoBulkAll spare + 1
  | .agg parts => uptoBulkAll parts + 1
  | .iface _ d => uptoBulk d + 1
  | .map entries => uptoBulkEntries entries + 1
  | .held _ => 1
def uptoBulkAll {H : Type} : List (DataW H) → Nat
  | [] => 0
  | d :: r => uptoBulk d + uptoBulkAll r
def uptoBulkEntries {H : Type} : List (Lit × DataW H) → Nat
  | [] => 0
  | x :: r => uptoBulkEntry x + uptoBulkEntries r
def uptoBulkEntry {H : Type} : Lit × DataW H → Nat
  | (.string bytes, d) => bytes.length + uptoBulk d + 1
  | (_, d) => uptoBulk d + 1
 end
def uptoSmall : (H : Type) → List (DataW H) → Bool := fun _ ds => decide (uptoBulkAll ds ≤ 1048576)
def OpenSpec.upto (s : _root_.Go.ChangeSpec) : _root_.Go.OpenSpec := { _root_.Go.OpenSpec.ofChange s with cond := some uptoSmall }

/-- 'laws.FnPair', WHERE WHAT IT READS IS OF BULK AT MOST 1048576: true; the input reads as it did. -/
def fnPairUptoRow : OpenClaim := { program := "ytjeojdbfpncnkaagreat", sum := "1124c9ca9aeab418dd5f65ec1fffa3e32aee960c76581ee047ddfa8636789d13", func := "loop.example/bellman/laws.FnPair", spec := "fnPair", inPlace := ["slices.overlaps[loop.example/bellman/impl.Occ]"], unfollowed := true, recurses := true, apart := false, narrowed := true }
def FnPairUptoSaid : Prop := fnPairUptoRow.holds Tryz.pinned (OpenSpec.upto fnPairSpec)

/-- 'laws.FnSeq', WHERE WHAT IT READS IS OF BULK AT MOST 1048576: true; the input reads as it did. -/
def fnSeqUptoRow : OpenClaim := { program := "ytjeojdbfpncnkaagreat", sum := "1124c9ca9aeab418dd5f65ec1fffa3e32aee960c76581ee047ddfa8636789d13", func := "loop.example/bellman/laws.FnSeq", spec := "fnSeq", inPlace := ["slices.overlaps[loop.example/bellman/impl.Occ]"], unfollowed := true, recurses := true, apart := false, narrowed := true }
def FnSeqUptoSaid : Prop := fnSeqUptoRow.holds Tryz.pinned (OpenSpec.upto fnSeqSpec)

/-- 'laws.FnAnd', WHERE WHAT IT READS IS OF BULK AT MOST 1048576: true; the input reads as it did. -/
def fnAndUptoRow : OpenClaim := { program := "ytjeojdbfpncnkaagreat", sum := "1124c9ca9aeab418dd5f65ec1fffa3e32aee960c76581ee047ddfa8636789d13", func := "loop.example/bellman/laws.FnAnd", spec := "fnAnd", inPlace := ["slices.overlaps[loop.example/bellman/impl.Occ]"], unfollowed := true, recurses := true, apart := false, narrowed := true }
def FnAndUptoSaid : Prop := fnAndUptoRow.holds Tryz.pinned (OpenSpec.upto fnAndSpec)

/-- 'laws.FnAndUsed', WHERE WHAT IT READS IS OF BULK AT MOST 1048576: true; the input reads as it did. -/
def fnAndUsedUptoRow : OpenClaim := { program := "ytjeojdbfpncnkaagreat", sum := "1124c9ca9aeab418dd5f65ec1fffa3e32aee960c76581ee047ddfa8636789d13", func := "loop.example/bellman/laws.FnAndUsed", spec := "fnAndUsed", inPlace := ["slices.overlaps[loop.example/bellman/impl.Occ]"], unfollowed := true, recurses := true, apart := false, narrowed := true }
def FnAndUsedUptoSaid : Prop := fnAndUsedUptoRow.holds Tryz.pinned (OpenSpec.upto fnAndUsedSpec)

/-- 'laws.FnSeqAlgebra', WHERE WHAT IT READS IS OF BULK AT MOST 1048576: true; the input reads as it did. -/
def fnSeqAlgebraUptoRow : OpenClaim := { program := "ytjeojdbfpncnkaagreat", sum := "1124c9ca9aeab418dd5f65ec1fffa3e32aee960c76581ee047ddfa8636789d13", func := "loop.example/bellman/laws.FnSeqAlgebra", spec := "fnSeqAlgebra", inPlace := ["slices.overlaps[loop.example/bellman/impl.Occ]"], unfollowed := true, recurses := true, apart := false, narrowed := true }
def FnSeqAlgebraUptoSaid : Prop := fnSeqAlgebraUptoRow.holds Tryz.pinned (OpenSpec.upto fnSeqAlgebraSpec)

/-- 'laws.FnSeqWays', WHERE WHAT IT READS IS OF BULK AT MOST 1048576: true; the input reads as it did. -/
def fnSeqWaysUptoRow : OpenClaim := { program := "ytjeojdbfpncnkaagreat", sum := "1124c9ca9aeab418dd5f65ec1fffa3e32aee960c76581ee047ddfa8636789d13", func := "loop.example/bellman/laws.FnSeqWays", spec := "fnSeqWays", inPlace := ["slices.overlaps[loop.example/bellman/impl.Occ]"], unfollowed := true, recurses := true, apart := false, narrowed := true }
def FnSeqWaysUptoSaid : Prop := fnSeqWaysUptoRow.holds Tryz.pinned (OpenSpec.upto fnSeqWaysSpec)

/-- 'laws.FnSeqSum', WHERE WHAT IT READS IS OF BULK AT MOST 1048576: true; the input reads as it did. -/
def fnSeqSumUptoRow : OpenClaim := { program := "ytjeojdbfpncnkaagreat", sum := "1124c9ca9aeab418dd5f65ec1fffa3e32aee960c76581ee047ddfa8636789d13", func := "loop.example/bellman/laws.FnSeqSum", spec := "fnSeqSum", inPlace := ["slices.overlaps[loop.example/bellman/impl.Occ]"], unfollowed := true, recurses := true, apart := false, narrowed := true }
def FnSeqSumUptoSaid : Prop := fnSeqSumUptoRow.holds Tryz.pinned (OpenSpec.upto fnSeqSumSpec)

end Rows
end Go.Proofs.YtjeojdbfpncnkaaGreat
