/-
  No cell of these rows narrows 'for every input' (looked for: loops, veiled, ifaces, maps, wideKeys, modest, calm, conditions, laid).
  DERIVED. THE GIVEN ROWS OF THIS SEAT. 7 by the template 'for every input the law returns true; each argument reads behind the call as it read before'; 0 by the template 'total and deterministic' (their statements: YtccenpmaooailaaTotals.lean).
  GIVEN WITH THE SEED: the statements are not yours to turn. If you find one false, say at which input.
  Laid BY PROGRAM, IN A SANDBOX (cutbox-rows.mjs): the forced cells as the released guide's own fill.sh prints them over the translation ae3478a07960be9b… (all of the seat's roots in one cut). By AI agents, Wed Nov 11 2026. No macro, syntax, notation, axiom, sorry.
-/
import Derived.Test.YtccenpmaooailaaChecked
import GoSem.Claim
import GoSem.ClaimJoined
import GoSem.ClaimMapViews
import Derived.JoinedTies
import Derived.KernelRfl
namespace Go.Proofs.Ytccenpmaooailaa
/- THE CELL 'sum', in the pinned program and in every row, IS THE sha256 OF THE DUMP (.gsa) THAT YtccenpmaooailaaProg.lean LOADS. Nothing in Lean hashes anything: it is a label: what it is worth is what the hold of that sum in a sandbox is worth. -/
noncomputable def Try.pinned : Pinned := { name := "ytccenpmaooailaa", sum := "ae3478a07960be9b88f72e73905c82e8a02c03cb482756f540f065e2f760ea8f", checked := Try.checked }
namespace Rows
def none {H : Type} : Left H := { results := [], args := [] }

/-- 'laws.FnExactPairSeq': WHATEVER THE INPUT: true; the input reads as it did. -/
def fnExactPairSeqSpec : ChangeSpec := { name := "fnExactPairSeq", fn := fun _ => fun
  | [d1, d2, d3, d4] => { results := [.lit (.bool true)], args := [d1, d2, d3, d4] }
  | _ => none }
def fnExactPairSeqRow : OpenClaim := { program := "ytccenpmaooailaa", sum := "ae3478a07960be9b88f72e73905c82e8a02c03cb482756f540f065e2f760ea8f", func := "loop.example/bellman/laws.FnExactPairSeq", spec := "fnExactPairSeq", inPlace := ["slices.overlaps[loop.example/bellman/impl.Occ]"], unfollowed := true, recurses := true, apart := false }
def FnExactPairSeqSaid : Prop := fnExactPairSeqRow.holds Try.pinned (OpenSpec.ofChange fnExactPairSeqSpec)

/-- ITS FALSE NEIGHBOUR: 'it returns false'. Refute it at one input. -/
def fnExactPairSeqWrong : ChangeSpec := { name := "fnExactPairSeq", fn := fun _ => fun
  | [d1, d2, d3, d4] => { results := [.lit (.bool false)], args := [d1, d2, d3, d4] }
  | _ => none }
def FnExactPairSeqWrongFalsely : Prop := fnExactPairSeqRow.holds Try.pinned (OpenSpec.ofChange fnExactPairSeqWrong)

/-- 'laws.FnExactPairAnd': WHATEVER THE INPUT: true; the input reads as it did. -/
def fnExactPairAndSpec : ChangeSpec := { name := "fnExactPairAnd", fn := fun _ => fun
  | [d1, d2, d3, d4] => { results := [.lit (.bool true)], args := [d1, d2, d3, d4] }
  | _ => none }
def fnExactPairAndRow : OpenClaim := { program := "ytccenpmaooailaa", sum := "ae3478a07960be9b88f72e73905c82e8a02c03cb482756f540f065e2f760ea8f", func := "loop.example/bellman/laws.FnExactPairAnd", spec := "fnExactPairAnd", inPlace := ["slices.overlaps[loop.example/bellman/impl.Occ]"], unfollowed := true, recurses := true, apart := false }
def FnExactPairAndSaid : Prop := fnExactPairAndRow.holds Try.pinned (OpenSpec.ofChange fnExactPairAndSpec)

/-- ITS FALSE NEIGHBOUR: 'it returns false'. Refute it at one input. -/
def fnExactPairAndWrong : ChangeSpec := { name := "fnExactPairAnd", fn := fun _ => fun
  | [d1, d2, d3, d4] => { results := [.lit (.bool false)], args := [d1, d2, d3, d4] }
  | _ => none }
def FnExactPairAndWrongFalsely : Prop := fnExactPairAndRow.holds Try.pinned (OpenSpec.ofChange fnExactPairAndWrong)

/-- 'laws.FnExactSeqOf': WHATEVER THE INPUT: true; the input reads as it did. -/
def fnExactSeqOfSpec : ChangeSpec := { name := "fnExactSeqOf", fn := fun _ => fun
  | [d1, d2, d3] => { results := [.lit (.bool true)], args := [d1, d2, d3] }
  | _ => none }
def fnExactSeqOfRow : OpenClaim := { program := "ytccenpmaooailaa", sum := "ae3478a07960be9b88f72e73905c82e8a02c03cb482756f540f065e2f760ea8f", func := "loop.example/bellman/laws.FnExactSeqOf", spec := "fnExactSeqOf", inPlace := ["slices.overlaps[loop.example/bellman/impl.Occ]"], unfollowed := true, recurses := true, apart := false }
def FnExactSeqOfSaid : Prop := fnExactSeqOfRow.holds Try.pinned (OpenSpec.ofChange fnExactSeqOfSpec)

/-- ITS FALSE NEIGHBOUR: 'it returns false'. Refute it at one input. -/
def fnExactSeqOfWrong : ChangeSpec := { name := "fnExactSeqOf", fn := fun _ => fun
  | [d1, d2, d3] => { results := [.lit (.bool false)], args := [d1, d2, d3] }
  | _ => none }
def FnExactSeqOfWrongFalsely : Prop := fnExactSeqOfRow.holds Try.pinned (OpenSpec.ofChange fnExactSeqOfWrong)

/-- 'laws.FnExactAndOf': WHATEVER THE INPUT: true; the input reads as it did. -/
def fnExactAndOfSpec : ChangeSpec := { name := "fnExactAndOf", fn := fun _ => fun
  | [d1, d2, d3] => { results := [.lit (.bool true)], args := [d1, d2, d3] }
  | _ => none }
def fnExactAndOfRow : OpenClaim := { program := "ytccenpmaooailaa", sum := "ae3478a07960be9b88f72e73905c82e8a02c03cb482756f540f065e2f760ea8f", func := "loop.example/bellman/laws.FnExactAndOf", spec := "fnExactAndOf", inPlace := ["slices.overlaps[loop.example/bellman/impl.Occ]"], unfollowed := true, recurses := true, apart := false }
def FnExactAndOfSaid : Prop := fnExactAndOfRow.holds Try.pinned (OpenSpec.ofChange fnExactAndOfSpec)

/-- ITS FALSE NEIGHBOUR: 'it returns false'. Refute it at one input. -/
def fnExactAndOfWrong : ChangeSpec := { name := "fnExactAndOf", fn := fun _ => fun
  | [d1, d2, d3] => { results := [.lit (.bool false)], args := [d1, d2, d3] }
  | _ => none }
def FnExactAndOfWrongFalsely : Prop := fnExactAndOfRow.holds Try.pinned (OpenSpec.ofChange fnExactAndOfWrong)

/-- 'laws.FnExactSpanNot': WHATEVER THE INPUT: true; the input reads as it did. -/
def fnExactSpanNotSpec : ChangeSpec := { name := "fnExactSpanNot", fn := fun _ => fun
  | [d1, d2, d3, d4, d5] => { results := [.lit (.bool true)], args := [d1, d2, d3, d4, d5] }
  | _ => none }
def fnExactSpanNotRow : OpenClaim := { program := "ytccenpmaooailaa", sum := "ae3478a07960be9b88f72e73905c82e8a02c03cb482756f540f065e2f760ea8f", func := "loop.example/bellman/laws.FnExactSpanNot", spec := "fnExactSpanNot", inPlace := ["slices.overlaps[loop.example/bellman/impl.Occ]"], unfollowed := true, recurses := true, apart := false }
def FnExactSpanNotSaid : Prop := fnExactSpanNotRow.holds Try.pinned (OpenSpec.ofChange fnExactSpanNotSpec)

/-- ITS FALSE NEIGHBOUR: 'it returns false'. Refute it at one input. -/
def fnExactSpanNotWrong : ChangeSpec := { name := "fnExactSpanNot", fn := fun _ => fun
  | [d1, d2, d3, d4, d5] => { results := [.lit (.bool false)], args := [d1, d2, d3, d4, d5] }
  | _ => none }
def FnExactSpanNotWrongFalsely : Prop := fnExactSpanNotRow.holds Try.pinned (OpenSpec.ofChange fnExactSpanNotWrong)

/-- 'laws.FnExactSpanEach': WHATEVER THE INPUT: true; the input reads as it did. -/
def fnExactSpanEachSpec : ChangeSpec := { name := "fnExactSpanEach", fn := fun _ => fun
  | [d1, d2, d3, d4, d5] => { results := [.lit (.bool true)], args := [d1, d2, d3, d4, d5] }
  | _ => none }
def fnExactSpanEachRow : OpenClaim := { program := "ytccenpmaooailaa", sum := "ae3478a07960be9b88f72e73905c82e8a02c03cb482756f540f065e2f760ea8f", func := "loop.example/bellman/laws.FnExactSpanEach", spec := "fnExactSpanEach", inPlace := ["slices.overlaps[loop.example/bellman/impl.Occ]"], unfollowed := true, recurses := true, apart := false }
def FnExactSpanEachSaid : Prop := fnExactSpanEachRow.holds Try.pinned (OpenSpec.ofChange fnExactSpanEachSpec)

/-- ITS FALSE NEIGHBOUR: 'it returns false'. Refute it at one input. -/
def fnExactSpanEachWrong : ChangeSpec := { name := "fnExactSpanEach", fn := fun _ => fun
  | [d1, d2, d3, d4, d5] => { results := [.lit (.bool false)], args := [d1, d2, d3, d4, d5] }
  | _ => none }
def FnExactSpanEachWrongFalsely : Prop := fnExactSpanEachRow.holds Try.pinned (OpenSpec.ofChange fnExactSpanEachWrong)

/-- 'laws.FnSpanMid': WHATEVER THE INPUT: true; the input reads as it did. -/
def fnSpanMidSpec : ChangeSpec := { name := "fnSpanMid", fn := fun _ => fun
  | [d] => { results := [.lit (.bool true)], args := [d] }
  | _ => none }
def fnSpanMidRow : OpenClaim := { program := "ytccenpmaooailaa", sum := "ae3478a07960be9b88f72e73905c82e8a02c03cb482756f540f065e2f760ea8f", func := "loop.example/bellman/laws.FnSpanMid", spec := "fnSpanMid", inPlace := ["slices.overlaps[loop.example/bellman/impl.Occ]"], unfollowed := true, recurses := true, apart := false }
def FnSpanMidSaid : Prop := fnSpanMidRow.holds Try.pinned (OpenSpec.ofChange fnSpanMidSpec)

/-- ITS FALSE NEIGHBOUR: 'it returns false'. Refute it at one input. -/
def fnSpanMidWrong : ChangeSpec := { name := "fnSpanMid", fn := fun _ => fun
  | [d] => { results := [.lit (.bool false)], args := [d] }
  | _ => none }
def FnSpanMidWrongFalsely : Prop := fnSpanMidRow.holds Try.pinned (OpenSpec.ofChange fnSpanMidWrong)

/- THE SECOND FORM. 'bulk': how many values and letters a reading holds, each counted each time it is reached (what is shared counts as often as it is met; a slice's spare places count too). A statement '..UptoSaid' is the law's where the arguments, and the package variables that the reading takes, are together of bulk at most 1048576: NARROWER than '..Said'. Prove '..Said' where nothing that the law and all that it calls make is longer than what came in: it says more and counts as full. Else prove '..UptoSaid'. A law counts once. -/
mutual
def uptoBulk {H : Type} : DataW H → Nat
  | .lit (.string bytes) => bytes.length + 1
  | .lit _ => 1
  | .nil => 1
  | .ptr d => uptoBulk d + 1
  | .slice elems spare => uptoBulkAll elems + uptoBulkAll spare + 1
  | .agg parts => uptoBulkAll parts + 1
  | .iface _ d => uptoBulk d + 1
  | .map entries => uptoBulkEntries entries + 1
  | .held _ => 1
def uptoBulkAll {H : Type} : List (DataW H) → Nat
  | [] => 0
  | d :: r => uptoBulk d + uptoBulkAll r
def uptoBulkEntries {H : Type} : List (Lit × DataW H) → Nat
  | [] => 0
  | x :: r => uptoBulkEntry x + uptoBulkEntries r
def uptoBulkEntry {H : Type} : Lit × DataW H → Nat
  | (.string bytes, d) => bytes.length + uptoBulk d + 1
  | (_, d) => uptoBulk d + 1
 end
def uptoSmall : (H : Type) → List (DataW H) → Bool := fun _ ds => decide (uptoBulkAll ds ≤ 1048576)
def OpenSpec.upto (s : _root_.Go.ChangeSpec) : _root_.Go.OpenSpec := { _root_.Go.OpenSpec.ofChange s with cond := some uptoSmall }

/-- 'laws.FnExactPairSeq', WHERE WHAT IT READS IS OF BULK AT MOST 1048576: true; the input reads as it did. -/
def fnExactPairSeqUptoRow : OpenClaim := { program := "ytccenpmaooailaa", sum := "ae3478a07960be9b88f72e73905c82e8a02c03cb482756f540f065e2f760ea8f", func := "loop.example/bellman/laws.FnExactPairSeq", spec := "fnExactPairSeq", inPlace := ["slices.overlaps[loop.example/bellman/impl.Occ]"], unfollowed := true, recurses := true, apart := false, narrowed := true }
def FnExactPairSeqUptoSaid : Prop := fnExactPairSeqUptoRow.holds Try.pinned (OpenSpec.upto fnExactPairSeqSpec)

/-- 'laws.FnExactPairAnd', WHERE WHAT IT READS IS OF BULK AT MOST 1048576: true; the input reads as it did. -/
def fnExactPairAndUptoRow : OpenClaim := { program := "ytccenpmaooailaa", sum := "ae3478a07960be9b88f72e73905c82e8a02c03cb482756f540f065e2f760ea8f", func := "loop.example/bellman/laws.FnExactPairAnd", spec := "fnExactPairAnd", inPlace := ["slices.overlaps[loop.example/bellman/impl.Occ]"], unfollowed := true, recurses := true, apart := false, narrowed := true }
def FnExactPairAndUptoSaid : Prop := fnExactPairAndUptoRow.holds Try.pinned (OpenSpec.upto fnExactPairAndSpec)

/-- 'laws.FnExactSeqOf', WHERE WHAT IT READS IS OF BULK AT MOST 1048576: true; the input reads as it did. -/
def fnExactSeqOfUptoRow : OpenClaim := { program := "ytccenpmaooailaa", sum := "ae3478a07960be9b88f72e73905c82e8a02c03cb482756f540f065e2f760ea8f", func := "loop.example/bellman/laws.FnExactSeqOf", spec := "fnExactSeqOf", inPlace := ["slices.overlaps[loop.example/bellman/impl.Occ]"], unfollowed := true, recurses := true, apart := false, narrowed := true }
def FnExactSeqOfUptoSaid : Prop := fnExactSeqOfUptoRow.holds Try.pinned (OpenSpec.upto fnExactSeqOfSpec)

/-- 'laws.FnExactAndOf', WHERE WHAT IT READS IS OF BULK AT MOST 1048576: true; the input reads as it did. -/
def fnExactAndOfUptoRow : OpenClaim := { program := "ytccenpmaooailaa", sum := "ae3478a07960be9b88f72e73905c82e8a02c03cb482756f540f065e2f760ea8f", func := "loop.example/bellman/laws.FnExactAndOf", spec := "fnExactAndOf", inPlace := ["slices.overlaps[loop.example/bellman/impl.Occ]"], unfollowed := true, recurses := true, apart := false, narrowed := true }
def FnExactAndOfUptoSaid : Prop := fnExactAndOfUptoRow.holds Try.pinned (OpenSpec.upto fnExactAndOfSpec)

/-- 'laws.FnExactSpanNot', WHERE WHAT IT READS IS OF BULK AT MOST 1048576: true; the input reads as it did. -/
def fnExactSpanNotUptoRow : OpenClaim := { program := "ytccenpmaooailaa", sum := "ae3478a07960be9b88f72e73905c82e8a02c03cb482756f540f065e2f760ea8f", func := "loop.example/bellman/laws.FnExactSpanNot", spec := "fnExactSpanNot", inPlace := ["slices.overlaps[loop.example/bellman/impl.Occ]"], unfollowed := true, recurses := true, apart := false, narrowed := true }
def FnExactSpanNotUptoSaid : Prop := fnExactSpanNotUptoRow.holds Try.pinned (OpenSpec.upto fnExactSpanNotSpec)

/-- 'laws.FnExactSpanEach', WHERE WHAT IT READS IS OF BULK AT MOST 1048576: true; the input reads as it did. -/
def fnExactSpanEachUptoRow : OpenClaim := { program := "ytccenpmaooailaa", sum := "ae3478a07960be9b88f72e73905c82e8a02c03cb482756f540f065e2f760ea8f", func := "loop.example/bellman/laws.FnExactSpanEach", spec := "fnExactSpanEach", inPlace := ["slices.overlaps[loop.example/bellman/impl.Occ]"], unfollowed := true, recurses := true, apart := false, narrowed := true }
def FnExactSpanEachUptoSaid : Prop := fnExactSpanEachUptoRow.holds Try.pinned (OpenSpec.upto fnExactSpanEachSpec)

/-- 'laws.FnSpanMid', WHERE WHAT IT READS IS OF BULK AT MOST 1048576: true; the input reads as it did. -/
def fnSpanMidUptoRow : OpenClaim := { program := "ytccenpmaooailaa", sum := "ae3478a07960be9b88f72e73905c82e8a02c03cb482756f540f065e2f760ea8f", func := "loop.example/bellman/laws.FnSpanMid", spec := "fnSpanMid", inPlace := ["slices.overlaps[loop.example/bellman/impl.Occ]"], unfollowed := true, recurses := true, apart := false, narrowed := true }
def FnSpanMidUptoSaid : Prop := fnSpanMidUptoRow.holds Try.pinned (OpenSpec.upto fnSpanMidSpec)

end Rows
end Go.Proofs.Ytccenpmaooailaa
