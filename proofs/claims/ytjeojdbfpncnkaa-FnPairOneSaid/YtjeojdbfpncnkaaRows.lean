/-
  No cell of these rows narrows 'for every input' (looked for: loops, veiled, ifaces, maps, wideKeys, modest, calm, conditions, laid).
  DERIVED. THE GIVEN ROWS OF THIS SEAT. 5 by the template 'for every input the law returns true; each argument reads behind the call as it read before'; 0 by the template 'total and deterministic' (their statements: YtjeojdbfpncnkaaTotals.lean).
  GIVEN WITH THE SEED: the statements are not yours to turn. If you find one false, say at which input.
  Laid BY PROGRAM, IN A SANDBOX (cutbox-rows.mjs): the forced cells as the released guide's own fill.sh prints them over the translation a497f600d3d3e796… (all of the seat's roots in one cut). By AI agents, Wed Nov 11 2026. No macro, syntax, notation, axiom, sorry.
-/
import Derived.Test.YtjeojdbfpncnkaaChecked
import GoSem.Claim
import GoSem.ClaimJoined
import GoSem.ClaimMapViews
import Derived.JoinedTies
import Derived.KernelRfl
namespace Go.Proofs.Ytjeojdbfpncnkaa
/- THE CELL 'sum', in the pinned program and in every row, IS THE sha256 OF THE DUMP (.gsa) THAT YtjeojdbfpncnkaaProg.lean LOADS. Nothing in Lean hashes anything: it is a label: what it is worth is what the hold of that sum in a sandbox is worth. -/
noncomputable def Try.pinned : Pinned := { name := "ytjeojdbfpncnkaa", sum := "a497f600d3d3e796245c0eca6bfd1e1fe6b5d33aeb35e6006171a5bb39ed6e80", checked := Try.checked }
namespace Rows
def none {H : Type} : Left H := { results := [], args := [] }

/-- 'laws.FnOccBent': WHATEVER THE INPUT: true; the input reads as it did. -/
def fnOccBentSpec : ChangeSpec := { name := "fnOccBent", fn := fun _ => fun
  | [d] => { results := [.lit (.bool true)], args := [d] }
  | _ => none }
def fnOccBentRow : OpenClaim := { program := "ytjeojdbfpncnkaa", sum := "a497f600d3d3e796245c0eca6bfd1e1fe6b5d33aeb35e6006171a5bb39ed6e80", func := "loop.example/bellman/laws.FnOccBent", spec := "fnOccBent", inPlace := ["slices.overlaps[loop.example/bellman/impl.Occ]"], unfollowed := true, recurses := true, apart := false }
def FnOccBentSaid : Prop := fnOccBentRow.holds Try.pinned (OpenSpec.ofChange fnOccBentSpec)

/-- ITS FALSE NEIGHBOUR: 'it returns false'. Refute it at one input. -/
def fnOccBentWrong : ChangeSpec := { name := "fnOccBent", fn := fun _ => fun
  | [d] => { results := [.lit (.bool false)], args := [d] }
  | _ => none }
def FnOccBentWrongFalsely : Prop := fnOccBentRow.holds Try.pinned (OpenSpec.ofChange fnOccBentWrong)

/-- 'laws.FnPairWaits': WHATEVER THE INPUT: true; the input reads as it did. -/
def fnPairWaitsSpec : ChangeSpec := { name := "fnPairWaits", fn := fun _ => fun
  | [d] => { results := [.lit (.bool true)], args := [d] }
  | _ => none }
def fnPairWaitsRow : OpenClaim := { program := "ytjeojdbfpncnkaa", sum := "a497f600d3d3e796245c0eca6bfd1e1fe6b5d33aeb35e6006171a5bb39ed6e80", func := "loop.example/bellman/laws.FnPairWaits", spec := "fnPairWaits", inPlace := ["slices.overlaps[loop.example/bellman/impl.Occ]"], unfollowed := true, recurses := true, apart := false }
def FnPairWaitsSaid : Prop := fnPairWaitsRow.holds Try.pinned (OpenSpec.ofChange fnPairWaitsSpec)

/-- ITS FALSE NEIGHBOUR: 'it returns false'. Refute it at one input. -/
def fnPairWaitsWrong : ChangeSpec := { name := "fnPairWaits", fn := fun _ => fun
  | [d] => { results := [.lit (.bool false)], args := [d] }
  | _ => none }
def FnPairWaitsWrongFalsely : Prop := fnPairWaitsRow.holds Try.pinned (OpenSpec.ofChange fnPairWaitsWrong)

/-- 'laws.FnPairOne': WHATEVER THE INPUT: true; the input reads as it did. -/
def fnPairOneSpec : ChangeSpec := { name := "fnPairOne", fn := fun _ => fun
  | [d] => { results := [.lit (.bool true)], args := [d] }
  | _ => none }
def fnPairOneRow : OpenClaim := { program := "ytjeojdbfpncnkaa", sum := "a497f600d3d3e796245c0eca6bfd1e1fe6b5d33aeb35e6006171a5bb39ed6e80", func := "loop.example/bellman/laws.FnPairOne", spec := "fnPairOne", inPlace := ["slices.overlaps[loop.example/bellman/impl.Occ]"], unfollowed := true, recurses := true, apart := false }
def FnPairOneSaid : Prop := fnPairOneRow.holds Try.pinned (OpenSpec.ofChange fnPairOneSpec)

/-- ITS FALSE NEIGHBOUR: 'it returns false'. Refute it at one input. -/
def fnPairOneWrong : ChangeSpec := { name := "fnPairOne", fn := fun _ => fun
  | [d] => { results := [.lit (.bool false)], args := [d] }
  | _ => none }
def FnPairOneWrongFalsely : Prop := fnPairOneRow.holds Try.pinned (OpenSpec.ofChange fnPairOneWrong)

/-- 'laws.FnSeqUsed': WHATEVER THE INPUT: true; the input reads as it did. -/
def fnSeqUsedSpec : ChangeSpec := { name := "fnSeqUsed", fn := fun _ => fun
  | [d] => { results := [.lit (.bool true)], args := [d] }
  | _ => none }
def fnSeqUsedRow : OpenClaim := { program := "ytjeojdbfpncnkaa", sum := "a497f600d3d3e796245c0eca6bfd1e1fe6b5d33aeb35e6006171a5bb39ed6e80", func := "loop.example/bellman/laws.FnSeqUsed", spec := "fnSeqUsed", inPlace := ["slices.overlaps[loop.example/bellman/impl.Occ]"], unfollowed := true, recurses := true, apart := false }
def FnSeqUsedSaid : Prop := fnSeqUsedRow.holds Try.pinned (OpenSpec.ofChange fnSeqUsedSpec)

/-- ITS FALSE NEIGHBOUR: 'it returns false'. Refute it at one input. -/
def fnSeqUsedWrong : ChangeSpec := { name := "fnSeqUsed", fn := fun _ => fun
  | [d] => { results := [.lit (.bool false)], args := [d] }
  | _ => none }
def FnSeqUsedWrongFalsely : Prop := fnSeqUsedRow.holds Try.pinned (OpenSpec.ofChange fnSeqUsedWrong)

/-- 'laws.FnSpanMid': WHATEVER THE INPUT: true; the input reads as it did. -/
def fnSpanMidSpec : ChangeSpec := { name := "fnSpanMid", fn := fun _ => fun
  | [d] => { results := [.lit (.bool true)], args := [d] }
  | _ => none }
def fnSpanMidRow : OpenClaim := { program := "ytjeojdbfpncnkaa", sum := "a497f600d3d3e796245c0eca6bfd1e1fe6b5d33aeb35e6006171a5bb39ed6e80", func := "loop.example/bellman/laws.FnSpanMid", spec := "fnSpanMid", inPlace := ["slices.overlaps[loop.example/bellman/impl.Occ]"], unfollowed := true, recurses := true, apart := false }
def FnSpanMidSaid : Prop := fnSpanMidRow.holds Try.pinned (OpenSpec.ofChange fnSpanMidSpec)

/-- ITS FALSE NEIGHBOUR: 'it returns false'. Refute it at one input. -/
def fnSpanMidWrong : ChangeSpec := { name := "fnSpanMid", fn := fun _ => fun
  | [d] => { results := [.lit (.bool false)], args := [d] }
  | _ => none }
def FnSpanMidWrongFalsely : Prop := fnSpanMidRow.holds Try.pinned (OpenSpec.ofChange fnSpanMidWrong)

/- THE SECOND FORM. 'bulk': how many values and letters a reading holds, each counted each time it is reached (what is shared counts as often as it is met; a slice's spare places count too). A statement '..UptoSaid' is the law's where the arguments, and the package variables that the reading takes, are together of bulk at most 1048576: NARROWER than '..Said'. Prove '..Said' where nothing that the law and all that it calls make is longer than what came in: it says more and counts as full. Else prove '..UptoSaid'. A law counts once. -/
mutual
def uptoBulk {H : Type} : DataW H → Nat
  | .lit (.string bytes) => bytes.length + 1
  | .lit _ => 1
  | .nil => 1
  | .ptr d => uptoBulk d + 1
  | .slice elems spare => uptoBulkAll elems + uptoBulkAll spare + 1
  | .agg parts => uptoBulkAll parts + 1
  | .iface _ d => uptoBulk d + 1
  | .map entries => uptoBulkEntries entries + 1
  | .held _ => 1
def uptoBulkAll {H : Type} : List (DataW H) → Nat
  | [] => 0
  | d :: r => uptoBulk d + uptoBulkAll r
def uptoBulkEntries {H : Type} : List (Lit × DataW H) → Nat
  | [] => 0
  | x :: r => uptoBulkEntry x + uptoBulkEntries r
def uptoBulkEntry {H : Type} : Lit × DataW H → Nat
  | (.string bytes, d) => bytes.length + uptoBulk d + 1
  | (_, d) => uptoBulk d + 1
 end
def uptoSmall : (H : Type) → List (DataW H) → Bool := fun _ ds => decide (uptoBulkAll ds ≤ 1048576)
def OpenSpec.upto (s : _root_.Go.ChangeSpec) : _root_.Go.OpenSpec := { _root_.Go.OpenSpec.ofChange s with cond := some uptoSmall }

/-- 'laws.FnOccBent', WHERE WHAT IT READS IS OF BULK AT MOST 1048576: true; the input reads as it did. -/
def fnOccBentUptoRow : OpenClaim := { program := "ytjeojdbfpncnkaa", sum := "a497f600d3d3e796245c0eca6bfd1e1fe6b5d33aeb35e6006171a5bb39ed6e80", func := "loop.example/bellman/laws.FnOccBent", spec := "fnOccBent", inPlace := ["slices.overlaps[loop.example/bellman/impl.Occ]"], unfollowed := true, recurses := true, apart := false, narrowed := true }
def FnOccBentUptoSaid : Prop := fnOccBentUptoRow.holds Try.pinned (OpenSpec.upto fnOccBentSpec)

/-- 'laws.FnPairWaits', WHERE WHAT IT READS IS OF BULK AT MOST 1048576: true; the input reads as it did. -/
def fnPairWaitsUptoRow : OpenClaim := { program := "ytjeojdbfpncnkaa", sum := "a497f600d3d3e796245c0eca6bfd1e1fe6b5d33aeb35e6006171a5bb39ed6e80", func := "loop.example/bellman/laws.FnPairWaits", spec := "fnPairWaits", inPlace := ["slices.overlaps[loop.example/bellman/impl.Occ]"], unfollowed := true, recurses := true, apart := false, narrowed := true }
def FnPairWaitsUptoSaid : Prop := fnPairWaitsUptoRow.holds Try.pinned (OpenSpec.upto fnPairWaitsSpec)

/-- 'laws.FnPairOne', WHERE WHAT IT READS IS OF BULK AT MOST 1048576: true; the input reads as it did. -/
def fnPairOneUptoRow : OpenClaim := { program := "ytjeojdbfpncnkaa", sum := "a497f600d3d3e796245c0eca6bfd1e1fe6b5d33aeb35e6006171a5bb39ed6e80", func := "loop.example/bellman/laws.FnPairOne", spec := "fnPairOne", inPlace := ["slices.overlaps[loop.example/bellman/impl.Occ]"], unfollowed := true, recurses := true, apart := false, narrowed := true }
def FnPairOneUptoSaid : Prop := fnPairOneUptoRow.holds Try.pinned (OpenSpec.upto fnPairOneSpec)

/-- 'laws.FnSeqUsed', WHERE WHAT IT READS IS OF BULK AT MOST 1048576: true; the input reads as it did. -/
def fnSeqUsedUptoRow : OpenClaim := { program := "ytjeojdbfpncnkaa", sum := "a497f600d3d3e796245c0eca6bfd1e1fe6b5d33aeb35e6006171a5bb39ed6e80", func := "loop.example/bellman/laws.FnSeqUsed", spec := "fnSeqUsed", inPlace := ["slices.overlaps[loop.example/bellman/impl.Occ]"], unfollowed := true, recurses := true, apart := false, narrowed := true }
def FnSeqUsedUptoSaid : Prop := fnSeqUsedUptoRow.holds Try.pinned (OpenSpec.upto fnSeqUsedSpec)

/-- 'laws.FnSpanMid', WHERE WHAT IT READS IS OF BULK AT MOST 1048576: true; the input reads as it did. -/
def fnSpanMidUptoRow : OpenClaim := { program := "ytjeojdbfpncnkaa", sum := "a497f600d3d3e796245c0eca6bfd1e1fe6b5d33aeb35e6006171a5bb39ed6e80", func := "loop.example/bellman/laws.FnSpanMid", spec := "fnSpanMid", inPlace := ["slices.overlaps[loop.example/bellman/impl.Occ]"], unfollowed := true, recurses := true, apart := false, narrowed := true }
def FnSpanMidUptoSaid : Prop := fnSpanMidUptoRow.holds Try.pinned (OpenSpec.upto fnSpanMidSpec)

end Rows
end Go.Proofs.Ytjeojdbfpncnkaa
