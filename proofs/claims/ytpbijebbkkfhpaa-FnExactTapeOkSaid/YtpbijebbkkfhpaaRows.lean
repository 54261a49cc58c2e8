/-
  NARROWER THAN 'FOR EVERY INPUT', by the rows' own cells (each row's printed sentence says how): FnExactSlimPlus: loops.
  DERIVED. THE GIVEN ROWS OF THIS SEAT. 4 by the template 'for every input the law returns true; each argument reads behind the call as it read before'; 0 by the template 'total and deterministic' (their statements: YtpbijebbkkfhpaaTotals.lean).
  GIVEN WITH THE SEED: the statements are not yours to turn. If you find one false, say at which input.
  Laid BY PROGRAM, IN A SANDBOX (cutbox-rows.mjs): the forced cells as the released guide's own fill.sh prints them over the translation 7176b6cdda72e878… (all of the seat's roots in one cut). By AI agents, Wed Nov 11 2026. No macro, syntax, notation, axiom, sorry.
-/
import Derived.Test.YtpbijebbkkfhpaaChecked
import GoSem.Claim
import GoSem.ClaimJoined
import GoSem.ClaimMapViews
import Derived.JoinedTies
import Derived.KernelRfl
namespace Go.Proofs.Ytpbijebbkkfhpaa
/- THE CELL 'sum', in the pinned program and in every row, IS THE sha256 OF THE DUMP (.gsa) THAT YtpbijebbkkfhpaaProg.lean LOADS. Nothing in Lean hashes anything: it is a label: what it is worth is what the hold of that sum in a sandbox is worth. -/
noncomputable def Try.pinned : Pinned := { name := "ytpbijebbkkfhpaa", sum := "7176b6cdda72e878f6f747e624b04ae6a729cb8868f12baa5c3c6699f1cfc489", checked := Try.checked }
namespace Rows
def none {H : Type} : Left H := { results := [], args := [] }

/-- 'laws.FnExactTurnBy': WHATEVER THE INPUT: true; the input reads as it did. -/
def fnExactTurnBySpec : ChangeSpec := { name := "fnExactTurnBy", fn := fun _ => fun
  | [d] => { results := [.lit (.bool true)], args := [d] }
  | _ => none }
def fnExactTurnByRow : OpenClaim := { program := "ytpbijebbkkfhpaa", sum := "7176b6cdda72e878f6f747e624b04ae6a729cb8868f12baa5c3c6699f1cfc489", func := "loop.example/bellman/laws.FnExactTurnBy", spec := "fnExactTurnBy", apart := false }
def FnExactTurnBySaid : Prop := fnExactTurnByRow.holds Try.pinned (OpenSpec.ofChange fnExactTurnBySpec)

/-- ITS FALSE NEIGHBOUR: 'it returns false'. Refute it at one input. -/
def fnExactTurnByWrong : ChangeSpec := { name := "fnExactTurnBy", fn := fun _ => fun
  | [d] => { results := [.lit (.bool false)], args := [d] }
  | _ => none }
def FnExactTurnByWrongFalsely : Prop := fnExactTurnByRow.holds Try.pinned (OpenSpec.ofChange fnExactTurnByWrong)

/-- 'laws.FnExactTapeOk': WHATEVER THE INPUT: true; the input reads as it did. -/
def fnExactTapeOkSpec : ChangeSpec := { name := "fnExactTapeOk", fn := fun _ => fun
  | [d] => { results := [.lit (.bool true)], args := [d] }
  | _ => none }
def fnExactTapeOkRow : OpenClaim := { program := "ytpbijebbkkfhpaa", sum := "7176b6cdda72e878f6f747e624b04ae6a729cb8868f12baa5c3c6699f1cfc489", func := "loop.example/bellman/laws.FnExactTapeOk", spec := "fnExactTapeOk", unfollowed := true, recurses := true, apart := false }
def FnExactTapeOkSaid : Prop := fnExactTapeOkRow.holds Try.pinned (OpenSpec.ofChange fnExactTapeOkSpec)

/-- ITS FALSE NEIGHBOUR: 'it returns false'. Refute it at one input. -/
def fnExactTapeOkWrong : ChangeSpec := { name := "fnExactTapeOk", fn := fun _ => fun
  | [d] => { results := [.lit (.bool false)], args := [d] }
  | _ => none }
def FnExactTapeOkWrongFalsely : Prop := fnExactTapeOkRow.holds Try.pinned (OpenSpec.ofChange fnExactTapeOkWrong)

/-- 'laws.FnExactSlimPlus': WHATEVER THE INPUT: true; the input reads as it did. -/
def fnExactSlimPlusSpec : ChangeSpec := { name := "fnExactSlimPlus", fn := fun _ => fun
  | [d] => { results := [.lit (.bool true)], args := [d] }
  | _ => none }
def fnExactSlimPlusRow : OpenClaim := { program := "ytpbijebbkkfhpaa", sum := "7176b6cdda72e878f6f747e624b04ae6a729cb8868f12baa5c3c6699f1cfc489", func := "loop.example/bellman/laws.FnExactSlimPlus", spec := "fnExactSlimPlus", unfollowed := true, recurses := true, loops := true, apart := false }
def FnExactSlimPlusSaid : Prop := fnExactSlimPlusRow.holds Try.pinned (OpenSpec.ofChange fnExactSlimPlusSpec)

/-- ITS FALSE NEIGHBOUR: 'it returns false'. Refute it at one input. -/
def fnExactSlimPlusWrong : ChangeSpec := { name := "fnExactSlimPlus", fn := fun _ => fun
  | [d] => { results := [.lit (.bool false)], args := [d] }
  | _ => none }
def FnExactSlimPlusWrongFalsely : Prop := fnExactSlimPlusRow.holds Try.pinned (OpenSpec.ofChange fnExactSlimPlusWrong)

/-- 'laws.FnOccBent': WHATEVER THE INPUT: true; the input reads as it did. -/
def fnOccBentSpec : ChangeSpec := { name := "fnOccBent", fn := fun _ => fun
  | [d] => { results := [.lit (.bool true)], args := [d] }
  | _ => none }
def fnOccBentRow : OpenClaim := { program := "ytpbijebbkkfhpaa", sum := "7176b6cdda72e878f6f747e624b04ae6a729cb8868f12baa5c3c6699f1cfc489", func := "loop.example/bellman/laws.FnOccBent", spec := "fnOccBent", inPlace := ["slices.overlaps[loop.example/bellman/impl.Occ]"], unfollowed := true, recurses := true, apart := false }
def FnOccBentSaid : Prop := fnOccBentRow.holds Try.pinned (OpenSpec.ofChange fnOccBentSpec)

/-- ITS FALSE NEIGHBOUR: 'it returns false'. Refute it at one input. -/
def fnOccBentWrong : ChangeSpec := { name := "fnOccBent", fn := fun _ => fun
  | [d] => { results := [.lit (.bool false)], args := [d] }
  | _ => none }
def FnOccBentWrongFalsely : Prop := fnOccBentRow.holds Try.pinned (OpenSpec.ofChange fnOccBentWrong)

/- THE SECOND FORM. 'bulk': how many values and letters a reading holds, each counted each time it is reached (what is shared counts as often as it is met; a slice's spare places count too). A statement '..UptoSaid' is the law's where the arguments, and the package variables that the reading takes, are together of bulk at most 1048576: NARROWER than '..Said'. Prove '..Said' where nothing that the law and all that it calls make is longer than what came in: it says more and counts as full. Else prove '..UptoSaid'. A law counts once. -/
mutual
def uptoBulk {H : Type} : DataW H → Nat
  | .lit (.string bytes) => bytes.length + 1
  | .lit _ => 1
  | .nil => 1
  | .ptr d => uptoBulk d + 1
  | .slice elems spare => uptoBulkAll elems + uptoBulkAll spare + 1
  | .agg parts => uptoBulkAll parts + 1
  | .iface _ d => uptoBulk d + 1
  | .map entries => uptoBulkEntries entries + 1
  | .held _ => 1
def uptoBulkAll {H : Type} : List (DataW H) → Nat
  | [] => 0
  | d :: r => uptoBulk d + uptoBulkAll r
def uptoBulkEntries {H : Type} : List (Lit × DataW H) → Nat
  | [] => 0
  | x :: r => uptoBulkEntry x + uptoBulkEntries r
def uptoBulkEntry {H : Type} : Lit × DataW H → Nat
  | (.string bytes, d) => bytes.length + uptoBulk d + 1
  | (_, d) => uptoBulk d + 1
 end
def uptoSmall : (H : Type) → List (DataW H) → Bool := fun _ ds => decide (uptoBulkAll ds ≤ 1048576)
def OpenSpec.upto (s : _root_.Go.ChangeSpec) : _root_.Go.OpenSpec := { _root_.Go.OpenSpec.ofChange s with cond := some uptoSmall }

/-- 'laws.FnExactTurnBy', WHERE WHAT IT READS IS OF BULK AT MOST 1048576: true; the input reads as it did. -/
def fnExactTurnByUptoRow : OpenClaim := { program := "ytpbijebbkkfhpaa", sum := "7176b6cdda72e878f6f747e624b04ae6a729cb8868f12baa5c3c6699f1cfc489", func := "loop.example/bellman/laws.FnExactTurnBy", spec := "fnExactTurnBy", apart := false, narrowed := true }
def FnExactTurnByUptoSaid : Prop := fnExactTurnByUptoRow.holds Try.pinned (OpenSpec.upto fnExactTurnBySpec)

/-- 'laws.FnExactTapeOk', WHERE WHAT IT READS IS OF BULK AT MOST 1048576: true; the input reads as it did. -/
def fnExactTapeOkUptoRow : OpenClaim := { program := "ytpbijebbkkfhpaa", sum := "7176b6cdda72e878f6f747e624b04ae6a729cb8868f12baa5c3c6699f1cfc489", func := "loop.example/bellman/laws.FnExactTapeOk", spec := "fnExactTapeOk", unfollowed := true, recurses := true, apart := false, narrowed := true }
def FnExactTapeOkUptoSaid : Prop := fnExactTapeOkUptoRow.holds Try.pinned (OpenSpec.upto fnExactTapeOkSpec)

/-- 'laws.FnExactSlimPlus', WHERE WHAT IT READS IS OF BULK AT MOST 1048576: true; the input reads as it did. -/
def fnExactSlimPlusUptoRow : OpenClaim := { program := "ytpbijebbkkfhpaa", sum := "7176b6cdda72e878f6f747e624b04ae6a729cb8868f12baa5c3c6699f1cfc489", func := "loop.example/bellman/laws.FnExactSlimPlus", spec := "fnExactSlimPlus", unfollowed := true, recurses := true, loops := true, apart := false, narrowed := true }
def FnExactSlimPlusUptoSaid : Prop := fnExactSlimPlusUptoRow.holds Try.pinned (OpenSpec.upto fnExactSlimPlusSpec)

/-- 'laws.FnOccBent', WHERE WHAT IT READS IS OF BULK AT MOST 1048576: true; the input reads as it did. -/
def fnOccBentUptoRow : OpenClaim := { program := "ytpbijebbkkfhpaa", sum := "7176b6cdda72e878f6f747e624b04ae6a729cb8868f12baa5c3c6699f1cfc489", func := "loop.example/bellman/laws.FnOccBent", spec := "fnOccBent", inPlace := ["slices.overlaps[loop.example/bellman/impl.Occ]"], unfollowed := true, recurses := true, apart := false, narrowed := true }
def FnOccBentUptoSaid : Prop := fnOccBentUptoRow.holds Try.pinned (OpenSpec.upto fnOccBentSpec)

end Rows
end Go.Proofs.Ytpbijebbkkfhpaa
