/-
  DERIVED. GIVEN WITH THE SEED: THE CARDS: each row of YtdohneeejfeknaaDoorRows.lean that lists a variable, with what it lists TIED to the program's text (the seventh form; the later family's looks); each row that meets fmt, with fmt's text TOLD by the authors' own Lean function (tested against real Go, not proved from fmt's source: count such statements apart). THE CARD IS WHAT COUNTS. Prove the row's statement (the work); the ties are given (YtdohneeejfeknaaDoorTie.lean); close each card by the builder's one call (the guide's Derived/Test/ToyasCard.lean, 'card_holds'). Laid BY PROGRAM, IN A SANDBOX (cutbox-door.mjs). By AI agents, Wed Nov 11 2026. No macro, syntax, notation, axiom, sorry.
-/
import Derived.Test.YtdohneeejfeknaaDoorRows
import GoSem.ClaimSeven
namespace Go.Proofs.YtdohneeejfeknaaDoor
namespace Rows

/-- THE TIED CARD OF 'laws.FnExactTapeRead'. -/
def fnExactTapeReadCard : Claim7 := { stood := { row := fnExactTapeReadRow, standIns := [], harness := (true, "d6a3cd5bce561459e5a656d33e28e39bb6684caa9290327331b2d843666ccdb0"), looks := true }, kinds := [], alts := [], laidByText := true, laidKinds := [.data, .data, .data, .data, .sentinel, .sentinel, .pinned], laidTests := true, laidLooks := .later }
def FnExactTapeReadCardSaid : Prop := Claim7.holds Tryd.pinned (.plain (OpenSpec.ofChange fnExactTapeReadSpec)) fnExactTapeReadCard

/-- THE TIED CARD OF 'laws.FnTapeText'. -/
def fnTapeTextCard : Claim7 := { stood := { row := fnTapeTextRow, standIns := [], harness := (true, "d6a3cd5bce561459e5a656d33e28e39bb6684caa9290327331b2d843666ccdb0"), looks := true }, kinds := [], alts := [], laidByText := true, laidKinds := [.data, .data, .data, .data, .sentinel, .sentinel, .pinned], laidTests := true, laidLooks := .later }
def FnTapeTextCardSaid : Prop := Claim7.holds Tryd.pinned (.plain (OpenSpec.ofChange fnTapeTextSpec)) fnTapeTextCard

/-- THE SECOND FORM's CARD OF 'laws.FnExactTapeRead'. -/
def fnExactTapeReadUptoCard : Claim7 := { stood := { row := fnExactTapeReadUptoRow, standIns := [], harness := (true, "d6a3cd5bce561459e5a656d33e28e39bb6684caa9290327331b2d843666ccdb0"), looks := true }, kinds := [], alts := [], laidByText := true, laidKinds := [.data, .data, .data, .data, .sentinel, .sentinel, .pinned], laidTests := true, laidLooks := .later }
def FnExactTapeReadUptoCardSaid : Prop := Claim7.holds Tryd.pinned (.plain (OpenSpec.upto fnExactTapeReadSpec)) fnExactTapeReadUptoCard

/-- THE SECOND FORM's CARD OF 'laws.FnTapeText'. -/
def fnTapeTextUptoCard : Claim7 := { stood := { row := fnTapeTextUptoRow, standIns := [], harness := (true, "d6a3cd5bce561459e5a656d33e28e39bb6684caa9290327331b2d843666ccdb0"), looks := true }, kinds := [], alts := [], laidByText := true, laidKinds := [.data, .data, .data, .data, .sentinel, .sentinel, .pinned], laidTests := true, laidLooks := .later }
def FnTapeTextUptoCardSaid : Prop := Claim7.holds Tryd.pinned (.plain (OpenSpec.upto fnTapeTextSpec)) fnTapeTextUptoCard
end Rows
end Go.Proofs.YtdohneeejfeknaaDoor
