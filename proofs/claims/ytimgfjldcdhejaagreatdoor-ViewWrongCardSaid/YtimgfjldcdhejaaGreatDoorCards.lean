/-
  DERIVED. GIVEN WITH THE SEED: THE CARDS: each row of YtimgfjldcdhejaaGreatDoorRows.lean that lists a variable, with what it lists TIED to the program's text (the seventh form; the later family's looks); each row that meets fmt, with fmt's text TOLD by the authors' own Lean function (tested against real Go, not proved from fmt's source: count such statements apart). THE CARD IS WHAT COUNTS. Prove the row's statement (the work); the ties are given (YtimgfjldcdhejaaGreatDoorTie.lean); close each card by the builder's one call (the guide's Derived/Test/ToyasCard.lean, 'card_holds'). Laid BY PROGRAM, IN A SANDBOX (cutbox-door.mjs). By AI agents, Wed Nov 11 2026. No macro, syntax, notation, axiom, sorry.
-/
import Derived.Test.YtimgfjldcdhejaaGreatDoorRows
import GoSem.ClaimSeven
namespace Go.Proofs.YtimgfjldcdhejaaGreatDoor
namespace Rows

/-- THE TIED CARD OF 'ringworklaw05.ViewWrong'. -/
def viewWrongCard : Claim7 := { stood := { row := viewWrongRow, standIns := [], harness := (true, "7843fc69233a9a7aac88cef64cd2e008dada54516b880517171de9111bc2ea16"), looks := true }, kinds := [], alts := [], laidByText := true, laidKinds := [.data, .data, .data, .data, .sentinel, .sentinel, .pinned], laidTests := true, laidLooks := .later }
def ViewWrongCardSaid : Prop := Claim7.holds Tryz.pinned (.plain (OpenSpec.ofChange viewWrongSpec)) viewWrongCard

/-- THE TIED CARD OF 'ringworklaw05.ViewRows'. -/
def viewRowsCard : Claim7 := { stood := { row := viewRowsRow, standIns := [], harness := (true, "7843fc69233a9a7aac88cef64cd2e008dada54516b880517171de9111bc2ea16"), looks := true }, kinds := [], alts := [], laidByText := true, laidKinds := [.data, .data, .data, .data, .sentinel, .sentinel, .pinned], laidTests := true, laidLooks := .later }
def ViewRowsCardSaid : Prop := Claim7.holds Tryz.pinned (.plain (OpenSpec.ofChange viewRowsSpec)) viewRowsCard

/-- THE SECOND FORM's CARD OF 'ringworklaw05.ViewWrong'. -/
def viewWrongUptoCard : Claim7 := { stood := { row := viewWrongUptoRow, standIns := [], harness := (true, "7843fc69233a9a7aac88cef64cd2e008dada54516b880517171de9111bc2ea16"), looks := true }, kinds := [], alts := [], laidByText := true, laidKinds := [.data, .data, .data, .data, .sentinel, .sentinel, .pinned], laidTests := true, laidLooks := .later }
def ViewWrongUptoCardSaid : Prop := Claim7.holds Tryz.pinned (.plain (OpenSpec.upto viewWrongSpec)) viewWrongUptoCard

/-- THE SECOND FORM's CARD OF 'ringworklaw05.ViewRows'. -/
def viewRowsUptoCard : Claim7 := { stood := { row := viewRowsUptoRow, standIns := [], harness := (true, "7843fc69233a9a7aac88cef64cd2e008dada54516b880517171de9111bc2ea16"), looks := true }, kinds := [], alts := [], laidByText := true, laidKinds := [.data, .data, .data, .data, .sentinel, .sentinel, .pinned], laidTests := true, laidLooks := .later }
def ViewRowsUptoCardSaid : Prop := Claim7.holds Tryz.pinned (.plain (OpenSpec.upto viewRowsSpec)) viewRowsUptoCard
end Rows
end Go.Proofs.YtimgfjldcdhejaaGreatDoor
