/-
  DERIVED. GIVEN WITH THE SEED: THE CARDS: each row of YtcbknpdjdlgljaaGreatDoorRows.lean that lists a variable, with what it lists TIED to the program's text (the seventh form; the later family's looks); each row that meets fmt, with fmt's text TOLD by the authors' own Lean function (tested against real Go, not proved from fmt's source: count such statements apart). THE CARD IS WHAT COUNTS. Prove the row's statement (the work); the ties are given (YtcbknpdjdlgljaaGreatDoorTie.lean); close each card by the builder's one call (the guide's Derived/Test/ToyasCard.lean, 'card_holds'). Laid BY PROGRAM, IN A SANDBOX (cutbox-door.mjs). By AI agents, Wed Nov 11 2026. No macro, syntax, notation, axiom, sorry.
-/
import Derived.Test.YtcbknpdjdlgljaaGreatDoorRows
import GoSem.ClaimSeven
namespace Go.Proofs.YtcbknpdjdlgljaaGreatDoor
namespace Rows

/-- THE TIED CARD OF 'ringworklaw15.CurrentTexts'. -/
def currentTextsCard : Claim7 := { stood := { row := currentTextsRow, standIns := [], harness := (true, "6c07f98c952523acaccb94cb39e13145bd7690fe5987041110671f9af2c9c16d"), looks := true }, kinds := [], alts := [], laidByText := true, laidKinds := [.data, .data, .data, .data, .sentinel, .sentinel, .pinned], laidTests := true, laidLooks := .later }
def CurrentTextsCardSaid : Prop := Claim7.holds Tryz.pinned (.plain (OpenSpec.ofChange currentTextsSpec)) currentTextsCard

/-- THE SECOND FORM's CARD OF 'ringworklaw15.CurrentTexts'. -/
def currentTextsUptoCard : Claim7 := { stood := { row := currentTextsUptoRow, standIns := [], harness := (true, "6c07f98c952523acaccb94cb39e13145bd7690fe5987041110671f9af2c9c16d"), looks := true }, kinds := [], alts := [], laidByText := true, laidKinds := [.data, .data, .data, .data, .sentinel, .sentinel, .pinned], laidTests := true, laidLooks := .later }
def CurrentTextsUptoCardSaid : Prop := Claim7.holds Tryz.pinned (.plain (OpenSpec.upto currentTextsSpec)) currentTextsUptoCard
end Rows
end Go.Proofs.YtcbknpdjdlgljaaGreatDoor
