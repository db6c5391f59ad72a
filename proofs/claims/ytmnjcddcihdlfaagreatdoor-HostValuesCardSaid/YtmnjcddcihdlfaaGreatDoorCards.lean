/-
  DERIVED. GIVEN WITH THE SEED: THE CARDS: each row of YtmnjcddcihdlfaaGreatDoorRows.lean that lists a variable, with what it lists TIED to the program's text (the seventh form; the later family's looks); each row that meets fmt, with fmt's text TOLD by the authors' own Lean function (tested against real Go, not proved from fmt's source: count such statements apart). THE CARD IS WHAT COUNTS. Prove the row's statement (the work); the ties are given (YtmnjcddcihdlfaaGreatDoorTie.lean); close each card by the builder's one call (the guide's Derived/Test/ToyasCard.lean, 'card_holds'). Laid BY PROGRAM, IN A SANDBOX (cutbox-door.mjs). By AI agents, Wed Nov 11 2026. No macro, syntax, notation, axiom, sorry.
-/
import Derived.Test.YtmnjcddcihdlfaaGreatDoorRows
import GoSem.ClaimSeven
namespace Go.Proofs.YtmnjcddcihdlfaaGreatDoor
namespace Rows

/-- THE TIED CARD OF 'ringworklaw17.HostValues'. -/
def hostValuesCard : Claim7 := { stood := { row := hostValuesRow, standIns := [], harness := (true, "931da5a073800175fce13ac4f47ae78f4f6cb319f9c156705f1013eb592c41f6"), looks := true }, kinds := [], alts := [], laidByText := true, laidKinds := [.data, .data, .data, .sentinel, .sentinel, .listed, .data], laidTests := true, laidLooks := .later }
def HostValuesCardSaid : Prop := Claim7.holds Tryz.pinned (.plain (OpenSpec.ofChange hostValuesSpec)) hostValuesCard

/-- THE SECOND FORM's CARD OF 'ringworklaw17.HostValues'. -/
def hostValuesUptoCard : Claim7 := { stood := { row := hostValuesUptoRow, standIns := [], harness := (true, "931da5a073800175fce13ac4f47ae78f4f6cb319f9c156705f1013eb592c41f6"), looks := true }, kinds := [], alts := [], laidByText := true, laidKinds := [.data, .data, .data, .sentinel, .sentinel, .listed, .data], laidTests := true, laidLooks := .later }
def HostValuesUptoCardSaid : Prop := Claim7.holds Tryz.pinned (.plain (OpenSpec.upto hostValuesSpec)) hostValuesUptoCard
end Rows
end Go.Proofs.YtmnjcddcihdlfaaGreatDoor
