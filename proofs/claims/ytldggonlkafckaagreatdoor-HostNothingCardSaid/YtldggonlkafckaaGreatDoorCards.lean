/-
  DERIVED. GIVEN WITH THE SEED: THE CARDS: each row of YtldggonlkafckaaGreatDoorRows.lean that lists a variable, with what it lists TIED to the program's text (the seventh form; the later family's looks); each row that meets fmt, with fmt's text TOLD by the authors' own Lean function (tested against real Go, not proved from fmt's source: count such statements apart). THE CARD IS WHAT COUNTS. Prove the row's statement (the work); the ties are given (YtldggonlkafckaaGreatDoorTie.lean); close each card by the builder's one call (the guide's Derived/Test/ToyasCard.lean, 'card_holds'). Laid BY PROGRAM, IN A SANDBOX (cutbox-door.mjs). By AI agents, Wed Nov 11 2026. No macro, syntax, notation, axiom, sorry.
-/
import Derived.Test.YtldggonlkafckaaGreatDoorRows
import GoSem.ClaimSeven
namespace Go.Proofs.YtldggonlkafckaaGreatDoor
namespace Rows

/-- THE TIED CARD OF 'ringworklaw05.ViewTexts'. -/
def viewTextsCard : Claim7 := { stood := { row := viewTextsRow, standIns := [], harness := (true, "05372343198e1a489d40f1414a62519f19aaba00849636b7f91c0ff16e364d76"), looks := true }, kinds := [], alts := [], laidByText := true, laidKinds := [.data, .data, .data, .data, .sentinel, .sentinel, .pinned], laidTests := true, laidLooks := .later }
def ViewTextsCardSaid : Prop := Claim7.holds Tryz.pinned (.plain (OpenSpec.ofChange viewTextsSpec)) viewTextsCard

/-- THE TIED CARD OF 'ringworklaw17.HostCalls'. -/
def hostCallsCard : Claim7 := { stood := { row := hostCallsRow, standIns := [], harness := (true, "05372343198e1a489d40f1414a62519f19aaba00849636b7f91c0ff16e364d76"), looks := true }, kinds := [], alts := [], laidByText := true, laidKinds := [.data, .data, .data, .sentinel, .sentinel, .listed, .data], laidTests := true, laidLooks := .later }
def HostCallsCardSaid : Prop := Claim7.holds Tryz.pinned (.plain (OpenSpec.ofChange hostCallsSpec)) hostCallsCard

/-- THE TIED CARD OF 'ringworklaw17.HostNothing'. -/
def hostNothingCard : Claim7 := { stood := { row := hostNothingRow, standIns := [], harness := (true, "05372343198e1a489d40f1414a62519f19aaba00849636b7f91c0ff16e364d76"), looks := true }, kinds := [], alts := [], laidByText := true, laidKinds := [.data, .data, .data, .sentinel, .sentinel, .listed, .data], laidTests := true, laidLooks := .later }
def HostNothingCardSaid : Prop := Claim7.holds Tryz.pinned (.plain (OpenSpec.ofChange hostNothingSpec)) hostNothingCard

/-- THE TIED CARD OF 'ringworklaw17.HostReads'. -/
def hostReadsCard : Claim7 := { stood := { row := hostReadsRow, standIns := [], harness := (true, "05372343198e1a489d40f1414a62519f19aaba00849636b7f91c0ff16e364d76"), looks := true }, kinds := [], alts := [], laidByText := true, laidKinds := [.data, .data, .data, .sentinel, .sentinel, .listed, .data], laidTests := true, laidLooks := .later }
def HostReadsCardSaid : Prop := Claim7.holds Tryz.pinned (.plain (OpenSpec.ofChange hostReadsSpec)) hostReadsCard

/-- THE SECOND FORM's CARD OF 'ringworklaw05.ViewTexts'. -/
def viewTextsUptoCard : Claim7 := { stood := { row := viewTextsUptoRow, standIns := [], harness := (true, "05372343198e1a489d40f1414a62519f19aaba00849636b7f91c0ff16e364d76"), looks := true }, kinds := [], alts := [], laidByText := true, laidKinds := [.data, .data, .data, .data, .sentinel, .sentinel, .pinned], laidTests := true, laidLooks := .later }
def ViewTextsUptoCardSaid : Prop := Claim7.holds Tryz.pinned (.plain (OpenSpec.upto viewTextsSpec)) viewTextsUptoCard

/-- THE SECOND FORM's CARD OF 'ringworklaw17.HostCalls'. -/
def hostCallsUptoCard : Claim7 := { stood := { row := hostCallsUptoRow, standIns := [], harness := (true, "05372343198e1a489d40f1414a62519f19aaba00849636b7f91c0ff16e364d76"), looks := true }, kinds := [], alts := [], laidByText := true, laidKinds := [.data, .data, .data, .sentinel, .sentinel, .listed, .data], laidTests := true, laidLooks := .later }
def HostCallsUptoCardSaid : Prop := Claim7.holds Tryz.pinned (.plain (OpenSpec.upto hostCallsSpec)) hostCallsUptoCard

/-- THE SECOND FORM's CARD OF 'ringworklaw17.HostNothing'. -/
def hostNothingUptoCard : Claim7 := { stood := { row := hostNothingUptoRow, standIns := [], harness := (true, "05372343198e1a489d40f1414a62519f19aaba00849636b7f91c0ff16e364d76"), looks := true }, kinds := [], alts := [], laidByText := true, laidKinds := [.data, .data, .data, .sentinel, .sentinel, .listed, .data], laidTests := true, laidLooks := .later }
def HostNothingUptoCardSaid : Prop := Claim7.holds Tryz.pinned (.plain (OpenSpec.upto hostNothingSpec)) hostNothingUptoCard

/-- THE SECOND FORM's CARD OF 'ringworklaw17.HostReads'. -/
def hostReadsUptoCard : Claim7 := { stood := { row := hostReadsUptoRow, standIns := [], harness := (true, "05372343198e1a489d40f1414a62519f19aaba00849636b7f91c0ff16e364d76"), looks := true }, kinds := [], alts := [], laidByText := true, laidKinds := [.data, .data, .data, .sentinel, .sentinel, .listed, .data], laidTests := true, laidLooks := .later }
def HostReadsUptoCardSaid : Prop := Claim7.holds Tryz.pinned (.plain (OpenSpec.upto hostReadsSpec)) hostReadsUptoCard
end Rows
end Go.Proofs.YtldggonlkafckaaGreatDoor
