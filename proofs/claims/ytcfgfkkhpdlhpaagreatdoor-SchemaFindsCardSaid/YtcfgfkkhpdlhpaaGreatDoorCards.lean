/-
  DERIVED. GIVEN WITH THE SEED: THE CARDS: each row of YtcfgfkkhpdlhpaaGreatDoorRows.lean that lists a variable, with what it lists TIED to the program's text (the seventh form; the later family's looks); each row that meets fmt, with fmt's text TOLD by the authors' own Lean function (tested against real Go, not proved from fmt's source: count such statements apart). THE CARD IS WHAT COUNTS. Prove the row's statement (the work); the ties are given (YtcfgfkkhpdlhpaaGreatDoorTie.lean); close each card by the builder's one call (the guide's Derived/Test/ToyasCard.lean, 'card_holds'). Laid BY PROGRAM, IN A SANDBOX (cutbox-door.mjs). By AI agents, Wed Nov 11 2026. No macro, syntax, notation, axiom, sorry.
-/
import Derived.Test.YtcfgfkkhpdlhpaaGreatDoorRows
import GoSem.ClaimSeven
namespace Go.Proofs.YtcfgfkkhpdlhpaaGreatDoor
namespace Rows

/-- THE TIED CARD OF 'ringworklaw03.SchemaWrong'. -/
def schemaWrongCard : Claim7 := { stood := { row := schemaWrongRow, standIns := [], harness := (true, "cbc71e27b3ce953a48ddf39a9ebaff72c4a6d4a9f51c454f06984af7283e3432"), looks := true }, kinds := [], alts := [], laidByText := true, laidKinds := [.data, .data, .data, .data, .sentinel, .sentinel, .pinned], laidTests := true, laidLooks := .later }
def SchemaWrongCardSaid : Prop := Claim7.holds Tryz.pinned (.plain (OpenSpec.ofChange schemaWrongSpec)) schemaWrongCard

/-- THE TIED CARD OF 'ringworklaw03.SchemaLess'. -/
def schemaLessCard : Claim7 := { stood := { row := schemaLessRow, standIns := [], harness := (true, "cbc71e27b3ce953a48ddf39a9ebaff72c4a6d4a9f51c454f06984af7283e3432"), looks := true }, kinds := [], alts := [], laidByText := true, laidKinds := [.data, .data, .data, .data, .sentinel, .sentinel, .pinned], laidTests := true, laidLooks := .later }
def SchemaLessCardSaid : Prop := Claim7.holds Tryz.pinned (.plain (OpenSpec.ofChange schemaLessSpec)) schemaLessCard

/-- THE TIED CARD OF 'ringworklaw03.SchemaTexts'. -/
def schemaTextsCard : Claim7 := { stood := { row := schemaTextsRow, standIns := [], harness := (true, "cbc71e27b3ce953a48ddf39a9ebaff72c4a6d4a9f51c454f06984af7283e3432"), looks := true }, kinds := [], alts := [], laidByText := true, laidKinds := [.data, .data, .data, .data, .sentinel, .sentinel, .pinned], laidTests := true, laidLooks := .later }
def SchemaTextsCardSaid : Prop := Claim7.holds Tryz.pinned (.plain (OpenSpec.ofChange schemaTextsSpec)) schemaTextsCard

/-- THE TIED CARD OF 'ringworklaw03.SchemaMembers'. -/
def schemaMembersCard : Claim7 := { stood := { row := schemaMembersRow, standIns := [], harness := (true, "cbc71e27b3ce953a48ddf39a9ebaff72c4a6d4a9f51c454f06984af7283e3432"), looks := true }, kinds := [], alts := [], laidByText := true, laidKinds := [.data, .data, .data, .data, .sentinel, .sentinel, .pinned], laidTests := true, laidLooks := .later }
def SchemaMembersCardSaid : Prop := Claim7.holds Tryz.pinned (.plain (OpenSpec.ofChange schemaMembersSpec)) schemaMembersCard

/-- THE TIED CARD OF 'ringworklaw03.SchemaChosen'. -/
def schemaChosenCard : Claim7 := { stood := { row := schemaChosenRow, standIns := [], harness := (true, "cbc71e27b3ce953a48ddf39a9ebaff72c4a6d4a9f51c454f06984af7283e3432"), looks := true }, kinds := [], alts := [], laidByText := true, laidKinds := [.data, .data, .data, .data, .sentinel, .sentinel, .pinned], laidTests := true, laidLooks := .later }
def SchemaChosenCardSaid : Prop := Claim7.holds Tryz.pinned (.plain (OpenSpec.ofChange schemaChosenSpec)) schemaChosenCard

/-- THE TIED CARD OF 'ringworklaw03.SchemaFinds'. -/
def schemaFindsCard : Claim7 := { stood := { row := schemaFindsRow, standIns := [], harness := (true, "cbc71e27b3ce953a48ddf39a9ebaff72c4a6d4a9f51c454f06984af7283e3432"), looks := true }, kinds := [], alts := [], laidByText := true, laidKinds := [.data, .data, .data, .data, .sentinel, .sentinel, .pinned], laidTests := true, laidLooks := .later }
def SchemaFindsCardSaid : Prop := Claim7.holds Tryz.pinned (.plain (OpenSpec.ofChange schemaFindsSpec)) schemaFindsCard

/-- THE TIED CARD OF 'ringworklaw03.SchemaSorts'. -/
def schemaSortsCard : Claim7 := { stood := { row := schemaSortsRow, standIns := [], harness := (true, "cbc71e27b3ce953a48ddf39a9ebaff72c4a6d4a9f51c454f06984af7283e3432"), looks := true }, kinds := [], alts := [], laidByText := true, laidKinds := [.data, .data, .data, .data, .sentinel, .sentinel, .pinned], laidTests := true, laidLooks := .later }
def SchemaSortsCardSaid : Prop := Claim7.holds Tryz.pinned (.plain (OpenSpec.ofChange schemaSortsSpec)) schemaSortsCard

/-- THE SECOND FORM's CARD OF 'ringworklaw03.SchemaWrong'. -/
def schemaWrongUptoCard : Claim7 := { stood := { row := schemaWrongUptoRow, standIns := [], harness := (true, "cbc71e27b3ce953a48ddf39a9ebaff72c4a6d4a9f51c454f06984af7283e3432"), looks := true }, kinds := [], alts := [], laidByText := true, laidKinds := [.data, .data, .data, .data, .sentinel, .sentinel, .pinned], laidTests := true, laidLooks := .later }
def SchemaWrongUptoCardSaid : Prop := Claim7.holds Tryz.pinned (.plain (OpenSpec.upto schemaWrongSpec)) schemaWrongUptoCard

/-- THE SECOND FORM's CARD OF 'ringworklaw03.SchemaLess'. -/
def schemaLessUptoCard : Claim7 := { stood := { row := schemaLessUptoRow, standIns := [], harness := (true, "cbc71e27b3ce953a48ddf39a9ebaff72c4a6d4a9f51c454f06984af7283e3432"), looks := true }, kinds := [], alts := [], laidByText := true, laidKinds := [.data, .data, .data, .data, .sentinel, .sentinel, .pinned], laidTests := true, laidLooks := .later }
def SchemaLessUptoCardSaid : Prop := Claim7.holds Tryz.pinned (.plain (OpenSpec.upto schemaLessSpec)) schemaLessUptoCard

/-- THE SECOND FORM's CARD OF 'ringworklaw03.SchemaTexts'. -/
def schemaTextsUptoCard : Claim7 := { stood := { row := schemaTextsUptoRow, standIns := [], harness := (true, "cbc71e27b3ce953a48ddf39a9ebaff72c4a6d4a9f51c454f06984af7283e3432"), looks := true }, kinds := [], alts := [], laidByText := true, laidKinds := [.data, .data, .data, .data, .sentinel, .sentinel, .pinned], laidTests := true, laidLooks := .later }
def SchemaTextsUptoCardSaid : Prop := Claim7.holds Tryz.pinned (.plain (OpenSpec.upto schemaTextsSpec)) schemaTextsUptoCard

/-- THE SECOND FORM's CARD OF 'ringworklaw03.SchemaMembers'. -/
def schemaMembersUptoCard : Claim7 := { stood := { row := schemaMembersUptoRow, standIns := [], harness := (true, "cbc71e27b3ce953a48ddf39a9ebaff72c4a6d4a9f51c454f06984af7283e3432"), looks := true }, kinds := [], alts := [], laidByText := true, laidKinds := [.data, .data, .data, .data, .sentinel, .sentinel, .pinned], laidTests := true, laidLooks := .later }
def SchemaMembersUptoCardSaid : Prop := Claim7.holds Tryz.pinned (.plain (OpenSpec.upto schemaMembersSpec)) schemaMembersUptoCard

/-- THE SECOND FORM's CARD OF 'ringworklaw03.SchemaChosen'. -/
def schemaChosenUptoCard : Claim7 := { stood := { row := schemaChosenUptoRow, standIns := [], harness := (true, "cbc71e27b3ce953a48ddf39a9ebaff72c4a6d4a9f51c454f06984af7283e3432"), looks := true }, kinds := [], alts := [], laidByText := true, laidKinds := [.data, .data, .data, .data, .sentinel, .sentinel, .pinned], laidTests := true, laidLooks := .later }
def SchemaChosenUptoCardSaid : Prop := Claim7.holds Tryz.pinned (.plain (OpenSpec.upto schemaChosenSpec)) schemaChosenUptoCard

/-- THE SECOND FORM's CARD OF 'ringworklaw03.SchemaFinds'. -/
def schemaFindsUptoCard : Claim7 := { stood := { row := schemaFindsUptoRow, standIns := [], harness := (true, "cbc71e27b3ce953a48ddf39a9ebaff72c4a6d4a9f51c454f06984af7283e3432"), looks := true }, kinds := [], alts := [], laidByText := true, laidKinds := [.data, .data, .data, .data, .sentinel, .sentinel, .pinned], laidTests := true, laidLooks := .later }
def SchemaFindsUptoCardSaid : Prop := Claim7.holds Tryz.pinned (.plain (OpenSpec.upto schemaFindsSpec)) schemaFindsUptoCard

/-- THE SECOND FORM's CARD OF 'ringworklaw03.SchemaSorts'. -/
def schemaSortsUptoCard : Claim7 := { stood := { row := schemaSortsUptoRow, standIns := [], harness := (true, "cbc71e27b3ce953a48ddf39a9ebaff72c4a6d4a9f51c454f06984af7283e3432"), looks := true }, kinds := [], alts := [], laidByText := true, laidKinds := [.data, .data, .data, .data, .sentinel, .sentinel, .pinned], laidTests := true, laidLooks := .later }
def SchemaSortsUptoCardSaid : Prop := Claim7.holds Tryz.pinned (.plain (OpenSpec.upto schemaSortsSpec)) schemaSortsUptoCard
end Rows
end Go.Proofs.YtcfgfkkhpdlhpaaGreatDoor
