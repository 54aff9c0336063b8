/-
  DERIVED. GIVEN WITH THE SEED: THE CARDS: each row of YtcjafkanckcfbaaGreatDoorRows.lean that lists a variable, with what it lists TIED to the program's text (the seventh form; the later family's looks); each row that meets fmt, with fmt's text TOLD by the authors' own Lean function (tested against real Go, not proved from fmt's source: count such statements apart). THE CARD IS WHAT COUNTS. Prove the row's statement (the work); the ties are given (YtcjafkanckcfbaaGreatDoorTie.lean); close each card by the builder's one call (the guide's Derived/Test/ToyasCard.lean, 'card_holds'). Laid BY PROGRAM, IN A SANDBOX (cutbox-door.mjs). By AI agents, Wed Nov 11 2026. No macro, syntax, notation, axiom, sorry.
-/
import Derived.Test.YtcjafkanckcfbaaGreatDoorRows
import GoSem.ClaimSeven
namespace Go.Proofs.YtcjafkanckcfbaaGreatDoor
namespace Rows

/-- THE TIED CARD OF 'shibbolethlaw07.MsgEncodes'. -/
def msgEncodesCard : Claim7 := { stood := { row := msgEncodesRow, standIns := [], harness := (true, "f7780bd956a4dffcdd4b543fbc07762551afe86d6d4c8bbdeb7febf7c83dccd7"), looks := true }, kinds := [], alts := [], laidByText := true, laidKinds := [.data, .data, .data, .data, .handle, .pinned], laidTests := true, laidLooks := .later }
def MsgEncodesCardSaid : Prop := Claim7.holds Tryz.pinned (.plain (OpenSpec.ofChange msgEncodesSpec)) msgEncodesCard

/-- THE TIED CARD OF 'shibbolethlaw07.MsgDecodes'. -/
def msgDecodesCard : Claim7 := { stood := { row := msgDecodesRow, standIns := [], harness := (true, "f7780bd956a4dffcdd4b543fbc07762551afe86d6d4c8bbdeb7febf7c83dccd7"), looks := true }, kinds := [], alts := [], laidByText := true, laidKinds := [.data, .data, .data, .data, .handle, .pinned], laidTests := true, laidLooks := .later }
def MsgDecodesCardSaid : Prop := Claim7.holds Tryz.pinned (.plain (OpenSpec.ofChange msgDecodesSpec)) msgDecodesCard

/-- THE TIED CARD OF 'shibbolethlaw07.MsgLong'. -/
def msgLongCard : Claim7 := { stood := { row := msgLongRow, standIns := [], harness := (true, "f7780bd956a4dffcdd4b543fbc07762551afe86d6d4c8bbdeb7febf7c83dccd7"), looks := true }, kinds := [], alts := [], laidByText := true, laidKinds := [.data, .data, .data, .data, .handle, .pinned], laidTests := true, laidLooks := .later }
def MsgLongCardSaid : Prop := Claim7.holds Tryz.pinned (.plain (OpenSpec.ofChange msgLongSpec)) msgLongCard

/-- THE TIED CARD OF 'shibbolethlaw16.KexinitBuilds'. -/
def kexinitBuildsCard : Claim7 := { stood := { row := kexinitBuildsRow, standIns := [], harness := (true, "f7780bd956a4dffcdd4b543fbc07762551afe86d6d4c8bbdeb7febf7c83dccd7"), looks := true }, kinds := [], alts := [], laidByText := true, laidKinds := [.data, .data, .data, .data, .handle, .pinned], laidTests := true, laidLooks := .later }
def KexinitBuildsCardSaid : Prop := Claim7.holds Tryz.pinned (.plain (OpenSpec.ofChange kexinitBuildsSpec)) kexinitBuildsCard

/-- THE TIED CARD OF 'shibbolethlaw16.KexinitParses'. -/
def kexinitParsesCard : Claim7 := { stood := { row := kexinitParsesRow, standIns := [], harness := (true, "f7780bd956a4dffcdd4b543fbc07762551afe86d6d4c8bbdeb7febf7c83dccd7"), looks := true }, kinds := [], alts := [], laidByText := true, laidKinds := [.data, .data, .data, .data, .handle, .pinned], laidTests := true, laidLooks := .later }
def KexinitParsesCardSaid : Prop := Claim7.holds Tryz.pinned (.plain (OpenSpec.ofChange kexinitParsesSpec)) kexinitParsesCard

/-- THE SECOND FORM's CARD OF 'shibbolethlaw07.MsgEncodes'. -/
def msgEncodesUptoCard : Claim7 := { stood := { row := msgEncodesUptoRow, standIns := [], harness := (true, "f7780bd956a4dffcdd4b543fbc07762551afe86d6d4c8bbdeb7febf7c83dccd7"), looks := true }, kinds := [], alts := [], laidByText := true, laidKinds := [.data, .data, .data, .data, .handle, .pinned], laidTests := true, laidLooks := .later }
def MsgEncodesUptoCardSaid : Prop := Claim7.holds Tryz.pinned (.plain (OpenSpec.upto msgEncodesSpec)) msgEncodesUptoCard

/-- THE SECOND FORM's CARD OF 'shibbolethlaw07.MsgDecodes'. -/
def msgDecodesUptoCard : Claim7 := { stood := { row := msgDecodesUptoRow, standIns := [], harness := (true, "f7780bd956a4dffcdd4b543fbc07762551afe86d6d4c8bbdeb7febf7c83dccd7"), looks := true }, kinds := [], alts := [], laidByText := true, laidKinds := [.data, .data, .data, .data, .handle, .pinned], laidTests := true, laidLooks := .later }
def MsgDecodesUptoCardSaid : Prop := Claim7.holds Tryz.pinned (.plain (OpenSpec.upto msgDecodesSpec)) msgDecodesUptoCard

/-- THE SECOND FORM's CARD OF 'shibbolethlaw07.MsgLong'. -/
def msgLongUptoCard : Claim7 := { stood := { row := msgLongUptoRow, standIns := [], harness := (true, "f7780bd956a4dffcdd4b543fbc07762551afe86d6d4c8bbdeb7febf7c83dccd7"), looks := true }, kinds := [], alts := [], laidByText := true, laidKinds := [.data, .data, .data, .data, .handle, .pinned], laidTests := true, laidLooks := .later }
def MsgLongUptoCardSaid : Prop := Claim7.holds Tryz.pinned (.plain (OpenSpec.upto msgLongSpec)) msgLongUptoCard

/-- THE SECOND FORM's CARD OF 'shibbolethlaw16.KexinitBuilds'. -/
def kexinitBuildsUptoCard : Claim7 := { stood := { row := kexinitBuildsUptoRow, standIns := [], harness := (true, "f7780bd956a4dffcdd4b543fbc07762551afe86d6d4c8bbdeb7febf7c83dccd7"), looks := true }, kinds := [], alts := [], laidByText := true, laidKinds := [.data, .data, .data, .data, .handle, .pinned], laidTests := true, laidLooks := .later }
def KexinitBuildsUptoCardSaid : Prop := Claim7.holds Tryz.pinned (.plain (OpenSpec.upto kexinitBuildsSpec)) kexinitBuildsUptoCard

/-- THE SECOND FORM's CARD OF 'shibbolethlaw16.KexinitParses'. -/
def kexinitParsesUptoCard : Claim7 := { stood := { row := kexinitParsesUptoRow, standIns := [], harness := (true, "f7780bd956a4dffcdd4b543fbc07762551afe86d6d4c8bbdeb7febf7c83dccd7"), looks := true }, kinds := [], alts := [], laidByText := true, laidKinds := [.data, .data, .data, .data, .handle, .pinned], laidTests := true, laidLooks := .later }
def KexinitParsesUptoCardSaid : Prop := Claim7.holds Tryz.pinned (.plain (OpenSpec.upto kexinitParsesSpec)) kexinitParsesUptoCard
end Rows
end Go.Proofs.YtcjafkanckcfbaaGreatDoor
