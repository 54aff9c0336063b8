/-
  DERIVED. GIVEN WITH THE SEED: THE CARDS: each row of YtnhekaepgpbijaaGreatDoorRows.lean that lists a variable, with what it lists TIED to the program's text (the seventh form; the later family's looks); each row that meets fmt, with fmt's text TOLD by the authors' own Lean function (tested against real Go, not proved from fmt's source: count such statements apart). THE CARD IS WHAT COUNTS. Prove the row's statement (the work); the ties are given (YtnhekaepgpbijaaGreatDoorTie.lean); close each card by the builder's one call (the guide's Derived/Test/ToyasCard.lean, 'card_holds'). Laid BY PROGRAM, IN A SANDBOX (cutbox-door.mjs). By AI agents, Wed Nov 11 2026. No macro, syntax, notation, axiom, sorry.
-/
import Derived.Test.YtnhekaepgpbijaaGreatDoorRows
import GoSem.ClaimSeven
namespace Go.Proofs.YtnhekaepgpbijaaGreatDoor
namespace Rows

/-- THE TIED CARD OF 'shibbolethlaw27.AuthcSigns'. -/
def authcSignsCard : Claim7 := { stood := { row := authcSignsRow, standIns := [], harness := (true, "9025c34a42f1ab0de4484bd206014f555fc9924af56fa8b2caba9ca756158a79"), looks := true }, kinds := [], alts := [], laidByText := true, laidKinds := [.data, .data, .data, .data, .data, .data, .pinned], laidTests := true, laidLooks := .later }
def AuthcSignsCardSaid : Prop := Claim7.holds Tryz.pinned (.plain (OpenSpec.ofChange authcSignsSpec)) authcSignsCard

/-- THE TIED CARD OF 'shibbolethlaw28.AuthsAny'. -/
def authsAnyCard : Claim7 := { stood := { row := authsAnyRow, standIns := [], harness := (true, "9025c34a42f1ab0de4484bd206014f555fc9924af56fa8b2caba9ca756158a79"), looks := true }, kinds := [], alts := [], laidByText := true, laidKinds := [.data, .data, .data, .data, .handle, .data, .data, .pinned], laidTests := true, laidLooks := .later }
def AuthsAnyCardSaid : Prop := Claim7.holds Tryz.pinned (.plain (OpenSpec.ofChange authsAnySpec)) authsAnyCard

/-- THE TIED CARD OF 'shibbolethlaw27.AuthcTries'. -/
def authcTriesCard : Claim7 := { stood := { row := authcTriesRow, standIns := [], harness := (true, "9025c34a42f1ab0de4484bd206014f555fc9924af56fa8b2caba9ca756158a79"), looks := true }, kinds := [], alts := [], laidByText := true, laidKinds := [.data, .data, .data, .data, .handle, .data, .data, .pinned], laidTests := true, laidLooks := .later }
def AuthcTriesCardSaid : Prop := Claim7.holds Tryz.pinned (.plain (OpenSpec.ofChange authcTriesSpec)) authcTriesCard

/-- THE SECOND FORM's CARD OF 'shibbolethlaw27.AuthcSigns'. -/
def authcSignsUptoCard : Claim7 := { stood := { row := authcSignsUptoRow, standIns := [], harness := (true, "9025c34a42f1ab0de4484bd206014f555fc9924af56fa8b2caba9ca756158a79"), looks := true }, kinds := [], alts := [], laidByText := true, laidKinds := [.data, .data, .data, .data, .data, .data, .pinned], laidTests := true, laidLooks := .later }
def AuthcSignsUptoCardSaid : Prop := Claim7.holds Tryz.pinned (.plain (OpenSpec.upto authcSignsSpec)) authcSignsUptoCard

/-- THE SECOND FORM's CARD OF 'shibbolethlaw28.AuthsAny'. -/
def authsAnyUptoCard : Claim7 := { stood := { row := authsAnyUptoRow, standIns := [], harness := (true, "9025c34a42f1ab0de4484bd206014f555fc9924af56fa8b2caba9ca756158a79"), looks := true }, kinds := [], alts := [], laidByText := true, laidKinds := [.data, .data, .data, .data, .handle, .data, .data, .pinned], laidTests := true, laidLooks := .later }
def AuthsAnyUptoCardSaid : Prop := Claim7.holds Tryz.pinned (.plain (OpenSpec.upto authsAnySpec)) authsAnyUptoCard

/-- THE SECOND FORM's CARD OF 'shibbolethlaw27.AuthcTries'. -/
def authcTriesUptoCard : Claim7 := { stood := { row := authcTriesUptoRow, standIns := [], harness := (true, "9025c34a42f1ab0de4484bd206014f555fc9924af56fa8b2caba9ca756158a79"), looks := true }, kinds := [], alts := [], laidByText := true, laidKinds := [.data, .data, .data, .data, .handle, .data, .data, .pinned], laidTests := true, laidLooks := .later }
def AuthcTriesUptoCardSaid : Prop := Claim7.holds Tryz.pinned (.plain (OpenSpec.upto authcTriesSpec)) authcTriesUptoCard
end Rows
end Go.Proofs.YtnhekaepgpbijaaGreatDoor
