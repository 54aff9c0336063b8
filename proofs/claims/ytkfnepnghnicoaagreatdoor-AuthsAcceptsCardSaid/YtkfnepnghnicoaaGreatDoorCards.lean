/-
  DERIVED. GIVEN WITH THE SEED: THE CARDS: each row of YtkfnepnghnicoaaGreatDoorRows.lean that lists a variable, with what it lists TIED to the program's text (the seventh form; the later family's looks); each row that meets fmt, with fmt's text TOLD by the authors' own Lean function (tested against real Go, not proved from fmt's source: count such statements apart). THE CARD IS WHAT COUNTS. Prove the row's statement (the work); the ties are given (YtkfnepnghnicoaaGreatDoorTie.lean); close each card by the builder's one call (the guide's Derived/Test/ToyasCard.lean, 'card_holds'). Laid BY PROGRAM, IN A SANDBOX (cutbox-door.mjs). By AI agents, Wed Nov 11 2026. No macro, syntax, notation, axiom, sorry.
-/
import Derived.Test.YtkfnepnghnicoaaGreatDoorRows
import GoSem.ClaimSeven
namespace Go.Proofs.YtkfnepnghnicoaaGreatDoor
namespace Rows

/-- THE TIED CARD OF 'shibbolethlaw28.AuthsAny'. -/
def authsAnyCard : Claim7 := { stood := { row := authsAnyRow, standIns := [], harness := (true, "6c56a573d886e432881a594d17460a8eb3acee5d4ea7896d3a9396457cdc98f9"), looks := true }, kinds := [], alts := [], laidByText := true, laidKinds := [.data, .data, .data, .data, .handle, .data, .data, .pinned], laidTests := true, laidLooks := .later }
def AuthsAnyCardSaid : Prop := Claim7.holds Tryz.pinned (.plain (OpenSpec.ofChange authsAnySpec)) authsAnyCard

/-- THE TIED CARD OF 'shibbolethlaw28.AuthsAccepts'. -/
def authsAcceptsCard : Claim7 := { stood := { row := authsAcceptsRow, standIns := [], harness := (true, "6c56a573d886e432881a594d17460a8eb3acee5d4ea7896d3a9396457cdc98f9"), looks := true }, kinds := [], alts := [], laidByText := true, laidKinds := [.data, .data, .data, .data, .handle, .data, .data, .pinned], laidTests := true, laidLooks := .later }
def AuthsAcceptsCardSaid : Prop := Claim7.holds Tryz.pinned (.plain (OpenSpec.ofChange authsAcceptsSpec)) authsAcceptsCard

/-- THE SECOND FORM's CARD OF 'shibbolethlaw28.AuthsAny'. -/
def authsAnyUptoCard : Claim7 := { stood := { row := authsAnyUptoRow, standIns := [], harness := (true, "6c56a573d886e432881a594d17460a8eb3acee5d4ea7896d3a9396457cdc98f9"), looks := true }, kinds := [], alts := [], laidByText := true, laidKinds := [.data, .data, .data, .data, .handle, .data, .data, .pinned], laidTests := true, laidLooks := .later }
def AuthsAnyUptoCardSaid : Prop := Claim7.holds Tryz.pinned (.plain (OpenSpec.upto authsAnySpec)) authsAnyUptoCard

/-- THE SECOND FORM's CARD OF 'shibbolethlaw28.AuthsAccepts'. -/
def authsAcceptsUptoCard : Claim7 := { stood := { row := authsAcceptsUptoRow, standIns := [], harness := (true, "6c56a573d886e432881a594d17460a8eb3acee5d4ea7896d3a9396457cdc98f9"), looks := true }, kinds := [], alts := [], laidByText := true, laidKinds := [.data, .data, .data, .data, .handle, .data, .data, .pinned], laidTests := true, laidLooks := .later }
def AuthsAcceptsUptoCardSaid : Prop := Claim7.holds Tryz.pinned (.plain (OpenSpec.upto authsAcceptsSpec)) authsAcceptsUptoCard
end Rows
end Go.Proofs.YtkfnepnghnicoaaGreatDoor
