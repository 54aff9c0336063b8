/-
  DERIVED. GIVEN WITH THE SEED: THE CARDS: each row of YtephdodkijanmaaGreatDoorRows.lean that lists a variable, with what it lists TIED to the program's text (the seventh form; the later family's looks); each row that meets fmt, with fmt's text TOLD by the authors' own Lean function (tested against real Go, not proved from fmt's source: count such statements apart). THE CARD IS WHAT COUNTS. Prove the row's statement (the work); the ties are given (YtephdodkijanmaaGreatDoorTie.lean); close each card by the builder's one call (the guide's Derived/Test/ToyasCard.lean, 'card_holds'). Laid BY PROGRAM, IN A SANDBOX (cutbox-door.mjs). By AI agents, Wed Nov 11 2026. No macro, syntax, notation, axiom, sorry.
-/
import Derived.Test.YtephdodkijanmaaGreatDoorRows
import GoSem.ClaimSeven
namespace Go.Proofs.YtephdodkijanmaaGreatDoor
namespace Rows

/-- THE TIED CARD OF 'shibbolethlaw22.SignApart'. -/
def signApartCard : Claim7 := { stood := { row := signApartRow, standIns := [], harness := (true, "d27c1250917e6d116850e81e512e0cdaebd4a8a638dd5a598d2639d34d37e654"), looks := true }, kinds := [], alts := [], laidByText := true, laidKinds := [.data, .data, .data, .handle], laidTests := true, laidLooks := .later }
def SignApartCardSaid : Prop := Claim7.holds Tryz.pinned (.plain (OpenSpec.ofChange signApartSpec)) signApartCard

/-- THE TIED CARD OF 'shibbolethlaw22.SignHosts'. -/
def signHostsCard : Claim7 := { stood := { row := signHostsRow, standIns := [], harness := (true, "d27c1250917e6d116850e81e512e0cdaebd4a8a638dd5a598d2639d34d37e654"), looks := true }, kinds := [], alts := [], laidByText := true, laidKinds := [.data, .data, .data, .handle], laidTests := true, laidLooks := .later }
def SignHostsCardSaid : Prop := Claim7.holds Tryz.pinned (.plain (OpenSpec.ofChange signHostsSpec)) signHostsCard

/-- THE TIED CARD OF 'shibbolethlaw22.SignUsers'. -/
def signUsersCard : Claim7 := { stood := { row := signUsersRow, standIns := [], harness := (true, "d27c1250917e6d116850e81e512e0cdaebd4a8a638dd5a598d2639d34d37e654"), looks := true }, kinds := [], alts := [], laidByText := true, laidKinds := [.data, .data, .data, .handle], laidTests := true, laidLooks := .later }
def SignUsersCardSaid : Prop := Claim7.holds Tryz.pinned (.plain (OpenSpec.ofChange signUsersSpec)) signUsersCard

/-- THE SECOND FORM's CARD OF 'shibbolethlaw22.SignApart'. -/
def signApartUptoCard : Claim7 := { stood := { row := signApartUptoRow, standIns := [], harness := (true, "d27c1250917e6d116850e81e512e0cdaebd4a8a638dd5a598d2639d34d37e654"), looks := true }, kinds := [], alts := [], laidByText := true, laidKinds := [.data, .data, .data, .handle], laidTests := true, laidLooks := .later }
def SignApartUptoCardSaid : Prop := Claim7.holds Tryz.pinned (.plain (OpenSpec.upto signApartSpec)) signApartUptoCard

/-- THE SECOND FORM's CARD OF 'shibbolethlaw22.SignHosts'. -/
def signHostsUptoCard : Claim7 := { stood := { row := signHostsUptoRow, standIns := [], harness := (true, "d27c1250917e6d116850e81e512e0cdaebd4a8a638dd5a598d2639d34d37e654"), looks := true }, kinds := [], alts := [], laidByText := true, laidKinds := [.data, .data, .data, .handle], laidTests := true, laidLooks := .later }
def SignHostsUptoCardSaid : Prop := Claim7.holds Tryz.pinned (.plain (OpenSpec.upto signHostsSpec)) signHostsUptoCard

/-- THE SECOND FORM's CARD OF 'shibbolethlaw22.SignUsers'. -/
def signUsersUptoCard : Claim7 := { stood := { row := signUsersUptoRow, standIns := [], harness := (true, "d27c1250917e6d116850e81e512e0cdaebd4a8a638dd5a598d2639d34d37e654"), looks := true }, kinds := [], alts := [], laidByText := true, laidKinds := [.data, .data, .data, .handle], laidTests := true, laidLooks := .later }
def SignUsersUptoCardSaid : Prop := Claim7.holds Tryz.pinned (.plain (OpenSpec.upto signUsersSpec)) signUsersUptoCard
end Rows
end Go.Proofs.YtephdodkijanmaaGreatDoor
