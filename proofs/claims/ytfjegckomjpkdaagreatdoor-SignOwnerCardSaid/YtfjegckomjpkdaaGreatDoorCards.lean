/-
  DERIVED. GIVEN WITH THE SEED: THE CARDS: each row of YtfjegckomjpkdaaGreatDoorRows.lean that lists a variable, with what it lists TIED to the program's text (the seventh form; the later family's looks); each row that meets fmt, with fmt's text TOLD by the authors' own Lean function (tested against real Go, not proved from fmt's source: count such statements apart). THE CARD IS WHAT COUNTS. Prove the row's statement (the work); the ties are given (YtfjegckomjpkdaaGreatDoorTie.lean); close each card by the builder's one call (the guide's Derived/Test/ToyasCard.lean, 'card_holds'). Laid BY PROGRAM, IN A SANDBOX (cutbox-door.mjs). By AI agents, Wed Nov 11 2026. No macro, syntax, notation, axiom, sorry.
-/
import Derived.Test.YtfjegckomjpkdaaGreatDoorRows
import GoSem.ClaimSeven
namespace Go.Proofs.YtfjegckomjpkdaaGreatDoor
namespace Rows

/-- THE TIED CARD OF 'shibbolethlaw02.CodeEncodes'. -/
def codeEncodesCard : Claim7 := { stood := { row := codeEncodesRow, standIns := [], harness := (true, "c0c10aa0bdd3d4961ada160fc1f5c86023ac5053100061ef1d599eb90c866ea3"), looks := true }, kinds := [], alts := [], laidByText := true, laidKinds := [.data, .data, .data], laidTests := true, laidLooks := .later }
def CodeEncodesCardSaid : Prop := Claim7.holds Tryz.pinned (.plain (OpenSpec.ofChange codeEncodesSpec)) codeEncodesCard

/-- THE TIED CARD OF 'shibbolethlaw02.CodeApart'. -/
def codeApartCard : Claim7 := { stood := { row := codeApartRow, standIns := [], harness := (true, "c0c10aa0bdd3d4961ada160fc1f5c86023ac5053100061ef1d599eb90c866ea3"), looks := true }, kinds := [], alts := [], laidByText := true, laidKinds := [.data, .data, .data], laidTests := true, laidLooks := .later }
def CodeApartCardSaid : Prop := Claim7.holds Tryz.pinned (.plain (OpenSpec.ofChange codeApartSpec)) codeApartCard

/-- THE TIED CARD OF 'shibbolethlaw22.SignApart'. -/
def signApartCard : Claim7 := { stood := { row := signApartRow, standIns := [], harness := (true, "c0c10aa0bdd3d4961ada160fc1f5c86023ac5053100061ef1d599eb90c866ea3"), looks := true }, kinds := [], alts := [], laidByText := true, laidKinds := [.data, .data, .data, .handle], laidTests := true, laidLooks := .later }
def SignApartCardSaid : Prop := Claim7.holds Tryz.pinned (.plain (OpenSpec.ofChange signApartSpec)) signApartCard

/-- THE TIED CARD OF 'shibbolethlaw22.SignOwner'. -/
def signOwnerCard : Claim7 := { stood := { row := signOwnerRow, standIns := [], harness := (true, "c0c10aa0bdd3d4961ada160fc1f5c86023ac5053100061ef1d599eb90c866ea3"), looks := true }, kinds := [], alts := [], laidByText := true, laidKinds := [.data, .data, .data, .handle], laidTests := true, laidLooks := .later }
def SignOwnerCardSaid : Prop := Claim7.holds Tryz.pinned (.plain (OpenSpec.ofChange signOwnerSpec)) signOwnerCard

/-- THE TIED CARD OF 'shibbolethlaw22.SignHosts'. -/
def signHostsCard : Claim7 := { stood := { row := signHostsRow, standIns := [], harness := (true, "c0c10aa0bdd3d4961ada160fc1f5c86023ac5053100061ef1d599eb90c866ea3"), looks := true }, kinds := [], alts := [], laidByText := true, laidKinds := [.data, .data, .data, .handle], laidTests := true, laidLooks := .later }
def SignHostsCardSaid : Prop := Claim7.holds Tryz.pinned (.plain (OpenSpec.ofChange signHostsSpec)) signHostsCard

/-- THE TIED CARD OF 'shibbolethlaw22.SignUsers'. -/
def signUsersCard : Claim7 := { stood := { row := signUsersRow, standIns := [], harness := (true, "c0c10aa0bdd3d4961ada160fc1f5c86023ac5053100061ef1d599eb90c866ea3"), looks := true }, kinds := [], alts := [], laidByText := true, laidKinds := [.data, .data, .data, .handle], laidTests := true, laidLooks := .later }
def SignUsersCardSaid : Prop := Claim7.holds Tryz.pinned (.plain (OpenSpec.ofChange signUsersSpec)) signUsersCard

/-- THE TIED CARD OF 'shibbolethlaw20.TransApart'. -/
def transApartCard : Claim7 := { stood := { row := transApartRow, standIns := [], harness := (true, "c0c10aa0bdd3d4961ada160fc1f5c86023ac5053100061ef1d599eb90c866ea3"), looks := true }, kinds := [], alts := [], laidByText := true, laidKinds := [.data, .data, .data, .data, .pinned], laidTests := true, laidLooks := .later }
def TransApartCardSaid : Prop := Claim7.holds Tryz.pinned (.plain (OpenSpec.ofChange transApartSpec)) transApartCard

/-- THE TIED CARD OF 'shibbolethlaw20.TransHashes'. -/
def transHashesCard : Claim7 := { stood := { row := transHashesRow, standIns := [], harness := (true, "c0c10aa0bdd3d4961ada160fc1f5c86023ac5053100061ef1d599eb90c866ea3"), looks := true }, kinds := [], alts := [], laidByText := true, laidKinds := [.data, .data, .data, .data, .pinned], laidTests := true, laidLooks := .later }
def TransHashesCardSaid : Prop := Claim7.holds Tryz.pinned (.plain (OpenSpec.ofChange transHashesSpec)) transHashesCard

/-- THE SECOND FORM's CARD OF 'shibbolethlaw02.CodeEncodes'. -/
def codeEncodesUptoCard : Claim7 := { stood := { row := codeEncodesUptoRow, standIns := [], harness := (true, "c0c10aa0bdd3d4961ada160fc1f5c86023ac5053100061ef1d599eb90c866ea3"), looks := true }, kinds := [], alts := [], laidByText := true, laidKinds := [.data, .data, .data], laidTests := true, laidLooks := .later }
def CodeEncodesUptoCardSaid : Prop := Claim7.holds Tryz.pinned (.plain (OpenSpec.upto codeEncodesSpec)) codeEncodesUptoCard

/-- THE SECOND FORM's CARD OF 'shibbolethlaw02.CodeApart'. -/
def codeApartUptoCard : Claim7 := { stood := { row := codeApartUptoRow, standIns := [], harness := (true, "c0c10aa0bdd3d4961ada160fc1f5c86023ac5053100061ef1d599eb90c866ea3"), looks := true }, kinds := [], alts := [], laidByText := true, laidKinds := [.data, .data, .data], laidTests := true, laidLooks := .later }
def CodeApartUptoCardSaid : Prop := Claim7.holds Tryz.pinned (.plain (OpenSpec.upto codeApartSpec)) codeApartUptoCard

/-- THE SECOND FORM's CARD OF 'shibbolethlaw22.SignApart'. -/
def signApartUptoCard : Claim7 := { stood := { row := signApartUptoRow, standIns := [], harness := (true, "c0c10aa0bdd3d4961ada160fc1f5c86023ac5053100061ef1d599eb90c866ea3"), looks := true }, kinds := [], alts := [], laidByText := true, laidKinds := [.data, .data, .data, .handle], laidTests := true, laidLooks := .later }
def SignApartUptoCardSaid : Prop := Claim7.holds Tryz.pinned (.plain (OpenSpec.upto signApartSpec)) signApartUptoCard

/-- THE SECOND FORM's CARD OF 'shibbolethlaw22.SignOwner'. -/
def signOwnerUptoCard : Claim7 := { stood := { row := signOwnerUptoRow, standIns := [], harness := (true, "c0c10aa0bdd3d4961ada160fc1f5c86023ac5053100061ef1d599eb90c866ea3"), looks := true }, kinds := [], alts := [], laidByText := true, laidKinds := [.data, .data, .data, .handle], laidTests := true, laidLooks := .later }
def SignOwnerUptoCardSaid : Prop := Claim7.holds Tryz.pinned (.plain (OpenSpec.upto signOwnerSpec)) signOwnerUptoCard

/-- THE SECOND FORM's CARD OF 'shibbolethlaw22.SignHosts'. -/
def signHostsUptoCard : Claim7 := { stood := { row := signHostsUptoRow, standIns := [], harness := (true, "c0c10aa0bdd3d4961ada160fc1f5c86023ac5053100061ef1d599eb90c866ea3"), looks := true }, kinds := [], alts := [], laidByText := true, laidKinds := [.data, .data, .data, .handle], laidTests := true, laidLooks := .later }
def SignHostsUptoCardSaid : Prop := Claim7.holds Tryz.pinned (.plain (OpenSpec.upto signHostsSpec)) signHostsUptoCard

/-- THE SECOND FORM's CARD OF 'shibbolethlaw22.SignUsers'. -/
def signUsersUptoCard : Claim7 := { stood := { row := signUsersUptoRow, standIns := [], harness := (true, "c0c10aa0bdd3d4961ada160fc1f5c86023ac5053100061ef1d599eb90c866ea3"), looks := true }, kinds := [], alts := [], laidByText := true, laidKinds := [.data, .data, .data, .handle], laidTests := true, laidLooks := .later }
def SignUsersUptoCardSaid : Prop := Claim7.holds Tryz.pinned (.plain (OpenSpec.upto signUsersSpec)) signUsersUptoCard

/-- THE SECOND FORM's CARD OF 'shibbolethlaw20.TransApart'. -/
def transApartUptoCard : Claim7 := { stood := { row := transApartUptoRow, standIns := [], harness := (true, "c0c10aa0bdd3d4961ada160fc1f5c86023ac5053100061ef1d599eb90c866ea3"), looks := true }, kinds := [], alts := [], laidByText := true, laidKinds := [.data, .data, .data, .data, .pinned], laidTests := true, laidLooks := .later }
def TransApartUptoCardSaid : Prop := Claim7.holds Tryz.pinned (.plain (OpenSpec.upto transApartSpec)) transApartUptoCard

/-- THE SECOND FORM's CARD OF 'shibbolethlaw20.TransHashes'. -/
def transHashesUptoCard : Claim7 := { stood := { row := transHashesUptoRow, standIns := [], harness := (true, "c0c10aa0bdd3d4961ada160fc1f5c86023ac5053100061ef1d599eb90c866ea3"), looks := true }, kinds := [], alts := [], laidByText := true, laidKinds := [.data, .data, .data, .data, .pinned], laidTests := true, laidLooks := .later }
def TransHashesUptoCardSaid : Prop := Claim7.holds Tryz.pinned (.plain (OpenSpec.upto transHashesSpec)) transHashesUptoCard
end Rows
end Go.Proofs.YtfjegckomjpkdaaGreatDoor
