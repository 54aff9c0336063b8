/-
  DERIVED. GIVEN WITH THE SEED: THE CARDS: each row of YtihfpbaaiedfbaaGreatDoorRows.lean that lists a variable, with what it lists TIED to the program's text (the seventh form; the later family's looks); each row that meets fmt, with fmt's text TOLD by the authors' own Lean function (tested against real Go, not proved from fmt's source: count such statements apart). THE CARD IS WHAT COUNTS. Prove the row's statement (the work); the ties are given (YtihfpbaaiedfbaaGreatDoorTie.lean); close each card by the builder's one call (the guide's Derived/Test/ToyasCard.lean, 'card_holds'). Laid BY PROGRAM, IN A SANDBOX (cutbox-door.mjs). By AI agents, Wed Nov 11 2026. No macro, syntax, notation, axiom, sorry.
-/
import Derived.Test.YtihfpbaaiedfbaaGreatDoorRows
import GoSem.ClaimSeven
namespace Go.Proofs.YtihfpbaaiedfbaaGreatDoor
namespace Rows

/-- THE TIED CARD OF 'shibbolethlaw28.AuthsAny'. -/
def authsAnyCard : Claim7 := { stood := { row := authsAnyRow, standIns := [], harness := (true, "0e7a39e25e00afc454b64b469ae6c8354f4adb7f71d7d9cf0994ac9c9b9a589a"), looks := true }, kinds := [], alts := [], laidByText := true, laidKinds := [.data, .data, .data, .data, .handle, .data, .data, .pinned], laidTests := true, laidLooks := .later }
def AuthsAnyCardSaid : Prop := Claim7.holds Tryz.pinned (.plain (OpenSpec.ofChange authsAnySpec)) authsAnyCard

/-- THE TIED CARD OF 'shibbolethlaw28.AuthsAccepts'. -/
def authsAcceptsCard : Claim7 := { stood := { row := authsAcceptsRow, standIns := [], harness := (true, "0e7a39e25e00afc454b64b469ae6c8354f4adb7f71d7d9cf0994ac9c9b9a589a"), looks := true }, kinds := [], alts := [], laidByText := true, laidKinds := [.data, .data, .data, .data, .handle, .data, .data, .pinned], laidTests := true, laidLooks := .later }
def AuthsAcceptsCardSaid : Prop := Claim7.holds Tryz.pinned (.plain (OpenSpec.ofChange authsAcceptsSpec)) authsAcceptsCard

/-- THE TIED CARD OF 'shibbolethlaw28.AuthsLimit'. -/
def authsLimitCard : Claim7 := { stood := { row := authsLimitRow, standIns := [], harness := (true, "0e7a39e25e00afc454b64b469ae6c8354f4adb7f71d7d9cf0994ac9c9b9a589a"), looks := true }, kinds := [], alts := [], laidByText := true, laidKinds := [.data, .data, .data, .data, .handle, .data, .data, .pinned], laidTests := true, laidLooks := .later }
def AuthsLimitCardSaid : Prop := Claim7.holds Tryz.pinned (.plain (OpenSpec.ofChange authsLimitSpec)) authsLimitCard

/-- THE SECOND FORM's CARD OF 'shibbolethlaw28.AuthsAny'. -/
def authsAnyUptoCard : Claim7 := { stood := { row := authsAnyUptoRow, standIns := [], harness := (true, "0e7a39e25e00afc454b64b469ae6c8354f4adb7f71d7d9cf0994ac9c9b9a589a"), looks := true }, kinds := [], alts := [], laidByText := true, laidKinds := [.data, .data, .data, .data, .handle, .data, .data, .pinned], laidTests := true, laidLooks := .later }
def AuthsAnyUptoCardSaid : Prop := Claim7.holds Tryz.pinned (.plain (OpenSpec.upto authsAnySpec)) authsAnyUptoCard

/-- THE SECOND FORM's CARD OF 'shibbolethlaw28.AuthsAccepts'. -/
def authsAcceptsUptoCard : Claim7 := { stood := { row := authsAcceptsUptoRow, standIns := [], harness := (true, "0e7a39e25e00afc454b64b469ae6c8354f4adb7f71d7d9cf0994ac9c9b9a589a"), looks := true }, kinds := [], alts := [], laidByText := true, laidKinds := [.data, .data, .data, .data, .handle, .data, .data, .pinned], laidTests := true, laidLooks := .later }
def AuthsAcceptsUptoCardSaid : Prop := Claim7.holds Tryz.pinned (.plain (OpenSpec.upto authsAcceptsSpec)) authsAcceptsUptoCard

/-- THE SECOND FORM's CARD OF 'shibbolethlaw28.AuthsLimit'. -/
def authsLimitUptoCard : Claim7 := { stood := { row := authsLimitUptoRow, standIns := [], harness := (true, "0e7a39e25e00afc454b64b469ae6c8354f4adb7f71d7d9cf0994ac9c9b9a589a"), looks := true }, kinds := [], alts := [], laidByText := true, laidKinds := [.data, .data, .data, .data, .handle, .data, .data, .pinned], laidTests := true, laidLooks := .later }
def AuthsLimitUptoCardSaid : Prop := Claim7.holds Tryz.pinned (.plain (OpenSpec.upto authsLimitSpec)) authsLimitUptoCard
end Rows
end Go.Proofs.YtihfpbaaiedfbaaGreatDoor
