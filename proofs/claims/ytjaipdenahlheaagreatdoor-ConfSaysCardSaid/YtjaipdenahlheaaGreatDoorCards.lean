/-
  DERIVED. GIVEN WITH THE SEED: THE CARDS: each row of YtjaipdenahlheaaGreatDoorRows.lean that lists a variable, with what it lists TIED to the program's text (the seventh form; the later family's looks); each row that meets fmt, with fmt's text TOLD by the authors' own Lean function (tested against real Go, not proved from fmt's source: count such statements apart). THE CARD IS WHAT COUNTS. Prove the row's statement (the work); the ties are given (YtjaipdenahlheaaGreatDoorTie.lean); close each card by the builder's one call (the guide's Derived/Test/ToyasCard.lean, 'card_holds'). Laid BY PROGRAM, IN A SANDBOX (cutbox-door.mjs). By AI agents, Wed Nov 11 2026. No macro, syntax, notation, axiom, sorry.
-/
import Derived.Test.YtjaipdenahlheaaGreatDoorRows
import GoSem.ClaimSeven
namespace Go.Proofs.YtjaipdenahlheaaGreatDoor
namespace Rows

/-- THE TIED CARD OF 'shibbolethlaw25.ConfChecks'. -/
def confChecksCard : Claim7 := { stood := { row := confChecksRow, standIns := [], harness := (true, "3082fcc3b4b045e891a649330543bae4dc54b5906849bcd24b58fc52c5447495"), looks := true }, kinds := [], alts := [], laidByText := true, laidKinds := [.handle, .data, .data], laidTests := true, laidLooks := .later }
def ConfChecksCardSaid : Prop := Claim7.holds Tryz.pinned (.plain (OpenSpec.ofChange confChecksSpec)) confChecksCard

/-- THE TIED CARD OF 'shibbolethlaw16.KexinitBuilds'. -/
def kexinitBuildsCard : Claim7 := { stood := { row := kexinitBuildsRow, standIns := [], harness := (true, "3082fcc3b4b045e891a649330543bae4dc54b5906849bcd24b58fc52c5447495"), looks := true }, kinds := [], alts := [], laidByText := true, laidKinds := [.data, .data, .data, .data, .handle, .pinned], laidTests := true, laidLooks := .later }
def KexinitBuildsCardSaid : Prop := Claim7.holds Tryz.pinned (.plain (OpenSpec.ofChange kexinitBuildsSpec)) kexinitBuildsCard

/-- THE TIED CARD OF 'shibbolethlaw16.KexinitParses'. -/
def kexinitParsesCard : Claim7 := { stood := { row := kexinitParsesRow, standIns := [], harness := (true, "3082fcc3b4b045e891a649330543bae4dc54b5906849bcd24b58fc52c5447495"), looks := true }, kinds := [], alts := [], laidByText := true, laidKinds := [.data, .data, .data, .data, .handle, .pinned], laidTests := true, laidLooks := .later }
def KexinitParsesCardSaid : Prop := Claim7.holds Tryz.pinned (.plain (OpenSpec.ofChange kexinitParsesSpec)) kexinitParsesCard

/-- THE TIED CARD OF 'shibbolethlaw25.ConfSays'. -/
def confSaysCard : Claim7 := { stood := { row := confSaysRow, standIns := [], harness := (true, "3082fcc3b4b045e891a649330543bae4dc54b5906849bcd24b58fc52c5447495"), looks := true }, kinds := [], alts := [], laidByText := true, laidKinds := [.data, .data, .data, .data, .data, .data, .pinned], laidTests := true, laidLooks := .later }
def ConfSaysCardSaid : Prop := Claim7.holds Tryz.pinned (.plain (OpenSpec.ofChange confSaysSpec)) confSaysCard

/-- THE SECOND FORM's CARD OF 'shibbolethlaw25.ConfChecks'. -/
def confChecksUptoCard : Claim7 := { stood := { row := confChecksUptoRow, standIns := [], harness := (true, "3082fcc3b4b045e891a649330543bae4dc54b5906849bcd24b58fc52c5447495"), looks := true }, kinds := [], alts := [], laidByText := true, laidKinds := [.handle, .data, .data], laidTests := true, laidLooks := .later }
def ConfChecksUptoCardSaid : Prop := Claim7.holds Tryz.pinned (.plain (OpenSpec.upto confChecksSpec)) confChecksUptoCard

/-- THE SECOND FORM's CARD OF 'shibbolethlaw16.KexinitBuilds'. -/
def kexinitBuildsUptoCard : Claim7 := { stood := { row := kexinitBuildsUptoRow, standIns := [], harness := (true, "3082fcc3b4b045e891a649330543bae4dc54b5906849bcd24b58fc52c5447495"), looks := true }, kinds := [], alts := [], laidByText := true, laidKinds := [.data, .data, .data, .data, .handle, .pinned], laidTests := true, laidLooks := .later }
def KexinitBuildsUptoCardSaid : Prop := Claim7.holds Tryz.pinned (.plain (OpenSpec.upto kexinitBuildsSpec)) kexinitBuildsUptoCard

/-- THE SECOND FORM's CARD OF 'shibbolethlaw16.KexinitParses'. -/
def kexinitParsesUptoCard : Claim7 := { stood := { row := kexinitParsesUptoRow, standIns := [], harness := (true, "3082fcc3b4b045e891a649330543bae4dc54b5906849bcd24b58fc52c5447495"), looks := true }, kinds := [], alts := [], laidByText := true, laidKinds := [.data, .data, .data, .data, .handle, .pinned], laidTests := true, laidLooks := .later }
def KexinitParsesUptoCardSaid : Prop := Claim7.holds Tryz.pinned (.plain (OpenSpec.upto kexinitParsesSpec)) kexinitParsesUptoCard

/-- THE SECOND FORM's CARD OF 'shibbolethlaw25.ConfSays'. -/
def confSaysUptoCard : Claim7 := { stood := { row := confSaysUptoRow, standIns := [], harness := (true, "3082fcc3b4b045e891a649330543bae4dc54b5906849bcd24b58fc52c5447495"), looks := true }, kinds := [], alts := [], laidByText := true, laidKinds := [.data, .data, .data, .data, .data, .data, .pinned], laidTests := true, laidLooks := .later }
def ConfSaysUptoCardSaid : Prop := Claim7.holds Tryz.pinned (.plain (OpenSpec.upto confSaysSpec)) confSaysUptoCard
end Rows
end Go.Proofs.YtjaipdenahlheaaGreatDoor
