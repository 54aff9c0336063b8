/-
  DERIVED. GIVEN WITH THE SEED: THE CARDS: each row of YtjaipdenahlheaaDoorRows.lean that lists a variable, with what it lists TIED to the program's text (the seventh form; the later family's looks); each row that meets fmt, with fmt's text TOLD by the authors' own Lean function (tested against real Go, not proved from fmt's source: count such statements apart). THE CARD IS WHAT COUNTS. Prove the row's statement (the work); the ties are given (YtjaipdenahlheaaDoorTie.lean); close each card by the builder's one call (the guide's Derived/Test/ToyasCard.lean, 'card_holds'). Laid BY PROGRAM, IN A SANDBOX (cutbox-door.mjs). By AI agents, Wed Nov 11 2026. No macro, syntax, notation, axiom, sorry.
-/
import Derived.Test.YtjaipdenahlheaaDoorRows
import GoSem.ClaimSeven
namespace Go.Proofs.YtjaipdenahlheaaDoor
namespace Rows

/-- THE TIED CARD OF 'shibbolethlaw25.ConfCopies'. -/
def confCopiesCard : Claim7 := { stood := { row := confCopiesRow, standIns := [], harness := (true, "a255abd89f0f6d2bf90730f155af2a9228e389768a1e053013ea3e5865978449"), looks := false }, kinds := [], alts := [], laidByText := true, laidKinds := [.data, .data], laidTests := true, laidLooks := .later }
def ConfCopiesCardSaid : Prop := Claim7.holds Tryd.pinned (.plain (OpenSpec.ofChange confCopiesSpec)) confCopiesCard

/-- THE TIED CARD OF 'shibbolethlaw25.ConfInits'. -/
def confInitsCard : Claim7 := { stood := { row := confInitsRow, standIns := [], harness := (true, "a255abd89f0f6d2bf90730f155af2a9228e389768a1e053013ea3e5865978449"), looks := false }, kinds := [], alts := [], laidByText := true, laidKinds := [.data, .data], laidTests := true, laidLooks := .later }
def ConfInitsCardSaid : Prop := Claim7.holds Tryd.pinned (.plain (OpenSpec.ofChange confInitsSpec)) confInitsCard

/-- THE SECOND FORM's CARD OF 'shibbolethlaw25.ConfCopies'. -/
def confCopiesUptoCard : Claim7 := { stood := { row := confCopiesUptoRow, standIns := [], harness := (true, "a255abd89f0f6d2bf90730f155af2a9228e389768a1e053013ea3e5865978449"), looks := false }, kinds := [], alts := [], laidByText := true, laidKinds := [.data, .data], laidTests := true, laidLooks := .later }
def ConfCopiesUptoCardSaid : Prop := Claim7.holds Tryd.pinned (.plain (OpenSpec.upto confCopiesSpec)) confCopiesUptoCard

/-- THE SECOND FORM's CARD OF 'shibbolethlaw25.ConfInits'. -/
def confInitsUptoCard : Claim7 := { stood := { row := confInitsUptoRow, standIns := [], harness := (true, "a255abd89f0f6d2bf90730f155af2a9228e389768a1e053013ea3e5865978449"), looks := false }, kinds := [], alts := [], laidByText := true, laidKinds := [.data, .data], laidTests := true, laidLooks := .later }
def ConfInitsUptoCardSaid : Prop := Claim7.holds Tryd.pinned (.plain (OpenSpec.upto confInitsSpec)) confInitsUptoCard
end Rows
end Go.Proofs.YtjaipdenahlheaaDoor
