/-
  DERIVED. GIVEN WITH THE SEED: THE CARDS: each row of YtmgfcjpifkoahaaGreatDoorRows.lean that lists a variable, with what it lists TIED to the program's text (the seventh form; the later family's looks); each row that meets fmt, with fmt's text TOLD by the authors' own Lean function (tested against real Go, not proved from fmt's source: count such statements apart). THE CARD IS WHAT COUNTS. Prove the row's statement (the work); the ties are given (YtmgfcjpifkoahaaGreatDoorTie.lean); close each card by the builder's one call (the guide's Derived/Test/ToyasCard.lean, 'card_holds'). Laid BY PROGRAM, IN A SANDBOX (cutbox-door.mjs). By AI agents, Wed Nov 11 2026. No macro, syntax, notation, axiom, sorry.
-/
import Derived.Test.YtmgfcjpifkoahaaGreatDoorRows
import GoSem.ClaimSeven
namespace Go.Proofs.YtmgfcjpifkoahaaGreatDoor
namespace Rows

/-- THE TIED CARD OF 'shibbolethlaw09.PayloadTerm'. -/
def payloadTermCard : Claim7 := { stood := { row := payloadTermRow, standIns := [], harness := (true, "772eb5420e1e1ecf73493ede4aa50199e7af97582f16d0b822a48f02a3a58b79"), looks := false }, kinds := [], alts := [], laidByText := true, laidKinds := [.data, .data, .data, .data, .pinned], laidTests := true, laidLooks := .later }
def PayloadTermCardSaid : Prop := Claim7.holds Tryz.pinned (.plain (OpenSpec.ofChange payloadTermSpec)) payloadTermCard

/-- THE TIED CARD OF 'shibbolethlaw09.PayloadBytes'. -/
def payloadBytesCard : Claim7 := { stood := { row := payloadBytesRow, standIns := [], harness := (true, "772eb5420e1e1ecf73493ede4aa50199e7af97582f16d0b822a48f02a3a58b79"), looks := false }, kinds := [], alts := [], laidByText := true, laidKinds := [.data, .data, .data, .data, .pinned], laidTests := true, laidLooks := .later }
def PayloadBytesCardSaid : Prop := Claim7.holds Tryz.pinned (.plain (OpenSpec.ofChange payloadBytesSpec)) payloadBytesCard

/-- THE TIED CARD OF 'shibbolethlaw09.PayloadApart'. -/
def payloadApartCard : Claim7 := { stood := { row := payloadApartRow, standIns := [], harness := (true, "772eb5420e1e1ecf73493ede4aa50199e7af97582f16d0b822a48f02a3a58b79"), looks := false }, kinds := [], alts := [], laidByText := true, laidKinds := [.data, .data, .data, .data, .pinned], laidTests := true, laidLooks := .later }
def PayloadApartCardSaid : Prop := Claim7.holds Tryz.pinned (.plain (OpenSpec.ofChange payloadApartSpec)) payloadApartCard

/-- THE TIED CARD OF 'shibbolethlaw12.SealTerms'. -/
def sealTermsCard : Claim7 := { stood := { row := sealTermsRow, standIns := [], harness := (true, "772eb5420e1e1ecf73493ede4aa50199e7af97582f16d0b822a48f02a3a58b79"), looks := false }, kinds := [], alts := [], laidByText := true, laidKinds := [.data, .data, .data, .data, .pinned], laidTests := true, laidLooks := .later }
def SealTermsCardSaid : Prop := Claim7.holds Tryz.pinned (.plain (OpenSpec.ofChange sealTermsSpec)) sealTermsCard

/-- THE SECOND FORM's CARD OF 'shibbolethlaw09.PayloadTerm'. -/
def payloadTermUptoCard : Claim7 := { stood := { row := payloadTermUptoRow, standIns := [], harness := (true, "772eb5420e1e1ecf73493ede4aa50199e7af97582f16d0b822a48f02a3a58b79"), looks := false }, kinds := [], alts := [], laidByText := true, laidKinds := [.data, .data, .data, .data, .pinned], laidTests := true, laidLooks := .later }
def PayloadTermUptoCardSaid : Prop := Claim7.holds Tryz.pinned (.plain (OpenSpec.upto payloadTermSpec)) payloadTermUptoCard

/-- THE SECOND FORM's CARD OF 'shibbolethlaw09.PayloadBytes'. -/
def payloadBytesUptoCard : Claim7 := { stood := { row := payloadBytesUptoRow, standIns := [], harness := (true, "772eb5420e1e1ecf73493ede4aa50199e7af97582f16d0b822a48f02a3a58b79"), looks := false }, kinds := [], alts := [], laidByText := true, laidKinds := [.data, .data, .data, .data, .pinned], laidTests := true, laidLooks := .later }
def PayloadBytesUptoCardSaid : Prop := Claim7.holds Tryz.pinned (.plain (OpenSpec.upto payloadBytesSpec)) payloadBytesUptoCard

/-- THE SECOND FORM's CARD OF 'shibbolethlaw09.PayloadApart'. -/
def payloadApartUptoCard : Claim7 := { stood := { row := payloadApartUptoRow, standIns := [], harness := (true, "772eb5420e1e1ecf73493ede4aa50199e7af97582f16d0b822a48f02a3a58b79"), looks := false }, kinds := [], alts := [], laidByText := true, laidKinds := [.data, .data, .data, .data, .pinned], laidTests := true, laidLooks := .later }
def PayloadApartUptoCardSaid : Prop := Claim7.holds Tryz.pinned (.plain (OpenSpec.upto payloadApartSpec)) payloadApartUptoCard

/-- THE SECOND FORM's CARD OF 'shibbolethlaw12.SealTerms'. -/
def sealTermsUptoCard : Claim7 := { stood := { row := sealTermsUptoRow, standIns := [], harness := (true, "772eb5420e1e1ecf73493ede4aa50199e7af97582f16d0b822a48f02a3a58b79"), looks := false }, kinds := [], alts := [], laidByText := true, laidKinds := [.data, .data, .data, .data, .pinned], laidTests := true, laidLooks := .later }
def SealTermsUptoCardSaid : Prop := Claim7.holds Tryz.pinned (.plain (OpenSpec.upto sealTermsSpec)) sealTermsUptoCard
end Rows
end Go.Proofs.YtmgfcjpifkoahaaGreatDoor
