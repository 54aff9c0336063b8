/-
  Several of my texts in one: Ref06, Ref06b, Ref06c, RDec.
-/
import Derived.Test.YtjaipdenahlheaaDoorKEncG
import Derived.Test.YtjaipdenahlheaaDoorKBaseG
import Derived.Test.YtjaipdenahlheaaDoorKMsgG
import Derived.Test.YtjaipdenahlheaaDoorKRefA
import Derived.Test.YtjaipdenahlheaaDoorKPureA
import Derived.Test.YtjaipdenahlheaaDoorKShelf
import Derived.Test.YtjaipdenahlheaaDoorKGetX
import Derived.Test.YtjaipdenahlheaaDoorKRSp
import Derived.Test.YtjaipdenahlheaaDoorKOrdE
import Derived.Test.YtjaipdenahlheaaDoorKReadW
import Derived.Deep.RegionHeld3
import Derived.Deep.DeepCutAuto
set_option linter.unusedVariables false
set_option linter.unusedSimpArgs false
/-
  The contracts of the reference for package schema. Conditions: none.
-/
namespace Go.Proofs.YtjaipdenahlheaaDoor
open Go.RowKit

def table : List (Int × ByteArray × List ByteArray) := [
  (1, ⟨#[100, 105, 115, 99, 111, 110, 110, 101, 99, 116]⟩, [⟨#[117, 115, 115]⟩]),
  (2, ⟨#[105, 103, 110, 111, 114, 101]⟩, [⟨#[115]⟩]),
  (3, ⟨#[117, 110, 105, 109, 112, 108, 101, 109, 101, 110, 116, 101, 100]⟩, [⟨#[117]⟩]),
  (4, ⟨#[100, 101, 98, 117, 103]⟩, [⟨#[98, 115, 115]⟩]),
  (5, ⟨#[115, 101, 114, 118, 105, 99, 101, 45, 114, 101, 113, 117, 101, 115, 116]⟩, [⟨#[115]⟩]),
  (6, ⟨#[115, 101, 114, 118, 105, 99, 101, 45, 97, 99, 99, 101, 112, 116]⟩, [⟨#[115]⟩]),
  (7, ⟨#[101, 120, 116, 45, 105, 110, 102, 111]⟩, [⟨#[101]⟩]),
  (20, ⟨#[107, 101, 120, 105, 110, 105, 116]⟩, [⟨#[99, 110, 110, 110, 110, 110, 110, 110, 110, 110, 110, 98, 117]⟩]),
  (21, ⟨#[110, 101, 119, 107, 101, 121, 115]⟩, [⟨#[]⟩]),
  (30, ⟨#[101, 99, 100, 104, 45, 105, 110, 105, 116]⟩, [⟨#[116]⟩]),
  (31, ⟨#[114, 101, 112, 108, 121, 45, 111, 114, 45, 103, 114, 111, 117, 112]⟩, [⟨#[116, 116, 116]⟩, ⟨#[109, 109]⟩]),
  (32, ⟨#[103, 101, 120, 45, 105, 110, 105, 116]⟩, [⟨#[116]⟩]),
  (33, ⟨#[103, 101, 120, 45, 114, 101, 112, 108, 121]⟩, [⟨#[116, 116, 116]⟩]),
  (34, ⟨#[103, 101, 120, 45, 114, 101, 113, 117, 101, 115, 116]⟩, [⟨#[117, 117, 117]⟩]),
  (50, ⟨#[117, 115, 101, 114, 97, 117, 116, 104, 45, 114, 101, 113, 117, 101, 115, 116]⟩, [⟨#[115, 115, 115]⟩, ⟨#[115, 115, 115, 98, 115, 116]⟩, ⟨#[115, 115, 115, 98, 115, 116, 116]⟩]),
  (51, ⟨#[117, 115, 101, 114, 97, 117, 116, 104, 45, 102, 97, 105, 108, 117, 114, 101]⟩, [⟨#[110, 98]⟩]),
  (52, ⟨#[117, 115, 101, 114, 97, 117, 116, 104, 45, 115, 117, 99, 99, 101, 115, 115]⟩, [⟨#[]⟩]),
  (53, ⟨#[117, 115, 101, 114, 97, 117, 116, 104, 45, 98, 97, 110, 110, 101, 114]⟩, [⟨#[115, 115]⟩]),
  (60, ⟨#[117, 115, 101, 114, 97, 117, 116, 104, 45, 112, 107, 45, 111, 107]⟩, [⟨#[115, 116]⟩])]

end Go.Proofs.YtjaipdenahlheaaDoor

/-
  The contracts of the reference for package schema: Of, Fit, Class. Conditions: none.
-/
namespace Go.Proofs.YtjaipdenahlheaaDoor
open Go.RowKit

end Go.Proofs.YtjaipdenahlheaaDoor

/-
  The rest of the reference for package schema: Fit, Class; and how it stands to the program's. Conditions: none.
-/
namespace Go.Proofs.YtjaipdenahlheaaDoor
open Go.RowKit

end Go.Proofs.YtjaipdenahlheaaDoor

/-
  The contract of the reference's Decode. Conditions: payloads of at most 1,000,000 bytes.
-/
namespace Go.Proofs.YtjaipdenahlheaaDoor
open Go.RowKit Go.ChangeShapes Go.WideShapes Go.Sort
theorem TwoB.bel {B : Nat} {w0 w : World} {h : Nat} (hb : Below B w0 w) (hh : B ≤ h) (v0 v1 u0 u1 : Value) : Below B w0 ((((w.setCell ⟨h, 0, none⟩ v0).setCell ⟨h, 1, none⟩ v1).setCell ⟨h + 1, 0, none⟩ u0).setCell ⟨h + 1, 1, none⟩ u1) :=
  (((hb.setCell (p := ⟨h, 0, none⟩) hh v0).setCell (p := ⟨h, 1, none⟩) hh v1).setCell (p := ⟨h + 1, 0, none⟩) (Nat.le_succ_of_le hh) u0).setCell (p := ⟨h + 1, 1, none⟩) (Nat.le_succ_of_le hh) u1
end Go.Proofs.YtjaipdenahlheaaDoor
