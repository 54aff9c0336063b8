/-
  The contract of code's term: a term read, whatever stands there. Conditions: at most MaxTerm bytes.
-/
import Derived.Test.YtephdodkijanmaaGreatDoorRdrE
set_option linter.unusedVariables false
set_option linter.unusedSimpArgs false
namespace Go.Proofs.YtephdodkijanmaaGreatDoor
open Go.RowKit Go.ChangeShapes Go.WideShapes Go.Sort
section
variable {B b g p p0 N : Nat} {s : ByteArray} {T : List Tm} {S : Nat → Prop} {w w0 w1 w2 : World} {c : UInt8} {s1 : List UInt8}
end
end Go.Proofs.YtephdodkijanmaaGreatDoor
