/-
  The contract of code's term, all kinds together. Conditions: at most MaxTerm bytes.
-/
import Derived.Test.YtephdodkijanmaaGreatDoorRdrF
set_option linter.unusedVariables false
set_option linter.unusedSimpArgs false
namespace Go.Proofs.YtephdodkijanmaaGreatDoor
open Go.RowKit Go.ChangeShapes Go.WideShapes Go.Sort
theorem w64_id {x : Int} (h1 : -9223372036854775808 ≤ x) (h2 : x < 9223372036854775808) : wrap64 x = x := by
  unfold wrap64
  omega
theorem w64_q {q : Nat} (h : q < 256) : wrap64 (q : Int) = q := w64_id (by omega) (by omega)
theorem w64_k {q : Nat} (h : q < 256) : wrap64 ((q : Int) - 240) = (q : Int) - 240 := w64_id (by omega) (by omega)
section
variable {B b g p p0 N : Nat} {s : ByteArray} {T : List Tm} {S : Nat → Prop} {w w0 w1 w2 : World} {c : UInt8} {s1 : List UInt8}
end
end Go.Proofs.YtephdodkijanmaaGreatDoor
