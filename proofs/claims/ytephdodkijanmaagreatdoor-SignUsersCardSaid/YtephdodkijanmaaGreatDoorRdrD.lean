/-
  The contracts of code's leaf and share: terms made of no others; a group and exponents in order. Conditions: at most MaxTerm bytes.
-/
import Derived.Test.YtephdodkijanmaaGreatDoorRdrC
set_option linter.unusedVariables false
set_option linter.unusedSimpArgs false
namespace Go.Proofs.YtephdodkijanmaaGreatDoor
open Go.RowKit Go.ChangeShapes Go.WideShapes Go.Sort
section
variable {B b g p p0 N : Nat} {s : ByteArray} {T : List Tm} {S : Nat → Prop} {w w1 w2 : World} {c : UInt8} {s1 : List UInt8}
theorem drop_add (l : List UInt8) (i j : Nat) : (l.drop i).drop j = l.drop (i + j) := by rw [List.drop_drop]
/-- What is behind a first byte. -/
theorem rest_of (h1 : s.data.toList.drop p0 = c :: s1) : s1 = s.data.toList.drop (p0 + 1) := by
  have := congrArg List.tail h1
  simpa using this.symm
end
end Go.Proofs.YtephdodkijanmaaGreatDoor
