/-
  The contracts of code's some and counted: so many terms read, if term reads one. Conditions: at most MaxTerm bytes.
-/
import Derived.Test.YtephdodkijanmaaGreatDoorRdrS
set_option linter.unusedVariables false
set_option linter.unusedSimpArgs false
namespace Go.Proofs.YtephdodkijanmaaGreatDoor
open Go.RowKit Go.ChangeShapes Go.WideShapes Go.Sort

section
variable {B b g p N : Nat} {s : ByteArray} {T : List Tm} {S : Nat → Prop} {w : World}
theorem readT_no {s : ByteArray} {p p' : Nat} (h : ReadT s p none p') : NoT (s.data.toList.drop p) := by
  rcases h with h | ⟨t, h, _⟩
  · exact h.2
  · cases h
theorem readT_yes {s : ByteArray} {p p' : Nat} {t : Tm} (h : ReadT s p (some t) p') : good t ∧ s.data.toList.drop p = enc t ++ s.data.toList.drop p' := by
  rcases h with h | ⟨t', h, h2⟩
  · cases h.1
  · cases h
    exact h2
end
end Go.Proofs.YtephdodkijanmaaGreatDoor
