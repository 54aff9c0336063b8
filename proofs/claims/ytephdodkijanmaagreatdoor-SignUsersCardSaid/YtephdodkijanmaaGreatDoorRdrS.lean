/-
  The state of code's reader beside an arena, and what its readers of terms answer. Conditions: none.
-/
import Derived.Test.YtephdodkijanmaaGreatDoorRdr
import Derived.Test.YtephdodkijanmaaGreatDoorMakesA
set_option linter.unusedVariables false
set_option linter.unusedSimpArgs false
namespace Go.Proofs.YtephdodkijanmaaGreatDoor
open Go.RowKit Go.ChangeShapes Go.WideShapes Go.Sort

/-- The blocks of an arena, and the reader's. -/
def SR (b : Nat) (S : Nat → Prop) (i : Nat) : Prop := S i ∨ i = b
section
variable {B b g p p' : Nat} {s : ByteArray} {T T' : List Tm} {S S' : Nat → Prop} {w w' : World}
theorem Grown.sr (h : Grown S w S' w') (b : Nat) : Grown (SR b S) w (SR b S') w' :=
  ⟨h.os, h.tape, h.output, h.size, fun i hi hn => h.block i hi (fun h2 => hn (.inl h2)), fun i hi => hi.imp (h.sub i) id, fun i hi => by
    rcases hi with hi | hi
    · exact (h.new i hi).imp .inl id
    · exact .inl (.inr hi)⟩
theorem grown_by (h : w.grownBy w' (some b)) : Grown (SR b S) w (SR b S) w' :=
  ⟨h.os, h.tape, h.output, h.size, fun i hi hn => h.block i hi (fun e => hn (.inr (Option.some.inj e))), fun _ h => h, fun _ h => .inl h⟩
end
section
variable {B b g p p' i : Nat} {s : ByteArray} {T T' T2 : List Tm} {S S' S2 : Nat → Prop} {w wr wx : World} {l : List Tm} {v : Value}
end
section
variable {B b g p p0 n : Nat} {s : ByteArray} {T : List Tm} {S : Nat → Prop} {w w1 w2 : World} {k a b' : Nat} {s' : ByteArray} {c : UInt8} {s1 : List UInt8}
end
end Go.Proofs.YtephdodkijanmaaGreatDoor
