/-
  The contracts of the reference's parts and Split of names. Conditions: texts of at most 1,000,000 bytes.
-/
import Derived.Test.YtjaipdenahlheaaDoorKGetX
import Derived.Test.YtjaipdenahlheaaDoorKPutM
import Derived.Deep.RegionHeld3
import Derived.Deep.DeepCutAuto
set_option linter.unusedVariables false
set_option linter.unusedSimpArgs false
namespace Go.Proofs.YtjaipdenahlheaaDoor
open Go.RowKit Go.ChangeShapes Go.WideShapes Go.Sort
/-- The state of parts' loop. -/
structure PartI (w : World) (S : List UInt8) (fr i : Nat) (A : Option Addr) (n c : Nat) (wr : World) : Prop where
  bel : Below w.heap.size w wr
  st : ∃ ls : List (List UInt8), ls.length = n ∧ wr.ownsRow w.heap.size 9 1 (.slice A n c) n ((ls.map bs).map Value.string) ∧ n ≤ i ∧
    (i ≤ S.length → fr ≤ i ∧ splitC S = ls ++ splitC (S.drop fr) ∧ ∀ c ∈ (S.drop fr).take (i - fr), c ≠ 44) ∧ (S.length < i → splitC S = ls)
end Go.Proofs.YtjaipdenahlheaaDoor
