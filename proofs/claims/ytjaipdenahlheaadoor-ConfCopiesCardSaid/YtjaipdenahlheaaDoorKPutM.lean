/-
  The contracts of package msg's counts, plain, list and put. Conditions: texts and lists that fit.
-/
import Derived.Test.YtjaipdenahlheaaDoorKMsgG
import Derived.Test.YtjaipdenahlheaaDoorKNam
import Derived.Test.YtjaipdenahlheaaDoorKRefA
import Derived.Test.YtjaipdenahlheaaDoorKPureA
import Derived.Test.YtjaipdenahlheaaDoorKShelf
set_option linter.unusedVariables false
set_option linter.unusedSimpArgs false
namespace Go.Proofs.YtjaipdenahlheaaDoor
open Go.RowKit Go.ChangeShapes Go.WideShapes Go.Sort
/-- Its texts are no longer than that. -/
structure SzF (x : Fld) : Prop where
  s : x.s.length ≤ 100000
  n : x.l.length ≤ 1000
  l : ∀ y ∈ x.l, y.length ≤ 100000
end Go.Proofs.YtjaipdenahlheaaDoor
