/-
  The contract of law07's Same of equal messages. Conditions: at most 1,000 values; lists of at most 1,000,000,000 texts.
-/
import Derived.Test.YtjaipdenahlheaaGreatDoorEncG
import Derived.Test.YtjaipdenahlheaaGreatDoorReadW
set_option linter.unusedVariables false
set_option linter.unusedSimpArgs false
namespace Go.Proofs.YtjaipdenahlheaaGreatDoor
open Go.RowKit Go.ChangeShapes Go.WideShapes Go.Sort
section
variable {w : World}
end
end Go.Proofs.YtjaipdenahlheaaGreatDoor
