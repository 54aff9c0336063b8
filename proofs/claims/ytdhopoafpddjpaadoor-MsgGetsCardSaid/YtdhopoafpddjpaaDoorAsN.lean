/-
  errors.As at a chain of one place and of three. Conditions: the library's handle is as it was laid.
-/
import Derived.Test.YtdhopoafpddjpaaDoorAs
set_option linter.unusedVariables false
set_option linter.unusedSimpArgs false
namespace Go.Proofs.YtdhopoafpddjpaaDoor
open Go.RowKit Go.Extern.Stop Go.Stop Go.Extern
section
variable {w : World}
end
end Go.Proofs.YtdhopoafpddjpaaDoor
