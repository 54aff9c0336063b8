/-
  The last step of a law at a tied card: from what is listed to the library's table. Conditions: none.
-/
import Derived.Test.YtdhopoafpddjpaaDoorLaw
import Derived.Test.YtdhopoafpddjpaaDoorOpen
import Derived.Test.YtdhopoafpddjpaaDoorCards
import Derived.Test.YtdhopoafpddjpaaDoorTie
import Derived.Lib.LaidTab
import Derived.Stop.LaidErr
import Derived.Lay
import Derived.SevenTiedAt
import Derived.LaidHandle
import Derived.MakeChecks
set_option linter.unusedVariables false
set_option linter.unusedSimpArgs false
namespace Go.Proofs.YtdhopoafpddjpaaDoor
open Go.ChangeShapes Go.WideShapes Go.ChangeAt Go.RowKit

end Go.Proofs.YtdhopoafpddjpaaDoor
