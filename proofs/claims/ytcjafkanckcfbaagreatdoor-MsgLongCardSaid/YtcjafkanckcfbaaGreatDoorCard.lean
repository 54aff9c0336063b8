/-
  The last step of a law at a tied card: from what is listed to the library's table. Conditions: none.
-/
import Derived.Test.YtcjafkanckcfbaaGreatDoorLaw
import Derived.Test.YtcjafkanckcfbaaGreatDoorOpen
import Derived.Test.YtcjafkanckcfbaaGreatDoorCards
import Derived.Test.YtcjafkanckcfbaaGreatDoorTie
import Derived.Lib.LaidTab
import Derived.Stop.LaidErr
import Derived.Lay
import Derived.SevenTiedAt
import Derived.LaidHandle
import Derived.MakeChecks
set_option linter.unusedVariables false
set_option linter.unusedSimpArgs false
namespace Go.Proofs.YtcjafkanckcfbaaGreatDoor
open Go.ChangeShapes Go.WideShapes Go.ChangeAt Go.RowKit

end Go.Proofs.YtcjafkanckcfbaaGreatDoor
