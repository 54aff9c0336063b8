/-
  The last step of a law at a tied card: from what is listed to the library's table. Conditions: none.
-/
import Derived.Test.YtjaipdenahlheaaGreatDoorMsgG
import Derived.Test.YtjaipdenahlheaaGreatDoorCards
import Derived.Test.YtjaipdenahlheaaGreatDoorTie
import Derived.Lib.LaidTab
import Derived.Stop.LaidErr
import Derived.Lay
import Derived.SevenTiedAt
import Derived.LaidHandle
import Derived.MakeChecks
set_option linter.unusedVariables false
set_option linter.unusedSimpArgs false
namespace Go.Proofs.YtjaipdenahlheaaGreatDoor
open Go.ChangeShapes Go.WideShapes Go.ChangeAt Go.RowKit

end Go.Proofs.YtjaipdenahlheaaGreatDoor
