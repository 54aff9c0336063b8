/-
  The last step of a law at a tied card: from what is listed to the library's table. Conditions: none.
-/
import Derived.Test.YtmgfcjpifkoahaaGreatDoorKMsgG
import Derived.Test.YtmgfcjpifkoahaaGreatDoorKMakeA
import Derived.Test.YtmgfcjpifkoahaaGreatDoorCards
import Derived.Test.YtmgfcjpifkoahaaGreatDoorTie
import Derived.Lib.LaidTab
import Derived.Stop.LaidErr
import Derived.Lay
import Derived.SevenTiedAt
import Derived.LaidHandle
import Derived.MakeChecks
set_option linter.unusedVariables false
set_option linter.unusedSimpArgs false
namespace Go.Proofs.YtmgfcjpifkoahaaGreatDoor
open Go.ChangeShapes Go.WideShapes Go.ChangeAt Go.RowKit

theorem pow10_data : (Rows.laid_internal_strconv_uint64pow10 : DataW Unit) = Lib.tabData .u64 Lib.pow10Tab := by kernel_rfl
theorem tab_of_laid {a b : String × DataW Unit} {l : List (String × DataW Unit)} {W : World} (h : laidMet Tryz.prog (a :: b :: ("internal/strconv.uint64pow10", Rows.laid_internal_strconv_uint64pow10) :: l) W) : Tab W := by
 have h := laidMet.tail (laidMet.tail h)
 rw [pow10_data] at h
 exact Lib.tabIs_of_head (g := 1) (by kernel_rfl) (by kernel_rfl) Tryz.underlying247 Tryz.underlying224 (by kernel_rfl) (by kernel_rfl) h
end Go.Proofs.YtmgfcjpifkoahaaGreatDoor
