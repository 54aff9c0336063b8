/-
  The contract of the reference's Init of a conf; steps for blocks of any type. Conditions: none.
-/
import Derived.Test.YtjaipdenahlheaaDoorKCfR
set_option linter.unusedVariables false
set_option linter.unusedSimpArgs false
namespace Go.Proofs.YtjaipdenahlheaaDoor
open Go.RowKit Go.ChangeShapes Go.WideShapes Go.Sort
theorem infoP8 : (Tryd.prog.info? 24).map (·.size) = some 8 := by kernel_rfl
end Go.Proofs.YtjaipdenahlheaaDoor
