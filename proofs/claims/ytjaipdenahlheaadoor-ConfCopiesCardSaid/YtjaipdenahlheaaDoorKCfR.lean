/-
  The contract of conf.Init. Conditions: lists of at most 1,000,000 texts.
-/
import Derived.Test.YtjaipdenahlheaaDoorKCfQ
import Derived.Test.YtjaipdenahlheaaDoorKDigits
set_option linter.unusedVariables false
set_option linter.unusedSimpArgs false
namespace Go.Proofs.YtjaipdenahlheaaDoor
open Go.RowKit Go.ChangeShapes Go.WideShapes Go.Sort
@[go_sem] theorem confField3 (v0 v1 v2 v3 v4 v5 v6 v7 v8 v9 v10 v11 v12 v13 v14 v15 v16 v17 v18 v19 v20 v21 v22 : Value) (w : World) : (Instr.field 30 (.agg #[v0, v1, v2, v3, v4, v5, v6, v7, v8, v9, v10, v11, v12, v13, v14, v15, v16, v17, v18, v19, v20, v21, v22]) 3).run Tryd.prog w = .ok (.agg #[v3, v4, v5, v6, v7, v8, v9, v10]) w := by kernel_rfl
end Go.Proofs.YtjaipdenahlheaaDoor
