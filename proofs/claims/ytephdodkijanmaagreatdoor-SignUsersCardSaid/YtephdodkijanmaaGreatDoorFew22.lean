/-
  The contract of law22's few. Conditions: none.
-/
import Derived.Test.YtephdodkijanmaaGreatDoorRefA
set_option linter.unusedVariables false
set_option linter.unusedSimpArgs false
namespace Go.Proofs.YtephdodkijanmaaGreatDoor
open Go.RowKit Go.ChangeShapes Go.WideShapes Go.Sort
/-- An Ask. -/
structure AskP where
  ses : Int
  user : ByteArray
  svc : ByteArray
  alg : ByteArray
  who : Int
def askV (x : AskP) : Value := .agg #[.int .i64 x.ses, .string x.user, .string x.svc, .string x.alg, .int .i64 x.who]
def fewA (x : AskP) : Bool := decide ((x.user.size : Int) ≤ 100) && (decide ((x.svc.size : Int) ≤ 100) && decide ((x.alg.size : Int) ≤ 100))
theorem few22_any (x : AskP) (w : World) (h1 : x.user.size ≤ 9223372036854775807) (h2 : x.svc.size ≤ 9223372036854775807) (h3 : x.alg.size ≤ 9223372036854775807) :
    Calls Tryz.prog 7 #[askV x] w fun e w' => e = .returned (.bool (fewA x)) ∧ Below w.heap.size w w' := by
  unfold askV fewA
  go_enter Tryz.func7, Tryz.ntmps7
  go_wp2_with fail
  all_goals go_ret
  all_goals refine ⟨?_, by (repeat (first | exact Below.refl _ _ | refine below_drewN ?_ _ | refine Below.drew ?_ | refine Below.alloc ?_ (by first | omega | (simp; done) | (simp; omega)) _ | refine Below.setCell ?_ (by first | omega | (simp; done) | (simp; omega)) _ | refine bel_alloc ?_ _ | refine bel_trans ?_ (by assumption) | refine Below.trans ?_ (Below.mono (by assumption) (by first | omega | (simp; done) | (simp; omega)))))⟩
  all_goals try simp_all
  all_goals try (intros; omega)
end Go.Proofs.YtephdodkijanmaaGreatDoor
