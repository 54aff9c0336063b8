/-
  Two arrays of two numbers, compared. Conditions: none.
-/
import Derived.Test.YtnkkmhlppghajaaBase
namespace Go.Proofs.Ytnkkmhlppghajaa
open Go.RowKit

theorem eqArr2 (a0 a1 b0 b1 : Int) (w : World) : (binOp .eql 22 (.agg #[.int .i64 a0, .int .i64 a1]) (.agg #[.int .i64 b0, .int .i64 b1])).run Try.prog w = .ok (.bool (a0 == b0 && a1 == b1)) w := by
  have u3 := Try.underlying3
  rw [run_eql_struct, show (10000 : Nat) = 9998 + 1 + 1 from rfl]
  rw [Op.equalIn]
  simp only [Sem.run_bind, run_underlying Try.underlying22, Result.andThen_ok]
  go_simp
  have a3 := Try.isAgg3
  rw [show List.range' 0 2 = [0, 1] from rfl]
  simp only [List.forIn_cons, List.forIn_nil]
  by_cases h0 : a0 = b0 <;> by_cases h1 : a1 = b1 <;> (go_simp; try simp [h0, h1]; try go_simp)
  all_goals trace_state
end Go.Proofs.Ytnkkmhlppghajaa
