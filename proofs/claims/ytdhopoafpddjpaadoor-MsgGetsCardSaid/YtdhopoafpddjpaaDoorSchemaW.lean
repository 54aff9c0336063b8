/-
  The contracts of the other functions of package schema: Known, Word, Num, Class. Conditions: none.
-/
import Derived.Test.YtdhopoafpddjpaaDoorSchemaFit
set_option linter.unusedVariables false
set_option linter.unusedSimpArgs false
namespace Go.Proofs.YtdhopoafpddjpaaDoor
open Go.RowKit

def letw (n : Int) : ByteArray :=
  if n = 50 then ⟨#[117, 115, 101, 114, 97, 117, 116, 104, 45, 114, 101, 113, 117, 101, 115, 116]⟩ else if n = 51 then ⟨#[117, 115, 101, 114, 97, 117, 116, 104, 45, 102, 97, 105, 108, 117, 114, 101]⟩ else if n = 52 then ⟨#[117, 115, 101, 114, 97, 117, 116, 104, 45, 115, 117, 99, 99, 101, 115, 115]⟩ else if n = 53 then ⟨#[117, 115, 101, 114, 97, 117, 116, 104, 45, 98, 97, 110, 110, 101, 114]⟩ else if n = 60 then ⟨#[117, 115, 101, 114, 97, 117, 116, 104, 45, 112, 107, 45, 111, 107]⟩ else ⟨#[]⟩
def word (n : Int) : ByteArray :=
  if n = 1 then ⟨#[100, 105, 115, 99, 111, 110, 110, 101, 99, 116]⟩ else if n = 2 then ⟨#[105, 103, 110, 111, 114, 101]⟩ else if n = 3 then ⟨#[117, 110, 105, 109, 112, 108, 101, 109, 101, 110, 116, 101, 100]⟩ else if n = 4 then ⟨#[100, 101, 98, 117, 103]⟩ else if n = 5 then ⟨#[115, 101, 114, 118, 105, 99, 101, 45, 114, 101, 113, 117, 101, 115, 116]⟩ else if n = 6 then ⟨#[115, 101, 114, 118, 105, 99, 101, 45, 97, 99, 99, 101, 112, 116]⟩ else if n = 7 then ⟨#[101, 120, 116, 45, 105, 110, 102, 111]⟩ else if n = 20 then ⟨#[107, 101, 120, 105, 110, 105, 116]⟩ else if n = 21 then ⟨#[110, 101, 119, 107, 101, 121, 115]⟩ else if n = 30 then ⟨#[101, 99, 100, 104, 45, 105, 110, 105, 116]⟩ else if n = 31 then ⟨#[114, 101, 112, 108, 121, 45, 111, 114, 45, 103, 114, 111, 117, 112]⟩ else if n = 32 then ⟨#[103, 101, 120, 45, 105, 110, 105, 116]⟩ else if n = 33 then ⟨#[103, 101, 120, 45, 114, 101, 112, 108, 121]⟩ else if n = 34 then ⟨#[103, 101, 120, 45, 114, 101, 113, 117, 101, 115, 116]⟩ else letw n
set_option maxHeartbeats 400000 in
theorem letw_any (n : Int) (w : World) : Calls Tryd.prog 40 #[.int .i64 n] w fun e w' => e = .returned (.string (letw n)) ∧ w = w' := by
  go_enter Tryd.func40, Tryd.ntmps40
  go_wp2
  all_goals (go_ret; refine ⟨?_, rfl⟩; simp_all [letw])
set_option maxHeartbeats 1000000 in
theorem word_any (n : Int) (w : World) : Calls Tryd.prog 20 #[.int .i64 n] w fun e w' => e = .returned (.string (word n)) ∧ w = w' := by
  go_enter Tryd.func20, Tryd.ntmps20
  go_wp2_with (go_at_call 40; refine (letw_any _ _).mono ?_; rintro e w' ⟨rfl, rfl⟩)
  all_goals (go_ret; refine ⟨?_, rfl⟩; simp_all [word])
def known (n : Int) : Bool := !(forms n).isEmpty
def cls (n : Int) : Int := if n < 1 ∨ 255 < n then 0 else if n < 20 then 1 else if n < 30 then 2 else if n < 50 then 3 else if n < 80 then 4 else 5
def num (s : ByteArray) : Int × Bool := match ((List.range 60).map (fun i => ((i + 1 : Nat) : Int))).find? (fun n => word n != ⟨#[]⟩ && word n == s) with | some n => (n, true) | none => (0, false)
end Go.Proofs.YtdhopoafpddjpaaDoor
