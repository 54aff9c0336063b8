/-
  The contract of Few at however many makes. Conditions: none.
-/
import Derived.Test.YtmgfcjpifkoahaaGreatDoorKMakesA
set_option linter.unusedVariables false
set_option linter.unusedSimpArgs false
namespace Go.Proofs.YtmgfcjpifkoahaaGreatDoor
open Go.RowKit Go.ChangeShapes Go.WideShapes Go.Sort
theorem few02_open {l : List Mk} {n : Int} (h : fewB l n = true) : (l.length : Int) ≤ n ∧ ∀ x ∈ l, x.s.size ≤ 200 := by
 unfold fewB at h
 simp only [Bool.and_eq_true, decide_eq_true_eq, List.all_eq_true] at h
 exact ⟨h.1, fun x hx => h.2 x hx⟩
section
variable {w : World}
theorem few02_long {A : Option Addr} {c n : Nat} (k : Int) (h : k < (n : Int)) : Calls Tryz.prog 13 #[.slice A n c, .int .i64 k] w (fun e w' => e = .returned (.bool false) ∧ w' = w) := by
 go_enter Tryz.func13, Tryz.ntmps13
 go_wp2
 go_ret
 exact ⟨rfl, rfl⟩
theorem few02_all {B : Nat} {A : Option Addr} {c : Nat} {l : List Mk} (hl : Mks B w A l) (k : Int) (hk : k ≤ 1000000) : Calls Tryz.prog 13 #[.slice A l.length c, .int .i64 k] w (fun e w' => e = .returned (.bool (fewB l k)) ∧ w' = w) := by
 by_cases h : k < (l.length : Int)
 ·rw [fewB_long h]
  exact few02_long k h
 ·exact few_any hl (by omega) k
end
end Go.Proofs.YtmgfcjpifkoahaaGreatDoor
