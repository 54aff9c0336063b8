/-
  The contracts of package schema's functions: what each returns. Conditions: none.
-/
import Derived.Test.YtdhopoafpddjpaaDoorBase
set_option linter.unusedVariables false
set_option linter.unusedSimpArgs false
namespace Go.Proofs.YtdhopoafpddjpaaDoor
open Go.RowKit

/-- The forms of a number. -/
def forms (n : Int) : List ByteArray :=
  if n = 1 then [⟨#[117, 115, 115]⟩] else if n = 2 then [⟨#[115]⟩] else if n = 5 then [⟨#[115]⟩] else if n = 6 then [⟨#[115]⟩]
  else if n = 3 then [⟨#[117]⟩] else if n = 4 then [⟨#[98, 115, 115]⟩] else if n = 7 then [⟨#[101]⟩]
  else if n = 20 then [⟨#[99, 110, 110, 110, 110, 110, 110, 110, 110, 110, 110, 98, 117]⟩] else if n = 21 then [⟨#[]⟩] else if n = 52 then [⟨#[]⟩]
  else if n = 30 then [⟨#[116]⟩] else if n = 32 then [⟨#[116]⟩] else if n = 31 then [⟨#[116, 116, 116]⟩, ⟨#[109, 109]⟩]
  else if n = 33 then [⟨#[116, 116, 116]⟩] else if n = 34 then [⟨#[117, 117, 117]⟩]
  else if n = 50 then [⟨#[115, 115, 115]⟩, ⟨#[115, 115, 115, 98, 115, 116]⟩, ⟨#[115, 115, 115, 98, 115, 116, 116]⟩]
  else if n = 51 then [⟨#[110, 98]⟩] else if n = 53 then [⟨#[115, 115]⟩] else if n = 60 then [⟨#[115, 116]⟩] else []

theorem forms_len (n : Int) : (forms n).length ≤ 3 := by
  unfold forms
  repeat' refine ite_ok (P := fun l : List ByteArray => l.length ≤ 3) ?_ ?_
  all_goals decide
set_option maxHeartbeats 4000000 in
theorem forms_any (n : Int) (w : World) :
    Calls Tryd.prog 39 #[.int .i64 n] w fun e w' => ∃ v, e = .returned v ∧ Strs w.heap.size w' v (forms n) ∧ Below w.heap.size w w' := by
  by_cases h1 : n = 1
  · subst h1
    go_enter Tryd.func39, Tryd.ntmps39
    go_wp2
    go_ret
    exact ⟨_, rfl, strs_new w 9 (forms 1) _ rfl, (Below.refl _ _).alloc (Nat.le_refl _) _⟩
  by_cases h2 : n = 2
  · subst h2
    go_enter Tryd.func39, Tryd.ntmps39
    go_wp2
    go_ret
    exact ⟨_, rfl, strs_new w 9 (forms 2) _ rfl, (Below.refl _ _).alloc (Nat.le_refl _) _⟩
  by_cases h5 : n = 5
  · subst h5
    go_enter Tryd.func39, Tryd.ntmps39
    go_wp2
    go_ret
    exact ⟨_, rfl, strs_new w 9 (forms 5) _ rfl, (Below.refl _ _).alloc (Nat.le_refl _) _⟩
  by_cases h6 : n = 6
  · subst h6
    go_enter Tryd.func39, Tryd.ntmps39
    go_wp2
    go_ret
    exact ⟨_, rfl, strs_new w 9 (forms 6) _ rfl, (Below.refl _ _).alloc (Nat.le_refl _) _⟩
  by_cases h3 : n = 3
  · subst h3
    go_enter Tryd.func39, Tryd.ntmps39
    go_wp2
    go_ret
    exact ⟨_, rfl, strs_new w 9 (forms 3) _ rfl, (Below.refl _ _).alloc (Nat.le_refl _) _⟩
  by_cases h4 : n = 4
  · subst h4
    go_enter Tryd.func39, Tryd.ntmps39
    go_wp2
    go_ret
    exact ⟨_, rfl, strs_new w 9 (forms 4) _ rfl, (Below.refl _ _).alloc (Nat.le_refl _) _⟩
  by_cases h7 : n = 7
  · subst h7
    go_enter Tryd.func39, Tryd.ntmps39
    go_wp2
    go_ret
    exact ⟨_, rfl, strs_new w 9 (forms 7) _ rfl, (Below.refl _ _).alloc (Nat.le_refl _) _⟩
  by_cases h20 : n = 20
  · subst h20
    go_enter Tryd.func39, Tryd.ntmps39
    go_wp2
    go_ret
    exact ⟨_, rfl, strs_new w 9 (forms 20) _ rfl, (Below.refl _ _).alloc (Nat.le_refl _) _⟩
  by_cases h21 : n = 21
  · subst h21
    go_enter Tryd.func39, Tryd.ntmps39
    go_wp2
    go_ret
    exact ⟨_, rfl, strs_new w 9 (forms 21) _ rfl, (Below.refl _ _).alloc (Nat.le_refl _) _⟩
  by_cases h52 : n = 52
  · subst h52
    go_enter Tryd.func39, Tryd.ntmps39
    go_wp2
    go_ret
    exact ⟨_, rfl, strs_new w 9 (forms 52) _ rfl, (Below.refl _ _).alloc (Nat.le_refl _) _⟩
  by_cases h30 : n = 30
  · subst h30
    go_enter Tryd.func39, Tryd.ntmps39
    go_wp2
    go_ret
    exact ⟨_, rfl, strs_new w 9 (forms 30) _ rfl, (Below.refl _ _).alloc (Nat.le_refl _) _⟩
  by_cases h32 : n = 32
  · subst h32
    go_enter Tryd.func39, Tryd.ntmps39
    go_wp2
    go_ret
    exact ⟨_, rfl, strs_new w 9 (forms 32) _ rfl, (Below.refl _ _).alloc (Nat.le_refl _) _⟩
  by_cases h31 : n = 31
  · subst h31
    go_enter Tryd.func39, Tryd.ntmps39
    go_wp2
    go_ret
    exact ⟨_, rfl, strs_new w 9 (forms 31) _ rfl, (Below.refl _ _).alloc (Nat.le_refl _) _⟩
  by_cases h33 : n = 33
  · subst h33
    go_enter Tryd.func39, Tryd.ntmps39
    go_wp2
    go_ret
    exact ⟨_, rfl, strs_new w 9 (forms 33) _ rfl, (Below.refl _ _).alloc (Nat.le_refl _) _⟩
  by_cases h34 : n = 34
  · subst h34
    go_enter Tryd.func39, Tryd.ntmps39
    go_wp2
    go_ret
    exact ⟨_, rfl, strs_new w 9 (forms 34) _ rfl, (Below.refl _ _).alloc (Nat.le_refl _) _⟩
  by_cases h50 : n = 50
  · subst h50
    go_enter Tryd.func39, Tryd.ntmps39
    go_wp2
    go_ret
    exact ⟨_, rfl, strs_new w 9 (forms 50) _ rfl, (Below.refl _ _).alloc (Nat.le_refl _) _⟩
  by_cases h51 : n = 51
  · subst h51
    go_enter Tryd.func39, Tryd.ntmps39
    go_wp2
    go_ret
    exact ⟨_, rfl, strs_new w 9 (forms 51) _ rfl, (Below.refl _ _).alloc (Nat.le_refl _) _⟩
  by_cases h53 : n = 53
  · subst h53
    go_enter Tryd.func39, Tryd.ntmps39
    go_wp2
    go_ret
    exact ⟨_, rfl, strs_new w 9 (forms 53) _ rfl, (Below.refl _ _).alloc (Nat.le_refl _) _⟩
  by_cases h60 : n = 60
  · subst h60
    go_enter Tryd.func39, Tryd.ntmps39
    go_wp2
    go_ret
    exact ⟨_, rfl, strs_new w 9 (forms 60) _ rfl, (Below.refl _ _).alloc (Nat.le_refl _) _⟩
  go_enter Tryd.func39, Tryd.ntmps39
  go_wp2
  go_ret
  refine ⟨_, rfl, ?_, Below.refl _ _⟩
  rw [forms]
  simp only [*, if_false]
  exact ⟨none, 0, rfl, Sl.nil_⟩
end Go.Proofs.YtdhopoafpddjpaaDoor
