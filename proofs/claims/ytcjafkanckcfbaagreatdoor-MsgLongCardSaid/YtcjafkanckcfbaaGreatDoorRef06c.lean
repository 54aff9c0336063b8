/-
  The rest of the reference for package schema: Fit, Class; and how it stands to the program's. Conditions: none.
-/
import Derived.Test.YtcjafkanckcfbaaGreatDoorRef06b
import Derived.Test.YtcjafkanckcfbaaGreatDoorBase2
set_option linter.unusedVariables false
set_option linter.unusedSimpArgs false
namespace Go.Proofs.YtcjafkanckcfbaaGreatDoor
open Go.RowKit

theorem num_cases (P : Int → Prop) (h1 : P 1) (h2 : P 2) (h3 : P 3) (h4 : P 4) (h5 : P 5) (h6 : P 6) (h7 : P 7) (h20 : P 20) (h21 : P 21) (h30 : P 30) (h31 : P 31) (h32 : P 32) (h33 : P 33) (h34 : P 34) (h50 : P 50) (h51 : P 51) (h52 : P 52) (h53 : P 53) (h60 : P 60) (ho : ∀ n, n ≠ 1 → n ≠ 2 → n ≠ 3 → n ≠ 4 → n ≠ 5 → n ≠ 6 → n ≠ 7 → n ≠ 20 → n ≠ 21 → n ≠ 30 → n ≠ 31 → n ≠ 32 → n ≠ 33 → n ≠ 34 → n ≠ 50 → n ≠ 51 → n ≠ 52 → n ≠ 53 → n ≠ 60 → P n) (n : Int) : P n := by
  by_cases c1 : n = 1
  · subst c1; exact h1
  by_cases c2 : n = 2
  · subst c2; exact h2
  by_cases c3 : n = 3
  · subst c3; exact h3
  by_cases c4 : n = 4
  · subst c4; exact h4
  by_cases c5 : n = 5
  · subst c5; exact h5
  by_cases c6 : n = 6
  · subst c6; exact h6
  by_cases c7 : n = 7
  · subst c7; exact h7
  by_cases c20 : n = 20
  · subst c20; exact h20
  by_cases c21 : n = 21
  · subst c21; exact h21
  by_cases c30 : n = 30
  · subst c30; exact h30
  by_cases c31 : n = 31
  · subst c31; exact h31
  by_cases c32 : n = 32
  · subst c32; exact h32
  by_cases c33 : n = 33
  · subst c33; exact h33
  by_cases c34 : n = 34
  · subst c34; exact h34
  by_cases c50 : n = 50
  · subst c50; exact h50
  by_cases c51 : n = 51
  · subst c51; exact h51
  by_cases c52 : n = 52
  · subst c52; exact h52
  by_cases c53 : n = 53
  · subst c53; exact h53
  by_cases c60 : n = 60
  · subst c60; exact h60
  exact ho n c1 c2 c3 c4 c5 c6 c7 c20 c21 c30 c31 c32 c33 c34 c50 c51 c52 c53 c60
theorem rowOf_forms : ∀ n, (rowOf n).2.2 = forms n := by
  refine num_cases _ (by decide +kernel) (by decide +kernel) (by decide +kernel) (by decide +kernel) (by decide +kernel) (by decide +kernel) (by decide +kernel) (by decide +kernel) (by decide +kernel) (by decide +kernel) (by decide +kernel) (by decide +kernel) (by decide +kernel) (by decide +kernel) (by decide +kernel) (by decide +kernel) (by decide +kernel) (by decide +kernel) (by decide +kernel) ?_
  intro n h1 h2 h3 h4 h5 h6 h7 h20 h21 h30 h31 h32 h33 h34 h50 h51 h52 h53 h60
  have h : table.find? (fun r => r.1 == n) = none := by
    simp [table]
    omega
  unfold rowOf
  rw [h]
  simp [forms, *]
theorem rowOf_word : ∀ n, (rowOf n).2.1 = word n := by
  refine num_cases _ (by decide +kernel) (by decide +kernel) (by decide +kernel) (by decide +kernel) (by decide +kernel) (by decide +kernel) (by decide +kernel) (by decide +kernel) (by decide +kernel) (by decide +kernel) (by decide +kernel) (by decide +kernel) (by decide +kernel) (by decide +kernel) (by decide +kernel) (by decide +kernel) (by decide +kernel) (by decide +kernel) (by decide +kernel) ?_
  intro n h1 h2 h3 h4 h5 h6 h7 h20 h21 h30 h31 h32 h33 h34 h50 h51 h52 h53 h60
  have h : table.find? (fun r => r.1 == n) = none := by
    simp [table]
    omega
  unfold rowOf
  rw [h]
  simp [word, letw, *]
theorem known_word : ∀ n, known n = decide (0 < (word n).size) := by
  refine num_cases _ (by decide +kernel) (by decide +kernel) (by decide +kernel) (by decide +kernel) (by decide +kernel) (by decide +kernel) (by decide +kernel) (by decide +kernel) (by decide +kernel) (by decide +kernel) (by decide +kernel) (by decide +kernel) (by decide +kernel) (by decide +kernel) (by decide +kernel) (by decide +kernel) (by decide +kernel) (by decide +kernel) (by decide +kernel) ?_
  intro n h1 h2 h3 h4 h5 h6 h7 h20 h21 h30 h31 h32 h33 h34 h50 h51 h52 h53 h60
  simp [known, word, letw, forms, *]
  rfl
@[go_sem] theorem row_field1 (a b c : Value) (w : World) : (Instr.field 72 (.agg #[a, b, c]) 1).run Tryz.prog w = .ok b w := by kernel_rfl
@[go_sem] theorem row_field2 (a b c : Value) (w : World) : (Instr.field 72 (.agg #[a, b, c]) 2).run Tryz.prog w = .ok c w := by kernel_rfl
set_option maxHeartbeats 400000 in
theorem rfit_any (n m : Int) (w : World) :
    Calls Tryz.prog 31 #[.int .i64 n, .int .i64 m] w fun e w' => e = .returned (.tuple #[.string (fit n m).1, .bool (fit n m).2]) ∧ Below w.heap.size w w' := by
  have hl := forms_len n
  have Hr := hide (rowOf_forms n)
  go_enter Tryz.func31, Tryz.ntmps31
  go_wp2_with fail
  refine (of_any _ _).mono ?_
  rw [Hr.out]
  rintro e w1 ⟨v, rfl, ⟨A, c, rfl, hr⟩, hb⟩
  go_wp2
  go_loop [7] (fun i => ∃ k : Nat, k ≤ (forms n).length ∧ i = .int .i64 k ∧ ∀ j s, j < k → (forms n)[j]? = some s → (s.size : Int) ≠ m) (fun i => (forms n).length - (intOf i).toNat)
  case atStart => exact ⟨0, Nat.zero_le _, rfl, by simp⟩
  case round =>
    obtain ⟨k, hk, rfl, hno⟩ := hrel
    by_cases hlt : k < (forms n).length
    · obtain ⟨ad, rfl, _, hc⟩ := hr.str hlt
      generalize hs : (forms n)[k] = s at hc
      have hs' : (forms n)[k]? = some s := by rw [List.getElem?_eq_getElem hlt, hs]
      by_cases hm : (s.size : Int) = m
      · have hf : fit n m = (s, true) := by
          have : (forms n).find? (fun s => (s.size : Int) == m) = some s := by
            rw [List.find?_eq_some_iff_getElem]
            exact ⟨by simpa using hm, k, hlt, hs, fun j hj => by simpa using hno j _ hj (List.getElem?_eq_getElem (by omega))⟩
          simp [fit, this]
        have Hf := hide hf
        clear hf hs hs' hno
        go_wp2
        go_ret2
        exact ⟨by rw [Hf.out]; rfl, hb⟩
      · have hno' : ∀ j s, j < k + 1 → (forms n)[j]? = some s → (s.size : Int) ≠ m := by
          intro j s' hj hs2
          by_cases hjk : j = k
          · subst hjk
            rw [hs'] at hs2
            cases hs2
            exact hm
          · exact hno j s' (by omega) hs2
        have Hno := hide hno'
        clear hs hs' hno hno'
        go_wp2
        go_round
        case rel => exact ⟨k + 1, hlt, by go_num, Hno.out⟩
        case measure => simp [intOf]; omega
    · have hf : fit n m = (⟨#[]⟩, false) := by
        have : (forms n).find? (fun s => (s.size : Int) == m) = none := by
          rw [List.find?_eq_none]
          intro s hs
          obtain ⟨j, hj, rfl⟩ := List.getElem_of_mem hs
          simpa using hno j _ (by omega) (List.getElem?_eq_getElem hj)
        simp [fit, this]
      have Hf := hide hf
      clear hf hno
      go_wp2
      go_ret2
      exact ⟨by rw [Hf.out]; rfl, hb⟩
end Go.Proofs.YtcjafkanckcfbaaGreatDoor
