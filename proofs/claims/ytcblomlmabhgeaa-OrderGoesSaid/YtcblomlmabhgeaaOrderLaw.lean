/-
  The laws of package order: the verdict on any message is the reference's; and what follows from it. Conditions: none.
-/
import Derived.Test.YtcblomlmabhgeaaRef23
namespace Go.Proofs.Ytcblomlmabhgeaa
open Go.RowKit

theorem word_none (n : Int) (h1 : n ≠ 1) (h2 : n ≠ 2) (h3 : n ≠ 3) (h4 : n ≠ 4) (h5 : n ≠ 5) (h6 : n ≠ 6) (h7 : n ≠ 7) (h20 : n ≠ 20) (h21 : n ≠ 21) (h30 : n ≠ 30) (h31 : n ≠ 31) (h32 : n ≠ 32) (h33 : n ≠ 33) (h34 : n ≠ 34) (h50 : n ≠ 50) (h51 : n ≠ 51) (h52 : n ≠ 52) (h53 : n ≠ 53) (h60 : n ≠ 60) : word n = ⟨#[]⟩ := by
  simp [word, letw, *]
theorem known_none (n : Int) (h1 : n ≠ 1) (h2 : n ≠ 2) (h3 : n ≠ 3) (h4 : n ≠ 4) (h5 : n ≠ 5) (h6 : n ≠ 6) (h7 : n ≠ 7) (h20 : n ≠ 20) (h21 : n ≠ 21) (h30 : n ≠ 30) (h31 : n ≠ 31) (h32 : n ≠ 32) (h33 : n ≠ 33) (h34 : n ≠ 34) (h50 : n ≠ 50) (h51 : n ≠ 51) (h52 : n ≠ 52) (h53 : n ≠ 53) (h60 : n ≠ 60) : known n = false := by
  simp [known, forms, *]
theorem judge_eq1 : ∀ (n : Int) (f s : Bool), judge 1 f s n = rjudge 1 f s n := by
  refine num_cases (fun n => ∀ (f s : Bool), judge 1 f s n = rjudge 1 f s n) (by decide +kernel) (by decide +kernel) (by decide +kernel) (by decide +kernel) (by decide +kernel) (by decide +kernel) (by decide +kernel) (by decide +kernel) (by decide +kernel) (by decide +kernel) (by decide +kernel) (by decide +kernel) (by decide +kernel) (by decide +kernel) (by decide +kernel) (by decide +kernel) (by decide +kernel) (by decide +kernel) (by decide +kernel) ?_
  intro n h1 h2 h3 h4 h5 h6 h7 h20 h21 h30 h31 h32 h33 h34 h50 h51 h52 h53 h60 f s
  by_cases hn : n < 0 ∨ 255 < n
  · have h2 : (1 : Int) < 1 ∨ (4 : Int) < 1 ∨ n < 0 ∨ 255 < n := by omega
    rw [judge, if_pos hn, rjudge, if_pos h2]
  · have h2 : ¬ ((1 : Int) < 1 ∨ (4 : Int) < 1 ∨ n < 0 ∨ 255 < n) := by omega
    unfold judge rjudge
    rw [if_neg hn, if_neg h2, if_neg h1]
    rw [if_pos (by decide), if_neg h1, if_pos (by decide)]
    unfold within ofKex chatter
    have h3 : n ∉ [(2 : Int), 3, 4] := by simp; omega
    have h4 : ¬ (2 ≤ n ∧ n ≤ 4) := by omega
    simp only [Bool.and_eq_true, decide_eq_true_eq]
    have h5' : ¬ ((2 ≤ n ∧ n ≤ 4) ∧ f = false) := fun h => h4 h.1
    have h6' : ¬ (n ∈ [(2 : Int), 3, 4] ∧ f = false) := fun h => h3 h.1
    rw [if_neg h5', if_neg h6']
theorem judge_eq2 : ∀ (n : Int) (f s : Bool), judge 2 f s n = rjudge 2 f s n := by
  refine num_cases (fun n => ∀ (f s : Bool), judge 2 f s n = rjudge 2 f s n) (by decide +kernel) (by decide +kernel) (by decide +kernel) (by decide +kernel) (by decide +kernel) (by decide +kernel) (by decide +kernel) (by decide +kernel) (by decide +kernel) (by decide +kernel) (by decide +kernel) (by decide +kernel) (by decide +kernel) (by decide +kernel) (by decide +kernel) (by decide +kernel) (by decide +kernel) (by decide +kernel) (by decide +kernel) ?_
  intro n h1 h2 h3 h4 h5 h6 h7 h20 h21 h30 h31 h32 h33 h34 h50 h51 h52 h53 h60 f s
  by_cases hn : n < 0 ∨ 255 < n
  · have h2 : (2 : Int) < 1 ∨ (4 : Int) < 2 ∨ n < 0 ∨ 255 < n := by omega
    rw [judge, if_pos hn, rjudge, if_pos h2]
  · have h2 : ¬ ((2 : Int) < 1 ∨ (4 : Int) < 2 ∨ n < 0 ∨ 255 < n) := by omega
    unfold judge rjudge
    rw [if_neg hn, if_neg h2, if_neg h1]
    rw [if_pos (by decide), if_neg h1, if_pos (by decide)]
    unfold within ofKex chatter
    have h3 : n ∉ [(2 : Int), 3, 4] := by simp; omega
    have h4 : ¬ (2 ≤ n ∧ n ≤ 4) := by omega
    simp only [Bool.and_eq_true, decide_eq_true_eq]
    have h5' : ¬ ((2 ≤ n ∧ n ≤ 4) ∧ f = false) := fun h => h4 h.1
    have h6' : ¬ (n ∈ [(2 : Int), 3, 4] ∧ f = false) := fun h => h3 h.1
    rw [if_neg h5', if_neg h6']
theorem judge_eq3 : ∀ (n : Int) (f s : Bool), judge 3 f s n = rjudge 3 f s n := by
  refine num_cases (fun n => ∀ (f s : Bool), judge 3 f s n = rjudge 3 f s n) (by decide +kernel) (by decide +kernel) (by decide +kernel) (by decide +kernel) (by decide +kernel) (by decide +kernel) (by decide +kernel) (by decide +kernel) (by decide +kernel) (by decide +kernel) (by decide +kernel) (by decide +kernel) (by decide +kernel) (by decide +kernel) (by decide +kernel) (by decide +kernel) (by decide +kernel) (by decide +kernel) (by decide +kernel) ?_
  intro n h1 h2 h3 h4 h5 h6 h7 h20 h21 h30 h31 h32 h33 h34 h50 h51 h52 h53 h60 f s
  by_cases hn : n < 0 ∨ 255 < n
  · have h2 : (3 : Int) < 1 ∨ (4 : Int) < 3 ∨ n < 0 ∨ 255 < n := by omega
    rw [judge, if_pos hn, rjudge, if_pos h2]
  · have h2 : ¬ ((3 : Int) < 1 ∨ (4 : Int) < 3 ∨ n < 0 ∨ 255 < n) := by omega
    unfold judge rjudge
    rw [if_neg hn, if_neg h2, if_neg h1]
    rw [if_pos (by decide), if_neg h1, if_pos (by decide)]
    unfold within ofKex chatter
    have h3 : n ∉ [(2 : Int), 3, 4] := by simp; omega
    have h4 : ¬ (2 ≤ n ∧ n ≤ 4) := by omega
    simp only [Bool.and_eq_true, decide_eq_true_eq]
    have h5' : ¬ ((2 ≤ n ∧ n ≤ 4) ∧ f = false) := fun h => h4 h.1
    have h6' : ¬ (n ∈ [(2 : Int), 3, 4] ∧ f = false) := fun h => h3 h.1
    rw [if_neg h5', if_neg h6']
theorem judge_eq4 : ∀ (n : Int) (f s : Bool), judge 4 f s n = rjudge 4 f s n := by
  refine num_cases (fun n => ∀ (f s : Bool), judge 4 f s n = rjudge 4 f s n) (by decide +kernel) (by decide +kernel) (by decide +kernel) (by decide +kernel) (by decide +kernel) (by decide +kernel) (by decide +kernel) (by decide +kernel) (by decide +kernel) (by decide +kernel) (by decide +kernel) (by decide +kernel) (by decide +kernel) (by decide +kernel) (by decide +kernel) (by decide +kernel) (by decide +kernel) (by decide +kernel) (by decide +kernel) ?_
  intro n h1 h2 h3 h4 h5 h6 h7 h20 h21 h30 h31 h32 h33 h34 h50 h51 h52 h53 h60 f s
  have hw : ¬ 0 < (word n).size := by rw [word_none n h1 h2 h3 h4 h5 h6 h7 h20 h21 h30 h31 h32 h33 h34 h50 h51 h52 h53 h60]; decide
  have hk := known_none n h1 h2 h3 h4 h5 h6 h7 h20 h21 h30 h31 h32 h33 h34 h50 h51 h52 h53 h60
  by_cases hn : n < 0 ∨ 255 < n
  · have h2 : (4 : Int) < 1 ∨ (4 : Int) < 4 ∨ n < 0 ∨ 255 < n := by omega
    rw [judge, if_pos hn, rjudge, if_pos h2]
  · have h2 : ¬ ((4 : Int) < 1 ∨ (4 : Int) < 4 ∨ n < 0 ∨ 255 < n) := by omega
    unfold judge rjudge
    have g1 : ¬ ((4 : Int) = 1 ∨ (4 : Int) = 2 ∨ (4 : Int) = 3) := by decide
    have g2 : ¬ (4 : Int) < 4 := by decide
    rw [if_neg hn, if_neg h2]
    simp only [h1, if_false, g1, if_true, g2]
    have h3 : ¬ (n ∈ [(2 : Int), 3, 4] ∨ n = 7 ∧ s = true) := by simp; omega
    have h5 : n ∉ (if s then [(20 : Int), 5, 50] else [20, 6, 7, 51, 52, 53, 60]) := by cases s <;> simp <;> omega
    rw [if_neg h3, if_neg h5]
    unfold oopen ofKex
    rw [if_neg h20, if_neg (by omega : ¬ (n = 2 ∨ n = 3 ∨ n = 4)), if_neg (by omega : ¬ (n = 5 ∨ n = 50)), if_neg h7, if_neg (by omega : ¬ (n = 6 ∨ n = 51 ∨ n = 52 ∨ n = 53 ∨ n = 60)), hk]
    simp only [Bool.and_eq_true, decide_eq_true_eq, Bool.false_eq_true, false_or]
    by_cases h6 : 30 ≤ n ∧ n ≤ 49
    · rw [if_pos h6, if_pos (Or.inr h6)]
    · rw [if_neg h6, if_neg (fun h => h.elim hw h6)]
theorem judge_eq (p n : Int) (f s : Bool) : judge p f s n = rjudge p f s n := by
  by_cases hp : p < 1 ∨ 4 < p
  · rw [judge, rjudge, if_pos (by omega : p < 1 ∨ 4 < p ∨ n < 0 ∨ 255 < n)]
    split
    · rfl
    · rw [if_neg (by omega : ¬ (p = 1 ∨ p = 2 ∨ p = 3)), if_neg (by omega : ¬ p = 4)]
  · rcases (by omega : p = 1 ∨ p = 2 ∨ p = 3 ∨ p = 4) with rfl | rfl | rfl | rfl
    · exact judge_eq1 n f s
    · exact judge_eq2 n f s
    · exact judge_eq3 n f s
    · exact judge_eq4 n f s
end Go.Proofs.Ytcblomlmabhgeaa
