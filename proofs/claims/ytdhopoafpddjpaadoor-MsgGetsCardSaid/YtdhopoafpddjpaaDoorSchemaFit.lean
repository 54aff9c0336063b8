/-
  The contract of schema.Fit. Conditions: the count is an int.
-/
import Derived.Test.YtdhopoafpddjpaaDoorSchema
set_option linter.unusedVariables false
set_option linter.unusedSimpArgs false
namespace Go.Proofs.YtdhopoafpddjpaaDoor
open Go.RowKit

def fit (n m : Int) : ByteArray × Bool := match (forms n).find? (fun s => (s.size : Int) == m) with | some s => (s, true) | none => (⟨#[]⟩, false)
set_option maxHeartbeats 400000 in
theorem fit_any (n m : Int) (w : World) :
    Calls Tryd.prog 16 #[.int .i64 n, .int .i64 m] w fun e w' => e = .returned (.tuple #[.string (fit n m).1, .bool (fit n m).2]) ∧ Below w.heap.size w w' := by
  have hl := forms_len n
  go_enter Tryd.func16, Tryd.ntmps16
  go_wp2_with (go_at_call 39; refine (forms_any _ _).mono ?_; rintro e w1 ⟨v, rfl, ⟨A, c, rfl, hr⟩, hb⟩)
  go_loop [11] (fun i => ∃ k : Nat, k ≤ (forms n).length ∧ i = .int .i64 k ∧ ∀ j s, j < k → (forms n)[j]? = some s → (s.size : Int) ≠ m) (fun i => (forms n).length - (intOf i).toNat)
  case atStart => exact ⟨0, Nat.zero_le _, rfl, by simp⟩
  case round =>
    obtain ⟨k, hk, rfl, hno⟩ := hrel
    by_cases hlt : k < (forms n).length
    · obtain ⟨ad, hA, _, hc⟩ := hr.str hlt
      generalize hs : (forms n)[k] = s at hc
      have hs' : (forms n)[k]? = some s := by rw [List.getElem?_eq_getElem hlt, hs]
      by_cases hm : (s.size : Int) = m
      · have hf : fit n m = (s, true) := by
          have : (forms n).find? (fun s => (s.size : Int) == m) = some s := by
            rw [List.find?_eq_some_iff_getElem]
            exact ⟨by simpa using hm, k, hlt, hs, fun j hj => by simpa using hno j _ hj (List.getElem?_eq_getElem (by omega))⟩
          simp [fit, this]
        have Hf := hide hf
        clear hf hs hs' hno
        go_wp2
        go_ret2
        exact ⟨by rw [Hf.out]; rfl, hb⟩
      · have hno' : ∀ j s, j < k + 1 → (forms n)[j]? = some s → (s.size : Int) ≠ m := by
          intro j s' hj hs2
          by_cases hjk : j = k
          · subst hjk
            rw [hs'] at hs2
            cases hs2
            exact hm
          · exact hno j s' (by omega) hs2
        have Hno := hide hno'
        clear hs hs' hno hno'
        go_wp2
        go_round
        case rel => exact ⟨k + 1, hlt, by go_num, Hno.out⟩
        case measure => simp [intOf]; omega
    · have hf : fit n m = (⟨#[]⟩, false) := by
        have : (forms n).find? (fun s => (s.size : Int) == m) = none := by
          rw [List.find?_eq_none]
          intro s hs
          obtain ⟨j, hj, rfl⟩ := List.getElem_of_mem hs
          simpa using hno j _ (by omega) (List.getElem?_eq_getElem hj)
        simp [fit, this]
      have Hf := hide hf
      clear hf hno
      go_wp2
      go_ret2
      exact ⟨by rw [Hf.out]; rfl, hb⟩
theorem forms_apart (n : Int) : ((forms n).map ByteArray.size).Nodup := by
  unfold forms
  repeat' refine ite_ok (P := fun l : List ByteArray => (l.map ByteArray.size).Nodup) ?_ ?_
  all_goals decide
theorem forms_ne (n : Int) {i j : Nat} (hij : i < j) (hj : j < (forms n).length) : ((forms n)[i].size : Int) ≠ (forms n)[j].size := by
  have h := List.pairwise_iff_getElem.1 (forms_apart n) i j (by simp; omega) (by simpa using hj) hij
  simp only [List.getElem_map] at h
  omega
theorem fit_own (n : Int) {i : Nat} (hi : i < (forms n).length) : fit n ((forms n)[i].size : Int) = ((forms n)[i], true) := by
  have : (forms n).find? (fun s => (s.size : Int) == ((forms n)[i].size : Int)) = some (forms n)[i] := by
    rw [List.find?_eq_some_iff_getElem]
    exact ⟨by simp, i, hi, rfl, fun j hj => by simpa using forms_ne n hj hi⟩
  simp [fit, this]
end Go.Proofs.YtdhopoafpddjpaaDoor
