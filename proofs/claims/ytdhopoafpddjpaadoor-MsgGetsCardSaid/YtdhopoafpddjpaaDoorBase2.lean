/-
  More small lemmas for the walks: equality of strings as the walk spells it. Conditions: none.
-/
import Derived.Test.YtdhopoafpddjpaaDoorBase
import Derived.Lib.Strings
set_option linter.unusedVariables false
set_option linter.unusedSimpArgs false
namespace Go.Proofs.YtdhopoafpddjpaaDoor
open Go.RowKit

theorem bytes_ext {a b : ByteArray} (h : a.toList = b.toList) : a = b := by
  rw [ByteArray.toList_eq, ByteArray.toList_eq] at h
  rw [← Lib.mk_data a, ← Lib.mk_data b, h]
theorem bytes_ne {a b : ByteArray} (h : a ≠ b) : (a.toList == b.toList) = false := by
  rw [beq_eq_false_iff_ne]
  exact fun e => h (bytes_ext e)
theorem bytes_eq {a b : ByteArray} (h : a = b) : (a.toList == b.toList) = true := by rw [h]; simp
theorem bytes_of {a b : ByteArray} (h : (a.toList == b.toList) = true) : a = b := bytes_ext (by simpa using h)
theorem bytes_nof {a b : ByteArray} (h : (a.toList == b.toList) = false) : a ≠ b := by
  rintro rfl
  simp at h
theorem bytes_dec (a b : ByteArray) : (a.toList == b.toList) = decide (a = b) := by
  by_cases h : a = b
  · rw [bytes_eq h]; simp [h]
  · rw [bytes_ne h]; simp [h]

theorem toList_nil : (⟨#[]⟩ : ByteArray).toList = [] := ByteArray.toList_eq _
theorem bytes_some {a : ByteArray} (h : a ≠ ⟨#[]⟩) : a.toList.isEmpty = false := by
  have := bytes_ne h
  rw [Bool.eq_false_iff]
  intro e
  rw [List.isEmpty_iff] at e
  exact h (bytes_ext (by rw [e, toList_nil]))
theorem bytes_isE {a : ByteArray} (h : a.toList.isEmpty = true) : a = ⟨#[]⟩ := by
  rw [List.isEmpty_iff] at h
  exact bytes_ext (by rw [h, toList_nil])
theorem bytes_isS {a : ByteArray} (h : a.toList.isEmpty = false) : a ≠ ⟨#[]⟩ := by
  rintro rfl
  rw [toList_nil] at h
  cases h
theorem bel_trans {a b c : World} (h : Below a.heap.size a b) (k : Below b.heap.size b c) : Below a.heap.size a c := h.trans (k.mono h.size)
end Go.Proofs.YtdhopoafpddjpaaDoor
