/-
  Several of my texts in one: Whole, RefH.
-/
import Derived.Test.YtephdodkijanmaaGreatDoorRefA
import Derived.Test.YtephdodkijanmaaGreatDoorPureA
import Derived.Test.YtephdodkijanmaaGreatDoorShelf
set_option linter.unusedVariables false
set_option linter.unusedSimpArgs false
/-
  Whole numbers as texts: wire's and the reference's. Conditions: at most a million bytes.
-/
namespace Go.Proofs.YtephdodkijanmaaGreatDoor
open Go.RowKit Go.ChangeShapes Go.WideShapes
section
variable {w : World}
theorem isE_cons (c : UInt8) (r : List UInt8) : (bs (c :: r)).toList.isEmpty = false := by
  rw [bs_toList]
  rfl
theorem plain_cut {s : ByteArray} (hz : 0 < s.size) (h : s[0].toNat = 0) : plainL (s.extract 1 s.size).data.toList = plainL s.data.toList := by
  have h0 : s.data.toList = s[0] :: s.data.toList.drop 1 := by
    exact drop_cons (s := s.data.toList) (p := 0) hz
  have hs : s[0] = 0 := UInt8.toNat_inj.1 h
  rw [Lib.extract_data, List.take_of_length_le (by rw [List.length_drop]; exact Nat.le_refl _)]
  conv => rhs; rw [h0, hs]
  rfl
theorem plain_end {s : ByteArray} (hz : 0 < s.size) (h : s[0].toNat ≠ 0) : plainL s.data.toList = s.data.toList := by
  refine plainL_id ?_
  have h0 : s.data.toList = s[0] :: s.data.toList.drop 1 := by
    exact drop_cons (s := s.data.toList) (p := 0) hz
  rw [h0]
  show (s[0] == 0) = false
  rw [beq_eq_false_iff_ne]
  intro e
  rw [e] at h
  exact h rfl
theorem size_cut (s : ByteArray) (hz : 0 < s.size) : (s.extract 1 s.size).size = s.size - 1 := by
  show (s.extract 1 s.size).data.toList.length = _
  rw [Lib.extract_data, List.take_of_length_le (by rw [List.length_drop]; exact Nat.le_refl _), List.length_drop]
  rfl
def strSz (v : Value) : Nat := match v with
  | .string s => s.size
  | _ => 0
end
end Go.Proofs.YtephdodkijanmaaGreatDoor

/-
  The reference's whole numbers as texts. Conditions: at most a million bytes.
-/
namespace Go.Proofs.YtephdodkijanmaaGreatDoor
open Go.RowKit Go.ChangeShapes Go.WideShapes
section
variable {w : World}
end
end Go.Proofs.YtephdodkijanmaaGreatDoor
