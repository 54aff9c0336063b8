/-
  The contract of code's Decode. Conditions: at most MaxTerm bytes.
-/
import Derived.Test.YtephdodkijanmaaGreatDoorRdrH
set_option linter.unusedVariables false
set_option linter.unusedSimpArgs false
namespace Go.Proofs.YtephdodkijanmaaGreatDoor
open Go.RowKit Go.ChangeShapes Go.WideShapes Go.Sort
/-- What Decode answers: the term whose bytes these are, or an error's number. -/
def DecP (B : Nat) (w : World) (g : Nat) (s : ByteArray) (T : List Tm) (S : Nat → Prop) (e : Ending) (w' : World) : Prop :=
  ∃ T' S' n k o, e = .returned (.tuple #[.int .i64 n, .int .i64 k]) ∧ Idn T' o n ∧ ((∃ t, o = some t ∧ good t ∧ s.data.toList = enc t ∧ k = 0) ∨ (o = none ∧ k = 3 ∧ ∀ t, good t → s.data.toList ≠ enc t)) ∧ Ar B w' g T' S' ∧ Grown S w S' w' ∧ T <+: T' ∧ T'.length ≤ T.length + 2 * s.size
theorem readT_whole {s : ByteArray} {o : Option Tm} {p' : Nat} (h : ReadT s 0 o p') (hp : p' ≤ s.size) : (∃ t, o = some t ∧ p' = s.size ∧ good t ∧ s.data.toList = enc t) ∨ ((o = none ∨ p' ≠ s.size) ∧ ∀ t, good t → s.data.toList ≠ enc t) := by
  rcases h with ⟨rfl, h⟩ | ⟨t, rfl, h1, h2⟩
  · exact .inr ⟨.inl rfl, fun t ht e => h t [] ht (by rw [List.drop_zero, e, List.append_nil])⟩
  · rw [List.drop_zero] at h2
    by_cases hs : p' = s.size
    · refine .inl ⟨t, rfl, hs, h1, ?_⟩
      rw [h2, List.drop_of_length_le (by rw [size_len]; omega), List.append_nil]
    · refine .inr ⟨.inr hs, fun u hu e => ?_⟩
      have h3 : enc t ++ s.data.toList.drop p' = enc u ++ [] := by rw [← h2, e, List.append_nil]
      have h4 := congrArg List.length (enc_inj t u _ _ h1 hu h3).2
      rw [List.length_drop, size_len] at h4
      simp at h4
      omega
section
variable {B g : Nat} {s : ByteArray} {T : List Tm} {S : Nat → Prop} {w : World}
end
end Go.Proofs.YtephdodkijanmaaGreatDoor
