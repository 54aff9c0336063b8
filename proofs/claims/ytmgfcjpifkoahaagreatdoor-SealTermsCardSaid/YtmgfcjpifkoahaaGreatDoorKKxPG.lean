/-
  Several of my texts in one: Kx1, KxP, NamP.
-/
import Derived.Test.YtmgfcjpifkoahaaGreatDoorKRefA
import Derived.Test.YtmgfcjpifkoahaaGreatDoorKMsgG
import Derived.Lib.Split
import Derived.Lib.IndexAny
import Derived.Lib.Join
set_option linter.unusedVariables false
set_option linter.unusedSimpArgs false
/-
  Is a name in a list; the marks of an exchange: the contracts of slices.Index, slices.Contains, names.Has, names.First, kexinit.four, kexinit.marked, and of the reference's Has and marked. Conditions: lists that fit.
-/
namespace Go.Proofs.YtmgfcjpifkoahaaGreatDoor
open Go.RowKit Go.ChangeShapes Go.WideShapes Go.Sort
end Go.Proofs.YtmgfcjpifkoahaaGreatDoor

/-
  The plain law of kexinit's marks: a list splits in rest and marks just when the reference's rebuilding gives it back. Conditions: none.
-/
namespace Go.Proofs.YtmgfcjpifkoahaaGreatDoor
structure SplM where
 rest : List (List UInt8)
 a : Bool
 b : Bool
 c : Bool
 d : Bool
end Go.Proofs.YtmgfcjpifkoahaaGreatDoor

/-
  Names cut at commas, in the shelf's words and in mine. Conditions: none.
-/
namespace Go.Proofs.YtmgfcjpifkoahaaGreatDoor
theorem index_comma_no {l : List UInt8} (h : (44 : UInt8) ∉ l) : Lib.index l [44] = -1 := by
 induction l with
 | nil => rfl
 | cons c r ih =>
  simp only [List.mem_cons, not_or] at h
  simp only [Lib.index]
  rw [if_neg (by simp [h.1]), ih h.2]
  rfl
theorem index_comma_yes {x : List UInt8} (r : List UInt8) (h : (44 : UInt8) ∉ x) : Lib.index (x ++ 44 :: r) [44] = x.length := by
 induction x with
 | nil => simp [Lib.index]
 | cons c x ih =>
  simp only [List.mem_cons, not_or] at h
  simp only [List.cons_append, Lib.index]
  rw [if_neg (by simp [h.1]), ih h.2]
  have : (((x.length : Nat) : Int) == -1) = false := by rw [beq_eq_false_iff_ne]; omega
  rw [this]
  simp
theorem comma_cases (l : List UInt8) : (44 : UInt8) ∉ l ∨ ∃ x r, l = x ++ 44 :: r ∧ (44 : UInt8) ∉ x := by
 by_cases h : (44 : UInt8) ∈ l
 ·obtain ⟨x, r, h1, h2⟩ := List.eq_append_cons_of_mem h
  exact .inr ⟨x, r, h1, h2⟩
 ·exact .inl h
theorem splitK_comma : ∀ (n : Nat) (l : List UInt8), l.length ≤ n → Lib.splitK [44] 0 (Lib.count l [44]) l = splitC l := by
 intro n
 induction n with
 | zero =>
  intro l hl
  have : l = [] := List.eq_nil_of_length_eq_zero (by omega)
  subst this
  rfl
 | succ n ih =>
  intro l hl
  rcases comma_cases l with h | ⟨x, r, rfl, h⟩
  ·rw [Lib.count_miss (index_comma_no h), splitC_none h]
   rfl
  ·have hi := index_comma_yes r h
   have hd : (x ++ 44 :: r).drop (x.length + 1) = r := by
    rw [← List.drop_drop, List.drop_left]
    rfl
   have hc : Lib.count (x ++ 44 :: r) [44] = 1 + Lib.count r [44] := by
    rw [Lib.count_hit (by simp) hi]
    rw [show ([44] : List UInt8).length = 1 from rfl, hd]
   rw [hc, Nat.add_comm, Lib.splitK, hi]
   have : (((x.length : Nat) : Int) == -1) = false := by rw [beq_eq_false_iff_ne]; omega
   rw [this]
   simp only [Bool.false_eq_true, if_false, Int.toNat_natCast, Nat.add_zero]
   rw [show ([44] : List UInt8).length = 1 from rfl, hd, List.take_left, splitC_app h, ih r (by simp at hl; omega)]
theorem splitB_comma (s : ByteArray) : (Lib.splitB ⟨#[44]⟩ 0 (Lib.countB s ⟨#[44]⟩) s).map (·.data.toList) = splitC s.data.toList := by
 rw [Lib.splitB_data]
 exact splitK_comma _ _ (Nat.le_refl _)
theorem join_comma (l : List (List UInt8)) : Lib.join l [44] = joinC l := by
 induction l with
 | nil => rfl
 | cons x l ih =>
  cases l with
  | nil => simp [Lib.join_one, joinC]
  | cons y r =>
   rw [Lib.join_cons] at ih ⊢
   rw [joinC_cons _ (by simp), ← ih]
   simp [Lib.joinTail]
theorem contains_comma (l : List UInt8) : decide (0 ≤ Lib.indexByte l 44) = l.contains 44 := (Lib.contains_iff_indexByte l 44).symm
theorem rightL_eq {s : List UInt8} (h : ∀ c ∈ s, 33 ≤ c.toNat ∧ c.toNat ≤ 126) : rightL s = (decide (1 ≤ s.length) && decide (s.length ≤ 64) && !(s.contains 44)) := by
 have h2 : (s.all fun c => decide (33 ≤ c.toNat) && decide (c.toNat ≤ 126) && !(c == 44)) = !(s.contains 44) := by
  induction s with
  | nil => rfl
  | cons c r ih =>
   have hc := h c (by simp)
   rw [List.all_cons, ih (fun d hd => h d (by simp [hd])), List.contains_cons]
   simp only [hc.1, hc.2, decide_true, Bool.true_and, Bool.not_or]
   rw [show (c == (44 : UInt8)) = ((44 : UInt8) == c) from by rw [Bool.eq_iff_iff, beq_iff_eq, beq_iff_eq]; exact eq_comm]
 unfold rightL
 rw [h2]
 cases s.contains 44 <;> simp
theorem rightL_no {s : List UInt8} {c : UInt8} (hc : c ∈ s) (h : c.toNat < 33 ∨ 126 < c.toNat ∨ c = 44) : rightL s = false := by
 cases hr : rightL s with
 | false => rfl
 | true =>
  exfalso
  unfold rightL at hr
  simp only [Bool.and_eq_true, List.all_eq_true, decide_eq_true_eq, Bool.not_eq_true', beq_eq_false_iff_ne] at hr
  have := hr.1.1 c hc
  rcases h with h | h | h
  ·omega
  ·omega
  ·exact this.2 h
theorem wrongN_no {l : List (List UInt8)} (h16 : l.length ≤ 16) {x : List UInt8} (hx : x ∈ l) (hr : rightL x = false) : wrongN l = 3 := by
 unfold wrongN
 rw [if_neg (by omega), if_neg]
 intro h
 rw [List.all_eq_true] at h
 rw [h x hx] at hr
 cases hr
theorem wrongN_yes {l : List (List UInt8)} (h16 : l.length ≤ 16) (h : ∀ x ∈ l, rightL x = true) : wrongN l = 0 := by
 unfold wrongN
 rw [if_neg (by omega), if_pos (by rw [List.all_eq_true]; exact h)]
theorem wrongN_long {l : List (List UInt8)} (h16 : 16 < l.length) : wrongN l = 2 := by
 unfold wrongN
 rw [if_pos h16]
end Go.Proofs.YtmgfcjpifkoahaaGreatDoor
