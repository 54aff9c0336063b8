/-
  Several of my texts in one: Kx1, KxP, NamP.
-/
import Derived.Test.YtjaipdenahlheaaDoorKRefA
import Derived.Test.YtjaipdenahlheaaDoorKMsgG
import Derived.Lib.Split
import Derived.Lib.IndexAny
import Derived.Lib.Join
set_option linter.unusedVariables false
set_option linter.unusedSimpArgs false
/-
  Is a name in a list; the marks of an exchange: the contracts of slices.Index, slices.Contains, names.Has, names.First, kexinit.four, kexinit.marked, and of the reference's Has and marked. Conditions: lists that fit.
-/
namespace Go.Proofs.YtjaipdenahlheaaDoor
open Go.RowKit Go.ChangeShapes Go.WideShapes Go.Sort
/-- A place of a text in a list, or a number below 0. -/
def IdxP (ls : List (List UInt8)) (s : List UInt8) (w : World) (e : Ending) (w' : World) : Prop := ∃ k : Int, e = .returned (.int .i64 k) ∧ w' = w ∧ decide (0 ≤ k) = decide (s ∈ ls)
theorem idxP_yes {ls : List (List UInt8)} {s : List UInt8} {w : World} {i : Nat} (hi : i < ls.length) (h : ls[i] = s) : IdxP ls s w (.returned (.int .i64 i)) w :=
  ⟨i, rfl, rfl, by rw [decide_eq_true (show (0 : Int) ≤ i by omega), decide_eq_true (by rw [← h]; exact List.getElem_mem hi)]⟩
theorem idxP_no {ls : List (List UInt8)} {s : List UInt8} {w : World} (h : s ∉ ls) : IdxP ls s w (.returned (.int .i64 (-1))) w :=
  ⟨-1, rfl, rfl, by rw [decide_eq_false (by decide), decide_eq_false h]⟩
theorem not_take {ls : List (List UInt8)} {s : List UInt8} {i : Nat} (hi : i < ls.length) (h : s ∉ ls.take i) (hn : ls[i] ≠ s) : s ∉ ls.take (i + 1) := by
  rw [List.take_succ_eq_append_getElem hi, List.mem_append, List.mem_singleton]
  exact fun h2 => h2.elim h (fun e => hn e.symm)
section
variable {w : World} {A : Option Addr} {c : Nat} {ls : List (List UInt8)}
set_option maxHeartbeats 1000000 in
theorem sidx_any (h : Txs w (.slice A ls.length c) ls) (hll : ls.length ≤ 9223372036854775807) (s : List UInt8) : Calls Tryd.prog 79 #[.slice A ls.length c, .string (bs s)] w (IdxP ls s w) := by
  obtain ⟨A', c', hv, hA⟩ := h.open_
  obtain ⟨rfl, rfl⟩ : A' = A ∧ c' = c := by injection hv with e1 _ e2; exact ⟨e1.symm, e2.symm⟩
  clear hv h
  go_enter Tryd.func79, Tryd.ntmps79
  go_wp2_with fail
  go_loop [8] (fun i => ∃ k : Nat, k ≤ ls.length ∧ i = .int .i64 k ∧ Hid (s ∉ ls.take k)) (fun i => ls.length - (intOf i).toNat)
  case atStart => exact ⟨0, Nat.zero_le _, rfl, hide (by simp)⟩
  case round =>
    obtain ⟨k, hk, rfl, H⟩ := hrel
    by_cases hlt : k < ls.length
    · have hkI : (k : Int) < ls.length := by omega
      obtain ⟨ad, rfl, had, hc⟩ := hA k hlt
      by_cases he : ls[k] = s
      · have e1 : ((bs s).toList == (bs ls[k]).toList) = true := by rw [he]; exact beq_self_eq_true _
        have HY := hide (idxP_yes (w := w) hlt he)
        clear he H hA
        go_wp2_with fail
        go_ret
        exact HY.out
      · have e1 : ((bs s).toList == (bs ls[k]).toList) = false := bytes_ne (fun e => he (bs_inj e).symm)
        have HN := hide (not_take hlt H.out he)
        clear he H hA
        go_wp2_with fail
        go_round
        case rel => exact ⟨k + 1, hlt, by go_num, HN⟩
        case measure => simp [intOf]; omega
    · have hkI : ¬ (k : Int) < ls.length := by omega
      have HN := hide (idxP_no (w := w) (ls := ls) (s := s) (by have := H.out; rwa [List.take_of_length_le (by omega)] at this))
      clear H hA
      go_wp2_with fail
      go_ret
      exact HN.out
theorem scon_any (h : Txs w (.slice A ls.length c) ls) (hll : ls.length ≤ 9223372036854775807) (s : List UInt8) : Calls Tryd.prog 70 #[.slice A ls.length c, .string (bs s)] w (fun e w' => e = .returned (.bool (decide (s ∈ ls))) ∧ w' = w) := by
  have H := hide (sidx_any h hll s)
  clear h
  generalize hz : decide (s ∈ ls) = z
  have Hz := hide hz
  clear hz
  go_enter Tryd.func70, Tryd.ntmps70
  go_wp2_with fail
  refine H.out.mono ?_
  rintro e w1 ⟨k, rfl, rfl, hk⟩
  have HZ := hide (hk.trans Hz.out)
  clear hk H
  go_wp2_with fail
  go_ret
  exact ⟨by rw [← HZ.out]; rfl, rfl⟩
theorem nhas_any (h : Txs w (.slice A ls.length c) ls) (hll : ls.length ≤ 9223372036854775807) (s : List UInt8) : Calls Tryd.prog 66 #[.slice A ls.length c, .string (bs s)] w (fun e w' => e = .returned (.bool (decide (s ∈ ls))) ∧ w' = w) := by
  have H := hide (scon_any h hll s)
  clear h
  go_enter Tryd.func66, Tryd.ntmps66
  go_wp2_with fail
  refine H.out.mono ?_
  rintro e w1 ⟨rfl, rfl⟩
  go_wp2_with fail
  go_ret
  exact ⟨rfl, rfl⟩
end
def mark0 : List UInt8 := [101, 120, 116, 45, 105, 110, 102, 111, 45, 99]
def mark1 : List UInt8 := [101, 120, 116, 45, 105, 110, 102, 111, 45, 115]
def mark2 : List UInt8 := [107, 101, 120, 45, 115, 116, 114, 105, 99, 116, 45, 99, 45, 118, 48, 48]
def mark3 : List UInt8 := [107, 101, 120, 45, 115, 116, 114, 105, 99, 116, 45, 115, 45, 118, 48, 48]
end Go.Proofs.YtjaipdenahlheaaDoor

/-
  The plain law of kexinit's marks: a list splits in rest and marks just when the reference's rebuilding gives it back. Conditions: none.
-/
namespace Go.Proofs.YtjaipdenahlheaaDoor
def oneM (b : Bool) (m : List UInt8) : List (List UInt8) := if b = true then [m] else []
/-- Rest and marks of a list. -/
structure SplM where
  rest : List (List UInt8)
  a : Bool
  b : Bool
  c : Bool
  d : Bool
end Go.Proofs.YtjaipdenahlheaaDoor

/-
  Names cut at commas, in the shelf's words and in mine. Conditions: none.
-/
namespace Go.Proofs.YtjaipdenahlheaaDoor
theorem join_comma (l : List (List UInt8)) : Lib.join l [44] = joinC l := by
  induction l with
  | nil => rfl
  | cons x l ih =>
    cases l with
    | nil => simp [Lib.join_one, joinC]
    | cons y r =>
      rw [Lib.join_cons] at ih ⊢
      rw [joinC_cons _ (by simp), ← ih]
      simp [Lib.joinTail]
theorem contains_comma (l : List UInt8) : decide (0 ≤ Lib.indexByte l 44) = l.contains 44 := (Lib.contains_iff_indexByte l 44).symm
theorem rightL_eq {s : List UInt8} (h : ∀ c ∈ s, 33 ≤ c.toNat ∧ c.toNat ≤ 126) : rightL s = (decide (1 ≤ s.length) && decide (s.length ≤ 64) && !(s.contains 44)) := by
  have h2 : (s.all fun c => decide (33 ≤ c.toNat) && decide (c.toNat ≤ 126) && !(c == 44)) = !(s.contains 44) := by
    induction s with
    | nil => rfl
    | cons c r ih =>
      have hc := h c (by simp)
      rw [List.all_cons, ih (fun d hd => h d (by simp [hd])), List.contains_cons]
      simp only [hc.1, hc.2, decide_true, Bool.true_and, Bool.not_or]
      rw [show (c == (44 : UInt8)) = ((44 : UInt8) == c) from by rw [Bool.eq_iff_iff, beq_iff_eq, beq_iff_eq]; exact eq_comm]
  unfold rightL
  rw [h2]
  cases s.contains 44 <;> simp
theorem rightL_no {s : List UInt8} {c : UInt8} (hc : c ∈ s) (h : c.toNat < 33 ∨ 126 < c.toNat ∨ c = 44) : rightL s = false := by
  cases hr : rightL s with
  | false => rfl
  | true =>
    exfalso
    unfold rightL at hr
    simp only [Bool.and_eq_true, List.all_eq_true, decide_eq_true_eq, Bool.not_eq_true', beq_eq_false_iff_ne] at hr
    have := hr.1.1 c hc
    rcases h with h | h | h
    · omega
    · omega
    · exact this.2 h
theorem wrongN_no {l : List (List UInt8)} (h16 : l.length ≤ 16) {x : List UInt8} (hx : x ∈ l) (hr : rightL x = false) : wrongN l = 3 := by
  unfold wrongN
  rw [if_neg (by omega), if_neg]
  intro h
  rw [List.all_eq_true] at h
  rw [h x hx] at hr
  cases hr
theorem wrongN_yes {l : List (List UInt8)} (h16 : l.length ≤ 16) (h : ∀ x ∈ l, rightL x = true) : wrongN l = 0 := by
  unfold wrongN
  rw [if_neg (by omega), if_pos (by rw [List.all_eq_true]; exact h)]
theorem wrongN_long {l : List (List UInt8)} (h16 : 16 < l.length) : wrongN l = 2 := by
  unfold wrongN
  rw [if_pos h16]
end Go.Proofs.YtjaipdenahlheaaDoor
