/-
  Contracts of a conf's parts: versions, users' names, groups asked for, principals. Conditions: texts of up to maxLen bytes.
-/
import Derived.Test.YtjaipdenahlheaaDoorKKxPG
import Derived.Test.YtjaipdenahlheaaDoorKNam
set_option linter.unusedVariables false
set_option linter.unusedSimpArgs false
namespace Go.Proofs.YtjaipdenahlheaaDoor
open Go.RowKit Go.ChangeShapes Go.WideShapes Go.Sort
/-- Is each byte of a text between two? -/
def betw (a b : Nat) (l : List UInt8) : Bool := l.all fun c => decide (a ≤ c.toNat) && decide (c.toNat ≤ b)
theorem betw_yes {a b : Nat} {l : List UInt8} (h : ∀ c ∈ l, a ≤ c.toNat ∧ c.toNat ≤ b) : betw a b l = true := by
  unfold betw
  rw [List.all_eq_true]
  intro c hc
  have := h c hc
  simp [this.1, this.2]
theorem betw_no {a b : Nat} {l : List UInt8} {c : UInt8} (hc : c ∈ l) (h : c.toNat < a ∨ b < c.toNat) : betw a b l = false := by
  cases hb : betw a b l with
  | false => rfl
  | true =>
    exfalso
    unfold betw at hb
    rw [List.all_eq_true] at hb
    have := hb c hc
    simp only [Bool.and_eq_true, decide_eq_true_eq] at this
    omega
theorem contains_byte (l : List UInt8) (b : UInt8) : decide (0 ≤ Lib.indexByte l b) = l.contains b := (Lib.contains_iff_indexByte l b).symm
/-- A user's name? -/
def userL (l : List UInt8) : Bool := betw 33 126 l && decide (1 ≤ l.length) && decide (l.length ≤ 64)
/-- May a line be so? -/
def lineL (l : List UInt8) : Bool := betw 32 126 l && decide (l.length ≤ 253)
/-- Is a blank in it? -/
def blankL (l : List UInt8) : Bool := l.contains 32
def sshB : List UInt8 := [83, 83, 72, 45, 50, 46, 48, 45]
/-- What stands behind the software. -/
def cmtL (cm : List UInt8) : List UInt8 := if cm = [] then [] else 32 :: cm
/-- A version, or nothing. -/
def verL (sw cm : List UInt8) : List UInt8 := if sw = [] ∨ blankL sw = true then [] else if lineL (sshB ++ sw ++ cmtL cm) = true then sshB ++ sw ++ cmtL cm else []
def groupL (a b c : Int) : Bool := decide (1024 ≤ a) && decide (a ≤ b) && decide (b ≤ c) && decide (c ≤ 8192)
def princL (n : Int) : Bool := decide (0 ≤ n) && decide (n ≤ 15)
section
variable {w : World}
set_option maxHeartbeats 1000000 in
theorem user_any (s : ByteArray) (hs : s.size ≤ 9223372036854775807) (w : World) : Calls Tryd.prog 45 #[.string s] w (fun e w' => e = .returned (.bool (userL s.data.toList)) ∧ w' = w) := by
  have hl2 : s.data.toList.length = s.size := rfl
  go_enter Tryd.func45, Tryd.ntmps45
  go_wp2_with fail
  go_loop [6] (fun i => ∃ k : Nat, k ≤ s.size ∧ i = .int .i64 k ∧ Hid (∀ c ∈ s.data.toList.take k, 33 ≤ c.toNat ∧ c.toNat ≤ 126)) (fun i => s.size - (intOf i).toNat)
  case atStart => exact ⟨0, Nat.zero_le _, rfl, hide (by simp)⟩
  case round =>
    obtain ⟨k, hk, rfl, H⟩ := hrel
    by_cases hlt : k < s.size
    · by_cases h1 : s[k].toNat < 33
      · have h1' : (s[k].toNat : Int) ≤ 32 := by omega
        have E := hide (show userL s.data.toList = false from by unfold userL; rw [betw_no (mem_toList hlt) (.inl h1)]; rfl)
        go_wp2_with fail
        go_ret
        exact ⟨by rw [E.out]; rfl, rfl⟩
      · have h1' : ¬ (s[k].toNat : Int) ≤ 32 := by omega
        by_cases h2 : 126 < s[k].toNat
        · have h2' : (126 : Int) < s[k].toNat := by omega
          have E := hide (show userL s.data.toList = false from by unfold userL; rw [betw_no (mem_toList hlt) (.inr h2)]; rfl)
          go_wp2_with fail
          go_ret
          exact ⟨by rw [E.out]; rfl, rfl⟩
        · have h2' : ¬ (126 : Int) < s[k].toNat := by omega
          have H2 := hide (all_take hlt H.out ⟨Nat.le_of_not_lt h1, Nat.le_of_not_lt h2⟩)
          clear H
          go_wp2_with fail
          go_round
          case rel => exact ⟨k + 1, hlt, by go_num, H2⟩
          case measure => simp [intOf]; omega
    · have E := hide (betw_yes (all_full hlt H.out))
      clear H
      by_cases h0 : 1 ≤ s.size
      · have h0' : (1 : Int) ≤ s.size := by omega
        by_cases h64 : s.size ≤ 64
        · have h64' : (s.size : Int) ≤ 64 := by omega
          go_wp2_with fail
          go_ret
          refine ⟨?_, rfl⟩
          unfold userL
          rw [E.out, hl2, decide_eq_true h0, decide_eq_true h64]
          rfl
        · have h64' : ¬ (s.size : Int) ≤ 64 := by omega
          go_wp2_with fail
          go_ret
          refine ⟨?_, rfl⟩
          unfold userL
          rw [E.out, hl2, decide_eq_false h64, Bool.and_false]
          rfl
      · have h0' : ¬ (1 : Int) ≤ s.size := by omega
        go_wp2_with fail
        go_ret
        refine ⟨?_, rfl⟩
        unfold userL
        rw [hl2, decide_eq_false h0, Bool.and_false, Bool.false_and]
        rfl
theorem princ_any (n : Int) (w : World) : Calls Tryd.prog 40 #[.int .i64 n] w (fun e w' => e = .returned (.bool (princL n)) ∧ w' = w) := by
  by_cases h1 : 0 ≤ n
  · by_cases h2 : n ≤ 15
    · have E := hide (show princL n = true from by unfold princL; rw [decide_eq_true h1, decide_eq_true h2]; rfl)
      have h3 : n < 16 := by omega
      go_enter Tryd.func40, Tryd.ntmps40
      go_wp2_with fail
      go_ret
      exact ⟨by rw [E.out]; rfl, rfl⟩
    · have E := hide (show princL n = false from by unfold princL; rw [decide_eq_false h2, Bool.and_false])
      have h3 : ¬ n < 16 := by omega
      go_enter Tryd.func40, Tryd.ntmps40
      go_wp2_with fail
      go_ret
      exact ⟨by rw [E.out]; rfl, rfl⟩
  · have E := hide (show princL n = false from by unfold princL; rw [decide_eq_false h1, Bool.false_and])
    go_enter Tryd.func40, Tryd.ntmps40
    go_wp2_with fail
    go_ret
    exact ⟨by rw [E.out]; rfl, rfl⟩
theorem group_any (a b c : Int) (w : World) : Calls Tryd.prog 50 #[.int .u32 a, .int .u32 b, .int .u32 c] w (fun e w' => e = .returned (.bool (groupL a b c)) ∧ w' = w) := by
  by_cases h1 : 1024 ≤ a
  · by_cases h2 : a ≤ b
    · by_cases h3 : b ≤ c
      · by_cases h4 : c ≤ 8192
        · have E := hide (show groupL a b c = true from by unfold groupL; rw [decide_eq_true h1, decide_eq_true h2, decide_eq_true h3, decide_eq_true h4]; rfl)
          go_enter Tryd.func50, Tryd.ntmps50
          go_wp2_with fail
          go_ret
          exact ⟨by rw [E.out]; rfl, rfl⟩
        · have E := hide (show groupL a b c = false from by unfold groupL; rw [decide_eq_false h4, Bool.and_false])
          go_enter Tryd.func50, Tryd.ntmps50
          go_wp2_with fail
          go_ret
          exact ⟨by rw [E.out]; rfl, rfl⟩
      · have E := hide (show groupL a b c = false from by unfold groupL; rw [decide_eq_false h3, Bool.and_false, Bool.false_and])
        go_enter Tryd.func50, Tryd.ntmps50
        go_wp2_with fail
        go_ret
        exact ⟨by rw [E.out]; rfl, rfl⟩
    · have E := hide (show groupL a b c = false from by unfold groupL; rw [decide_eq_false h2, Bool.and_false, Bool.false_and, Bool.false_and])
      go_enter Tryd.func50, Tryd.ntmps50
      go_wp2_with fail
      go_ret
      exact ⟨by rw [E.out]; rfl, rfl⟩
  · have E := hide (show groupL a b c = false from by unfold groupL; rw [decide_eq_false h1, Bool.false_and, Bool.false_and, Bool.false_and])
    go_enter Tryd.func50, Tryd.ntmps50
    go_wp2_with fail
    go_ret
    exact ⟨by rw [E.out]; rfl, rfl⟩
end
end Go.Proofs.YtjaipdenahlheaaDoor
