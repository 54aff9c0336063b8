/-
  The contracts of code's reader: byte1, number, text. Conditions: at most a million bytes.
-/
import Derived.Test.YtephdodkijanmaaGreatDoorRefA
import Derived.Test.YtephdodkijanmaaGreatDoorMakeA
set_option linter.unusedVariables false
set_option linter.unusedSimpArgs false
namespace Go.Proofs.YtephdodkijanmaaGreatDoor
open Go.RowKit Go.ChangeShapes Go.WideShapes Go.Sort

section
variable {w wr : World} {b g : Nat} {s : ByteArray} {p : Nat}
/-- The number that so many bytes are. -/
def nbP (l : List UInt8) (i : Nat) : Nat := (l.take i).foldl (fun n c => n * 256 + c.toNat) 0
theorem nb_step {l : List UInt8} {i : Nat} {c : UInt8} (h : l[i]? = some c) : nbP l (i + 1) = nbP l i * 256 + c.toNat := by
  unfold nbP
  rw [List.take_add_one, h]
  simp
theorem nb_lt (l : List UInt8) (i : Nat) : nbP l i < 256 ^ i := by
  induction i with
  | zero => simp [nbP]
  | succ i ih =>
    cases h : l[i]? with
    | none =>
      have : nbP l (i + 1) = nbP l i := by unfold nbP; rw [List.take_add_one, h]; simp
      rw [this, Nat.pow_succ]
      omega
    | some c =>
      rw [nb_step h, Nat.pow_succ]
      have := c.toNat_lt
      omega
theorem nb_four {l : List UInt8} (h : 4 ≤ l.length) : nbP l 4 = n4 l := by
  match l, h with
  | x :: y :: z :: u :: r, _ =>
    simp only [nbP, List.take_succ_cons, List.take_zero, List.foldl_cons, List.foldl_nil, n4]
    omega
theorem or_i64 {n c : Nat} (hn : n < 16777216) (hc : c < 256) : bits .or .i64 ((n * 256 : Nat) : Int) (c : Int) = ((n * 256 + c : Nat) : Int) := by
  have h := bits_join .i64 63 (by decide) (fun x h0 h1 => by rw [IntKind.wrap_i64]; omega) 8 ((n * 256 : Nat) : Int) (c : Int) (by omega) (by omega) (by omega) (by omega) (by omega) (by omega)
  rw [h]
  omega
end
end Go.Proofs.YtephdodkijanmaaGreatDoor
