/-
  The contract of wire's take. Conditions: the reader's state is sound.
-/
import Derived.Test.YtejikjpaclnncaaWire
namespace Go.Proofs.Ytejikjpaclnncaa
open Go.RowKit

theorem quiet_left {P : Program} {f : FuncId} {args : Array Value} {w : World} {v : Value}
    (h : Calls P f args w fun e w' => e = .returned v ∧ w = w') : Calls P f args w fun e w'' => e = .returned v ∧ w'' = w :=
  h.mono fun _ _ ⟨he, hm⟩ => ⟨he, hm.symm⟩
theorem take_ok {s : ByteArray} {g p k n : Nat} {w : World} (h : Rd w g s p 0) (hs : s.size ≤ 9223372036854775807) (hfit : p + k + n ≤ s.size) :
    Calls Try.prog 60 #[.pointer (some ⟨g, 0, none⟩), .int .i64 k, .int .i64 n, .func (.func 61) #[] #[]] w fun e w' => e = .returned (.string (s.extract (p + k) (p + k + n))) ∧ Rd w' g s (p + k + n) 0 ∧ w.grownBy w' (some g) := by
  have h0 : w.cell? ⟨g, 0, none⟩ = some (.string s) := Blk.cell h 0
  have h1 : w.cell? ⟨g, 1, none⟩ = some (.int .i64 p) := Blk.cell h 1
  have f1 : w.frozen? ⟨g, 1, none⟩ = false := Blk.frozen h 1
  go_enter Try.func60, Try.ntmps60
  go_wp2_with fail
  refine (err_any h).mono ?_
  rintro e w1 ⟨rfl, rfl⟩
  go_wp2
  go_quiet ((go_at_call 67; exact Calls.quiet_of (left_any (p := p) (x := 0) h (by omega) hs)))
  go_wp2
  go_quiet (fail)
  go_wp2_with (go_at_call 61; refine (all_any _ _).mono ?_; rintro e w2 ⟨rfl, rfl⟩)
  go_ret
  refine ⟨rfl, ?_, only_setCell (only_drewN (only_refl _ _) _) (.inl rfl) _⟩
  have e : ((p + k + n : Nat) : Int) = (p : Int) + ((k : Int) + n) := by omega
  rw [Rd, e]
  exact Blk.set_ (Blk.drewN h _) 1 _
theorem u32r_any {s : ByteArray} {g : Nat} {w : World} (h : Rd w g s 0 0) (hs : s.size = 4) : Calls Try.prog 44 #[.pointer (some ⟨g, 0, none⟩)] w fun e w' => e = .returned (.int .u32 (numb s.data.toList)) ∧ w.grownBy w' (some g) := by
  go_enter Try.func44, Try.ntmps44
  go_wp2_with (first
    | (go_at_call 60; refine (take_ok (p := 0) (k := 0) (n := 4) h (by omega) (by omega)).mono ?_; rintro e w2 ⟨rfl, hr, ho⟩)
    | (go_at_call 59; refine (number_any _ _ ?_).mono ?_; (simp; omega); rintro e w3 ⟨rfl, rfl⟩))
  go_ret
  refine ⟨?_, ho⟩
  have e : s.data.toList.take 4 = s.data.toList := List.take_of_length_le (by show s.size ≤ 4; omega)
  rw [e]
  rfl
end Go.Proofs.Ytejikjpaclnncaa
