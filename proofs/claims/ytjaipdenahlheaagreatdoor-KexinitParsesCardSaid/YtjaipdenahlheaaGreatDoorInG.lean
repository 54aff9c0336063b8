/-
  Several of my texts in one: InitK, InitO, EqArr, KexA.
-/
import Derived.Test.YtjaipdenahlheaaGreatDoorInit
import Derived.Test.YtjaipdenahlheaaGreatDoorMsgG
import Derived.Test.YtjaipdenahlheaaGreatDoorBaseG
import Derived.Test.YtjaipdenahlheaaGreatDoorDigits
import Derived.Deep.RegionHeld3
import Derived.Lib.QuietBelow
import Derived.Deep.DeepCutAuto
set_option linter.unusedVariables false
set_option linter.unusedSimpArgs false
/-
  Whether all that two peers say at the beginning is the same: the contracts of kexinit.Same and of the statements' own Same. Conditions: the arguments read as data.
-/
namespace Go.Proofs.YtjaipdenahlheaaGreatDoor
open Go.RowKit

end Go.Proofs.YtjaipdenahlheaaGreatDoor

/-
  What a peer says at the beginning, as an argument; and whether it is small. Conditions: none.
-/
namespace Go.Proofs.YtjaipdenahlheaaGreatDoor
open Go.RowKit

/-- Sixteen cells that hold what a peer says. -/
structure IniV (w : World) (us : List Value) (x : Ini) : Prop where
  cells : ∃ v0 v1 v2 v3 v4 v5 v6 v7 l0 l1 : Value, us = [.string x.c, v0, v1, v2, v3, v4, v5, v6, v7, l0, l1, .bool x.b0, .bool x.b1, .bool x.b2, .bool x.b3, .bool x.b4] ∧ AllS 0 w [v0, v1, v2, v3, v4, v5, v6, v7] x.ss ∧ Strs 0 w l0 x.x0 ∧ Strs 0 w l1 x.x1
  cm : x.c.size ≤ maxLen
  n0 : x.x0.length ≤ 9223372036854775807
  n1 : x.x1.length ≤ 9223372036854775807
theorem IniV.below {w w' : World} {us : List Value} {x : Ini} (h : IniV w us x) (hb : Below w.heap.size w w') : IniV w' us x := by
  obtain ⟨⟨v0, v1, v2, v3, v4, v5, v6, v7, l0, l1, e, h1, h2, h3⟩, h4, h5, h6⟩ := h
  exact ⟨⟨v0, v1, v2, v3, v4, v5, v6, v7, l0, l1, e, h1.below hb, h2.below hb, h3.below hb⟩, h4, h5, h6⟩
end Go.Proofs.YtjaipdenahlheaaGreatDoor

/-
  Two arrays of two numbers, compared. Conditions: none.
-/
namespace Go.Proofs.YtjaipdenahlheaaGreatDoor
open Go.RowKit

end Go.Proofs.YtjaipdenahlheaaGreatDoor

/-
  The law KexinitCookies, a part: the lemmas. Conditions: none.
-/
namespace Go.Proofs.YtjaipdenahlheaaGreatDoor
open Go.ChangeShapes Go.WideShapes Go.ChangeAt Go.RowKit Go.Sort
open Go.ChangeMaps (open_string shut_string)

theorem cookie12 (w : World) : Calls Tryz.prog 37 #[.int .i64 1, .int .i64 2] w fun e w' => e = .returned (.string ⟨#[99, 0, 0, 0, 0, 0, 0, 1, 0, 0, 0, 0, 0, 0, 2, 107]⟩) ∧ Below w.heap.size w w' := by
  refine (cookie_any 1 2 w (by omega) (by omega)).mono ?_
  rintro e w' ⟨r, rfl, hr, hb⟩
  obtain rfl : r = ⟨#[99, 0, 0, 0, 0, 0, 0, 1, 0, 0, 0, 0, 0, 0, 2, 107]⟩ := by
    obtain ⟨r⟩ := r
    congr 1
    exact Array.toList_inj.1 (hr.trans (by decide +kernel))
  exact ⟨rfl, hb⟩
theorem awake16 (w : World) : Calls Tryz.prog 15 #[] w fun e w' => e = .returned (.bool true) ∧ Below w.heap.size w w' := by
  go_enter Tryz.func15, Tryz.ntmps15
  go_wp2_with fail
  refine (cookie12 _).mono ?_
  rintro e w1 ⟨rfl, hb⟩
  go_wp2
  go_ret
  exact ⟨ret_bool (by decide +kernel), hb⟩
end Go.Proofs.YtjaipdenahlheaaGreatDoor
