/-
  The last step of a law at a tied card: from what is listed to the library's table. Conditions: none.
-/
import Derived.Test.YtfjegckomjpkdaaGreatDoorLaw
import Derived.Test.YtfjegckomjpkdaaGreatDoorRawP
import Derived.Test.YtfjegckomjpkdaaGreatDoorOpen
import Derived.Test.YtfjegckomjpkdaaGreatDoorCards
import Derived.Test.YtfjegckomjpkdaaGreatDoorTie
import Derived.Lib.LaidTab
import Derived.Stop.LaidErr
import Derived.Lay
import Derived.SevenTiedAt
import Derived.LaidHandle
import Derived.MakeChecks
set_option linter.unusedVariables false
set_option linter.unusedSimpArgs false
namespace Go.Proofs.YtfjegckomjpkdaaGreatDoor
open Go.ChangeShapes Go.WideShapes Go.ChangeAt Go.RowKit

theorem pow10_data : (Rows.laid_internal_strconv_uint64pow10 : DataW Unit) = Lib.tabData .u64 Lib.pow10Tab := by kernel_rfl
theorem tab_of_laid {a b : String × DataW Unit} {l : List (String × DataW Unit)} {W : World} (h : laidMet Tryz.prog (a :: b :: ("internal/strconv.uint64pow10", Rows.laid_internal_strconv_uint64pow10) :: l) W) : Tab W := by
  have h := laidMet.tail (laidMet.tail h)
  rw [pow10_data] at h
  exact Lib.tabIs_of_head (g := 1) (by kernel_rfl) (by kernel_rfl) Tryz.underlying259 Tryz.underlying217 (by kernel_rfl) (by kernel_rfl) h
set_option maxRecDepth 100000 in
theorem open_rawV {H : Type} {enc : TypeId × Value → H} {w : World} {base : Nat} {spare : Nat → Bool} {held : Bool} {v : Value} {d : DataW H} {p : List MemPlace} {r : Reach} {b0 : Nat}
    (hv : Value.okWide Tryz.prog w r b0 82 v) (h : DataW.Trod enc Tryz.prog w base spare held 82 v d p) : ∃ x, RawFit x ∧ v = rawV x := by
  obtain ⟨cs, rfl, ho⟩ := open_struct 6 (l := rawS) Tryz.underlying82 (by kernel_rfl) hv h
  obtain ⟨x, hx, e⟩ := open_rawS ho
  exact ⟨x, hx, e⟩
end Go.Proofs.YtfjegckomjpkdaaGreatDoor
