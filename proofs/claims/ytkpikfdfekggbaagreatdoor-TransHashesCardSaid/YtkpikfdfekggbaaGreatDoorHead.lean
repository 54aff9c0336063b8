/-
  code's number and text: a number's four bytes, a text behind its length.
-/
import Derived.Test.YtkpikfdfekggbaaGreatDoorRefN
namespace Go.Proofs.YtkpikfdfekggbaaGreatDoor
open Go.RowKit Go.ChangeShapes Go.WideShapes
section
variable {w : World}
set_option maxHeartbeats 4000000 in
theorem wNum_any (n : Nat) (w : World) (h1 : n < 4294967296) : Calls Tryz.prog 17 #[.int .u32 n] w (Says (q4 n) w) := by
  have h0 : (0 : Int) ≤ n := by omega
  go_enter Tryz.func17, Tryz.ntmps17
  go_wp2
  go_ret
  refine ⟨ret_bs ?_, by (repeat (first | exact Below.refl _ _ | refine below_drewN ?_ _ | refine Below.drew ?_ | refine Below.alloc ?_ (by first | omega | (simp; done) | (simp; omega)) _ | refine Below.setCell ?_ (by first | omega | (simp; done) | (simp; omega)) _ | refine bel_alloc ?_ _ | refine bel_trans ?_ (by assumption) | refine Below.trans ?_ (Below.mono (by assumption) (by first | omega | (simp; done) | (simp; omega)))))⟩
  rw [strOfNums_data, q4]
  have e1 : ((n : Int) / 16777216).toNat = n / 16777216 := by omega
  have e2 : ((n : Int) / 65536 % 256).toNat = n / 65536 % 256 := by omega
  have e3 : ((n : Int) / 256 % 256).toNat = n / 256 % 256 := by omega
  have e4 : ((n : Int) % 256).toNat = n % 256 := by omega
  simp only [List.map_cons, List.map_nil, e1, e2, e3, e4, ofNat_mod]
theorem cNum_any (n : Nat) (w : World) (h1 : n < 4294967296) : Calls Tryz.prog 125 #[.int .i64 n] w (Says (q4 n) w) := by
  have h0 : (0 : Int) ≤ n := by omega
  have h2 : (n : Int) < 4294967296 := by omega
  go_enter Tryz.func125, Tryz.ntmps125
  go_wp2_with (go_at_call 17; refine (wNum_any n _ h1).mono ?_; rintro e w1 ⟨rfl, hb1⟩)
  go_ret
  exact ⟨rfl, hb1⟩
theorem cText_any (l : List UInt8) (w : World) (h1 : l.length < 4294967296) : Calls Tryz.prog 124 #[.string (bs l)] w (Says (q4 l.length ++ l) w) := by
  go_enter Tryz.func124, Tryz.ntmps124
  go_wp2_with (go_at_call 125; refine (cNum_any l.length _ h1).mono ?_; rintro e w1 ⟨rfl, hb1⟩)
  go_ret
  exact ⟨rfl, hb1⟩
end
end Go.Proofs.YtkpikfdfekggbaaGreatDoor
