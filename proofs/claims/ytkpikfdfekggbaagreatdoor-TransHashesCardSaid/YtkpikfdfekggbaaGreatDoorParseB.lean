/-
  The contract of the reference's Parse, at any place of any text. Conditions: texts of moderate length.
-/
import Derived.Test.YtkpikfdfekggbaaGreatDoorParseA
namespace Go.Proofs.YtkpikfdfekggbaaGreatDoor
open Go.RowKit Go.ChangeShapes Go.WideShapes Go.Sort

set_option maxHeartbeats 1000000 in
set_option maxRecDepth 100000 in
theorem parse_end (s : ByteArray) (p : Nat) (hp : p = s.size) (hs : s.size ≤ 131072) (w : World) : Calls Tryz.prog 107 #[.string s, .int .i64 p] w (Parsed s p w) := by
  have HN := hide (show NoT (s.data.toList.drop p) by
    rw [List.drop_eq_nil_of_le (by show s.size ≤ p; omega)]
    exact noT_nil)
  have hi : ¬ (p : Int) < s.size := by omega
  have hi2 : (s.size : Int) ≤ p := by omega
  clear hp
  go_enter Tryz.func107, Tryz.ntmps107
  go_wp2_with fail
  exact bodyPost_ret (v := .tuple #[.agg #[.int .i64 0, .int .i64 0, .int .i64 0, .string ⟨#[]⟩, .slice none 0 0], .int .i64 p, .bool false]) (by simp [results, Tryz.results107, go_sem]) rfl (Parsed.no HN.out (by (repeat (first | exact Below.refl _ _ | refine below_drewN ?_ _ | refine Below.drew ?_ | refine Below.alloc ?_ (by first | omega | (simp; done) | (simp; omega)) _ | refine Below.setCell ?_ (by first | omega | (simp; done) | (simp; omega)) _ | refine bel_alloc ?_ _ | refine bel_trans ?_ (by assumption) | refine Below.trans ?_ (Below.mono (by assumption) (by first | omega | (simp; done) | (simp; omega)))))))
theorem parse_any (s : ByteArray) (hs : s.size ≤ 131072) : ∀ (m p : Nat) (w : World), s.size - p ≤ m → p ≤ s.size → Calls Tryz.prog 107 #[.string s, .int .i64 p] w (Parsed s p w) := by
  intro m
  induction m with
  | zero => exact fun p w h1 h2 => parse_end s p (by omega) hs w
  | succ m ih =>
    intro p w h1 h2
    by_cases hp : p < s.size
    · exact parse_step s hs m ih p hp h1 w
    · exact parse_end s p (by omega) hs w
end Go.Proofs.YtkpikfdfekggbaaGreatDoor
