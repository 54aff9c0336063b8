/-
  The contracts of package frame's functions. Conditions: texts of up to maxLen bytes.
-/
import Derived.Test.YtejikjpaclnncaaWireTake
namespace Go.Proofs.Ytejikjpaclnncaa
open Go.RowKit

/-- A unit: its length in four bytes, and its body. -/
def unitB (l : List UInt8) : List UInt8 := u32b l.length ++ l
def unitF (l : List UInt8) : List UInt8 × Int := if l = [] then ([], 4) else if 262144 < l.length then ([], 2) else (unitB l, 0)
theorem unit_any (s : ByteArray) (w : World) (hs : s.size ≤ 9223372036854775807) : Calls Try.prog 12 #[.string s] w fun e w' => ∃ r, e = .returned (.tuple #[.string r, .int .i64 (unitF s.data.toList).2]) ∧ r.data.toList = (unitF s.data.toList).1 ∧ Below w.heap.size w w' := by
  have hsz : s.data.toList.length = s.size := rfl
  by_cases h0 : s = ⟨#[]⟩
  · subst h0
    go_enter Try.func12, Try.ntmps12
    go_wp2
    go_ret2
    exact ⟨⟨#[]⟩, rfl, rfl, Below.refl _ _⟩
  have hn0 : s.data.toList ≠ [] := fun h => h0 (bytes_ext (by rw [ByteArray.toList_eq, h, toList_nil]))
  have e0 := bytes_some h0
  have hpos : 0 < s.size := by rw [← hsz]; exact List.length_pos_iff.2 hn0
  by_cases h1 : 262144 < s.size
  · have hf : unitF s.data.toList = ([], 2) := by rw [unitF, if_neg hn0, if_pos (by rw [hsz]; exact h1)]
    have Hf := hide hf
    clear hf h0
    go_enter Try.func12, Try.ntmps12
    go_wp2
    go_ret2
    exact ⟨⟨#[]⟩, by rw [Hf.out]; rfl, by rw [Hf.out], Below.refl _ _⟩
  · have hf : unitF s.data.toList = (unitB s.data.toList, 0) := by rw [unitF, if_neg hn0, if_neg (by rw [hsz]; exact h1)]
    have Hf := hide hf
    clear hf h0
    go_enter Try.func12, Try.ntmps12
    go_wp2_with fail
    refine (u32_any _ _ (by omega) (by omega)).mono ?_
    rintro e w2 ⟨r, rfl, hr, hz, hb⟩
    have Hr := hide hr
    clear hr
    go_wp2
    go_ret2
    refine ⟨_, by rw [Hf.out]; rfl, ?_, hb⟩
    rw [Hf.out, data_append, Hr.out]
    rfl
def padN (n : Nat) : Nat := if 8 - (5 + n) % 8 < 4 then 16 - (5 + n) % 8 else 8 - (5 + n) % 8
theorem padding_any (n : Nat) (w : World) (hn : n ≤ 1000000) : Calls Try.prog 41 #[.int .i64 n] w fun e w' => e = .returned (.int .i64 (padN n)) ∧ w = w' := by
  go_enter Try.func41, Try.ntmps41
  go_wp2
  all_goals (go_ret; refine ⟨ret_int ?_, rfl⟩; unfold padN)
  all_goals split <;> omega
end Go.Proofs.Ytejikjpaclnncaa
