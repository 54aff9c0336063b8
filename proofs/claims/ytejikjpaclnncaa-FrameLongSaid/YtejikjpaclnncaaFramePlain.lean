/-
  Units and packets as lists of bytes: what is packed is unpacked. No program in sight. Conditions: lengths below 2^24.
-/
import Derived.Test.YtejikjpaclnncaaFrameUnpack
namespace Go.Proofs.Ytejikjpaclnncaa
open Go.RowKit

theorem ofNat_toNat (n : Nat) : (UInt8.ofNat n).toNat = n % 256 := by simp
theorem numb_u32b (n : Nat) (h : n < 4294967296) : numb (u32b n) = n := by
  rw [u32b, b3, ofNat_toNat, ofNat_toNat, ofNat_toNat, ofNat_toNat]
  omega
theorem u32b_length (n : Nat) : (u32b n).length = 4 := rfl
theorem take4_unit (l : List UInt8) : (unitB l).take 4 = u32b l.length := by
  rw [unitB, List.take_left' (u32b_length _)]
theorem drop4_unit (l : List UInt8) : (unitB l).drop 4 = l := by
  rw [unitB, List.drop_left' (u32b_length _)]
theorem length_unit (l : List UInt8) : (unitB l).length = 4 + l.length := by
  rw [unitB, List.length_append, u32b_length]
theorem head_unit (l : List UInt8) (h : l.length < 16777216) : (unitB l).head? = some 0 := by
  have : l.length / 16777216 = 0 := by omega
  simp [unitB, u32b, this]
theorem needF_any (l : List UInt8) (h : l.length < 16777216) : needF (unitB l) = if 262144 < l.length then (0, 2) else if l.length = 0 then (0, 3) else (4 + (l.length : Int), 0) := by
  rw [needF, if_neg (by rw [head_unit l h]; simp), if_neg (by rw [length_unit]; omega), take4_unit, numb_u32b _ (by omega)]
theorem needF_unit (l : List UInt8) (h1 : l ≠ []) (h2 : l.length ≤ 262144) : needF (unitB l) = (4 + (l.length : Int), 0) := by
  have : l.length ≠ 0 := fun h => h1 (List.eq_nil_of_length_eq_zero h)
  rw [needF_any l (by omega), if_neg (by omega), if_neg this]
theorem bodyF_unit (l : List UInt8) (h1 : l ≠ []) (h2 : l.length ≤ 262144) : bodyF (unitB l) = (l, 0) := by
  rw [bodyF, needF_unit l h1 h2, if_neg (by simp), length_unit, drop4_unit, if_neg (by show ¬ ((4 + l.length : Nat) : Int) < 4 + (l.length : Int); omega), if_neg (by show ¬ (4 + (l.length : Int)) < ((4 + l.length : Nat) : Int); omega)]
theorem unpackF_unit (l z : List UInt8) (p : Nat) (hp : p < 256) (hz : z.length = p) (hl : l.length ≤ 200000) :
    unpackF (unitB (UInt8.ofNat p :: (l ++ z))) = if (5 + l.length + p) % 8 ≠ 0 ∨ p < 4 ∨ 64 < p ∨ l = [] then ([], 3) else if 32768 < l.length then ([], 2) else (l, 0) := by
  have hb := bodyF_unit (UInt8.ofNat p :: (l ++ z)) (by simp) (by simp; omega)
  rw [unpackF, hb, if_neg (by simp), length_unit, unpackG]
  have e1 : ((UInt8.ofNat p :: (l ++ z)).headD 0).toNat = p := by simp; omega
  have e2 : (UInt8.ofNat p :: (l ++ z)).length = 1 + l.length + p := by simp; omega
  have e3 : (UInt8.ofNat p :: (l ++ z)).drop 1 = l ++ z := rfl
  simp only [e1, e2, e3]
  have e4 : 1 + l.length + p - 1 - p = l.length := by omega
  rw [e4, List.take_left' rfl]
  have e5 : l = [] ↔ 1 + l.length + p < 2 + p := by
    rw [← List.length_eq_zero_iff]
    omega
  by_cases hc : (5 + l.length + p) % 8 ≠ 0 ∨ p < 4 ∨ 64 < p ∨ l = []
  · rw [if_pos hc, if_pos]
    rcases hc with h | h | h | h
    · exact .inl (by omega)
    · exact .inr (.inl h)
    · exact .inr (.inr (.inl h))
    · exact .inr (.inr (.inr (e5.1 h)))
  · rw [if_neg hc, if_neg]
    intro h
    rcases h with h | h | h | h
    · exact hc (.inl (by omega))
    · exact hc (.inr (.inl h))
    · exact hc (.inr (.inr (.inl h)))
    · exact hc (.inr (.inr (.inr (e5.2 h))))
theorem padN_mod (n : Nat) : (5 + n + padN n) % 8 = 0 := by unfold padN; split <;> omega
theorem unpackF_pack (l : List UInt8) (h0 : l ≠ []) (hl : l.length ≤ 32768) : unpackF (unitB (packB l)) = (l, 0) := by
  obtain ⟨h1, h2⟩ := padN_le l.length
  rw [packB, unpackF_unit l (List.replicate (padN l.length) 0) (padN l.length) (by omega) (by simp) (by omega), if_neg, if_neg (by omega)]
  intro h
  rcases h with h | h | h | h
  · exact h (padN_mod _)
  · omega
  · omega
  · exact h0 h
theorem pack_length (l : List UInt8) : (packB l).length = 1 + l.length + padN l.length := by simp [packB]; omega
end Go.Proofs.Ytejikjpaclnncaa
