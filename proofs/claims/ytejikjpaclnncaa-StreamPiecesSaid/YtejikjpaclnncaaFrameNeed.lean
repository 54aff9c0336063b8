/-
  The contracts of frame.Need, Body and Unpack. Conditions: texts of up to maxLen bytes.
-/
import Derived.Test.YtejikjpaclnncaaFramePack
namespace Go.Proofs.Ytejikjpaclnncaa
open Go.RowKit

/-- How many bytes the unit has that bytes begin with. -/
def needF (l : List UInt8) : Int × Int :=
  if l ≠ [] ∧ l.head? ≠ some 0 then (0, 2) else if l.length < 4 then (0, 4) else if 262144 < numb (l.take 4) then (0, 2) else if numb (l.take 4) = 0 then (0, 3) else (4 + (numb (l.take 4) : Int), 0)
theorem take4 {s : ByteArray} (h : 4 ≤ s.size) : (s.extract 0 4).data.toList = s.data.toList.take 4 ∧ (s.extract 0 4).size = 4 := by
  refine ⟨by rw [Lib.extract_data]; simp, ?_⟩
  show (s.extract 0 4).data.toList.length = 4
  rw [Lib.extract_data, List.drop_zero, List.length_take]
  exact Nat.min_eq_left h
/-- Need, where four bytes are there and the first one is 0. -/
theorem need_4 (s : ByteArray) (w : World) (hs : s.size ≤ 9223372036854775807) (h4 : 4 ≤ s.size) (e0 : s.toList.isEmpty = false) (hz : s[0] = 0) (v : Nat) (Hv : Hid (numb (s.data.toList.take 4) = v)) :
    Calls Try.prog 15 #[.string s] w fun e w' => e = .returned (.tuple #[.int .i64 (if 262144 < v then 0 else if v = 0 then 0 else 4 + (v : Int)), .int .i64 (if 262144 < v then 2 else if v = 0 then 3 else 0)]) ∧ Below w.heap.size w w' := by
  have hv : v < 4294967296 := by rw [← Hv.out]; exact numb_lt _
  obtain ⟨h1, h2⟩ := take4 h4
  have H1 := hide h1
  have H2 := hide h2
  clear h1 h2
  by_cases hb : 262144 < v
  · go_enter Try.func15, Try.ntmps15
    go_wp2_with fail
    generalize s.extract 0 4 = t at H1 H2 ⊢
    refine (new_any _ _).mono ?_
    rintro e w1 ⟨rfl, hr, hb1⟩
    go_wp2_with fail
    refine (u32r_any hr H2.out).mono ?_
    rintro e w2 ⟨rfl, ho⟩
    rw [H1.out, Hv.out]
    have hb2 := below_only hb1 ho (Nat.le_refl _) hb1.size
    go_wp2
    go_ret2
    exact ⟨rfl, hb2⟩
  by_cases hb0 : v = 0
  · subst hb0
    go_enter Try.func15, Try.ntmps15
    go_wp2_with fail
    generalize s.extract 0 4 = t at H1 H2 ⊢
    refine (new_any _ _).mono ?_
    rintro e w1 ⟨rfl, hr, hb1⟩
    go_wp2_with fail
    refine (u32r_any hr H2.out).mono ?_
    rintro e w2 ⟨rfl, ho⟩
    rw [H1.out, Hv.out]
    have hb2 := below_only hb1 ho (Nat.le_refl _) hb1.size
    go_wp2
    go_ret2
    exact ⟨rfl, hb2⟩
  · go_enter Try.func15, Try.ntmps15
    go_wp2_with fail
    generalize s.extract 0 4 = t at H1 H2 ⊢
    refine (new_any _ _).mono ?_
    rintro e w1 ⟨rfl, hr, hb1⟩
    go_wp2_with fail
    refine (u32r_any hr H2.out).mono ?_
    rintro e w2 ⟨rfl, ho⟩
    rw [H1.out, Hv.out]
    have hb2 := below_only hb1 ho (Nat.le_refl _) hb1.size
    go_wp2
    go_ret2
    exact ⟨rfl, hb2⟩
theorem need_any (s : ByteArray) (w : World) (hs : s.size ≤ 9223372036854775807) : Calls Try.prog 15 #[.string s] w fun e w' => e = .returned (.tuple #[.int .i64 (needF s.data.toList).1, .int .i64 (needF s.data.toList).2]) ∧ Below w.heap.size w w' := by
  have hsz : s.data.toList.length = s.size := rfl
  by_cases h0 : s = ⟨#[]⟩
  · subst h0
    clear hs hsz
    go_enter Try.func15, Try.ntmps15
    go_wp2
    go_ret2
    exact ⟨rfl, Below.refl _ _⟩
  have hn0 : s.data.toList ≠ [] := fun h => h0 (bytes_ext (by rw [ByteArray.toList_eq, h, toList_nil]))
  have e0 := bytes_some h0
  have hpos : 0 < s.size := by rw [← hsz]; exact List.length_pos_iff.2 hn0
  have hhd : s.data.toList.head? = some s[0] := by
    rw [List.head?_eq_getElem?, List.getElem?_eq_getElem (by rw [hsz]; exact hpos)]
    rfl
  by_cases hz : s[0] = 0
  · by_cases h4 : s.size < 4
    · have hf : needF s.data.toList = (0, 4) := by rw [needF, if_neg (by rw [hhd, hz]; simp), if_pos (by rw [hsz]; exact h4)]
      have Hf := hide hf
      clear hf h0 hhd
      go_enter Try.func15, Try.ntmps15
      go_wp2
      go_ret2
      exact ⟨by rw [Hf.out]; rfl, Below.refl _ _⟩
    · have h := need_4 s w hs (by omega) e0 hz _ rfl
      have hf : needF s.data.toList = (if 262144 < numb (s.data.toList.take 4) then 0 else if numb (s.data.toList.take 4) = 0 then 0 else 4 + (numb (s.data.toList.take 4) : Int), if 262144 < numb (s.data.toList.take 4) then 2 else if numb (s.data.toList.take 4) = 0 then 3 else 0) := by
        rw [needF, if_neg (by rw [hhd, hz]; simp), if_neg (by rw [hsz]; exact h4)]
        split
        · rfl
        · split <;> rfl
      rw [hf]
      exact h
  · have hf : needF s.data.toList = (0, 2) := by rw [needF, if_pos ⟨hn0, by rw [hhd]; simpa using hz⟩]
    have ez : ((s[0].toNat : Int) != 0) = true := by
      rw [bne_iff_ne]
      intro h
      exact hz (UInt8.toNat_inj.1 (by simpa using h))
    have Hf := hide hf
    clear hf h0 hhd
    go_enter Try.func15, Try.ntmps15
    go_wp2
    go_ret2
    exact ⟨by rw [Hf.out]; rfl, Below.refl _ _⟩
end Go.Proofs.Ytejikjpaclnncaa
