/-
  The contracts of frame.Unpack and of the reference's Unpack. Conditions: texts of up to maxLen bytes.
-/
import Derived.Test.YtejikjpaclnncaaFrameBody
namespace Go.Proofs.Ytejikjpaclnncaa
open Go.RowKit

def unpackG (n : Nat) (b : List UInt8) : List UInt8 × Int :=
  if n % 8 ≠ 0 ∨ (b.headD 0).toNat < 4 ∨ 64 < (b.headD 0).toNat ∨ b.length < 2 + (b.headD 0).toNat then ([], 3) else if 32768 < b.length - 1 - (b.headD 0).toNat then ([], 2) else ((b.drop 1).take (b.length - 1 - (b.headD 0).toNat), 0)
def unpackF (l : List UInt8) : List UInt8 × Int := if (bodyF l).2 ≠ 0 then ([], (bodyF l).2) else unpackG l.length (bodyF l).1
theorem bodyF_ok {l : List UInt8} (h : (bodyF l).2 = 0) : (bodyF l).1 = l.drop 4 ∧ 5 ≤ l.length ∧ l.length ≤ 262148 := by
  unfold bodyF at h ⊢
  split at h
  · rename_i h1
    exact absurd h h1
  · rename_i h1
    have h0 : (needF l).2 = 0 := by simpa using h1
    obtain ⟨g1, g2, g3⟩ := needF_ok h0
    split at h
    · cases h
    · split at h
      · cases h
      · rename_i h2 h3
        rw [if_neg h1, if_neg h2, if_neg h3]
        exact ⟨rfl, by omega, by omega⟩
set_option maxHeartbeats 1000000 in
theorem unpack_any (s : ByteArray) (w : World) (hs : s.size ≤ 9223372036854775807) : Calls Try.prog 13 #[.string s] w fun e w' => ∃ r, e = .returned (.tuple #[.string r, .int .i64 (unpackF s.data.toList).2]) ∧ r.data.toList = (unpackF s.data.toList).1 ∧ Below w.heap.size w w' := by
  have hsz : s.data.toList.length = s.size := rfl
  have hc := body_any s w hs
  have hok := bodyF_ok (l := s.data.toList)
  have huf : unpackF s.data.toList = if (bodyF s.data.toList).2 ≠ 0 then ([], (bodyF s.data.toList).2) else unpackG s.data.toList.length (bodyF s.data.toList).1 := rfl
  generalize bodyF s.data.toList = p at hc hok huf
  obtain ⟨b, x⟩ := p
  simp only at hc hok huf
  by_cases hx : x = 0
  · obtain ⟨h1, h2, h3⟩ := hok hx
    subst hx
    rw [if_neg (by simp), hsz] at huf
    have hbl : b.length = s.size - 4 := by rw [h1, List.length_drop, hsz]
    rw [hsz] at h2 h3
    have Hc := hide hc
    have Hu := hide huf
    have Hbl := hide hbl
    clear hc huf hok h1 hbl
    go_enter Try.func13, Try.ntmps13
    go_wp2_with fail
    refine Hc.out.mono ?_
    rintro e w1 ⟨r, rfl, hr, hb1⟩
    have hrs : r.data.toList.length = r.size := rfl
    have hrl : r.size = s.size - 4 := by rw [← hrs, hr]; exact Hbl.out
    have hpos : 0 < r.size := by omega
    have hsr : s.size ≤ r.size + 4 ∧ r.size + 4 ≤ s.size := by omega
    obtain ⟨hs1, hs2⟩ := hsr
    have hhd : b.headD 0 = r[0] := by
      rw [← hr, List.headD_eq_head?_getD, List.head?_eq_getElem?, List.getElem?_eq_getElem (by rw [hrs]; exact hpos)]
      rfl
    have Hg := hide (show unpackG s.size b = if s.size % 8 ≠ 0 ∨ r[0].toNat < 4 ∨ 64 < r[0].toNat ∨ r.size < 2 + r[0].toNat then (([], 3) : List UInt8 × Int) else if 32768 < r.size - 1 - r[0].toNat then ([], 2) else ((r.data.toList.drop 1).take (r.size - 1 - r[0].toNat), 0) by
      rw [unpackG, hhd, ← hr, hrs])
    have hp := r[0].toNat_lt
    clear hr hrs hrl hhd Hbl hsz
    go_wp2
    all_goals go_ret2
    all_goals first
      | exact ⟨_, by rw [Hu.out, Hg.out, if_pos (by omega)]; rfl, by rw [Hu.out, Hg.out, if_pos (by omega)], hb1⟩
      | exact ⟨_, by rw [Hu.out, Hg.out, if_neg (by omega), if_pos (by omega)]; rfl, by rw [Hu.out, Hg.out, if_neg (by omega), if_pos (by omega)], hb1⟩
      | (refine ⟨_, by rw [Hu.out, Hg.out, if_neg (by omega), if_neg (by omega)]; rfl, ?_, hb1⟩
         rw [Hu.out, Hg.out, if_neg (by omega), if_neg (by omega), Lib.extract_data]
         show List.take _ _ = List.take _ _
         congr 1
         omega)
  · have ex : (x != 0) = true := by simp [hx]
    have ex2 : (x == 0) = false := by simp [hx]
    rw [if_pos hx] at huf
    have Hu := hide huf
    have Hc := hide hc
    clear hc hok huf hsz
    go_enter Try.func13, Try.ntmps13
    go_wp2_with (go_at_call 14; refine Hc.out.mono ?_; rintro e w1 ⟨r, rfl, hr, hb1⟩)
    go_ret2
    exact ⟨⟨#[]⟩, by rw [Hu.out]; rfl, by rw [Hu.out], hb1⟩
set_option maxHeartbeats 1000000 in
theorem rUnpack_any (s : ByteArray) (w : World) (hs : s.size ≤ 9223372036854775807) : Calls Try.prog 20 #[.string s] w fun e w' => ∃ r, e = .returned (.tuple #[.string r, .int .i64 (unpackF s.data.toList).2]) ∧ r.data.toList = (unpackF s.data.toList).1 ∧ Below w.heap.size w w' := by
  have hsz : s.data.toList.length = s.size := rfl
  have hc := rBody_any s w hs
  have hok := bodyF_ok (l := s.data.toList)
  have huf : unpackF s.data.toList = if (bodyF s.data.toList).2 ≠ 0 then ([], (bodyF s.data.toList).2) else unpackG s.data.toList.length (bodyF s.data.toList).1 := rfl
  generalize bodyF s.data.toList = p at hc hok huf
  obtain ⟨b, x⟩ := p
  simp only at hc hok huf
  by_cases hx : x = 0
  · obtain ⟨h1, h2, h3⟩ := hok hx
    subst hx
    rw [if_neg (by simp), hsz] at huf
    have hbl : b.length = s.size - 4 := by rw [h1, List.length_drop, hsz]
    rw [hsz] at h2 h3
    have Hc := hide hc
    have Hu := hide huf
    have Hbl := hide hbl
    clear hc huf hok h1 hbl
    go_enter Try.func20, Try.ntmps20
    go_wp2_with fail
    refine Hc.out.mono ?_
    rintro e w1 ⟨r, rfl, hr, hb1⟩
    have hrs : r.data.toList.length = r.size := rfl
    have hrl : r.size = s.size - 4 := by rw [← hrs, hr]; exact Hbl.out
    have hpos : 0 < r.size := by omega
    have hsr : s.size ≤ r.size + 4 ∧ r.size + 4 ≤ s.size := by omega
    obtain ⟨hs1, hs2⟩ := hsr
    have hhd : b.headD 0 = r[0] := by
      rw [← hr, List.headD_eq_head?_getD, List.head?_eq_getElem?, List.getElem?_eq_getElem (by rw [hrs]; exact hpos)]
      rfl
    have Hg := hide (show unpackG s.size b = if s.size % 8 ≠ 0 ∨ r[0].toNat < 4 ∨ 64 < r[0].toNat ∨ r.size < 2 + r[0].toNat then (([], 3) : List UInt8 × Int) else if 32768 < r.size - 1 - r[0].toNat then ([], 2) else ((r.data.toList.drop 1).take (r.size - 1 - r[0].toNat), 0) by
      rw [unpackG, hhd, ← hr, hrs])
    have hp := r[0].toNat_lt
    clear hr hrs hrl hhd Hbl hsz
    go_wp2
    all_goals go_ret2
    all_goals first
      | exact ⟨_, by rw [Hu.out, Hg.out, if_pos (by omega)]; rfl, by rw [Hu.out, Hg.out, if_pos (by omega)], hb1⟩
      | exact ⟨_, by rw [Hu.out, Hg.out, if_neg (by omega), if_pos (by omega)]; rfl, by rw [Hu.out, Hg.out, if_neg (by omega), if_pos (by omega)], hb1⟩
      | (refine ⟨_, by rw [Hu.out, Hg.out, if_neg (by omega), if_neg (by omega)]; rfl, ?_, hb1⟩
         rw [Hu.out, Hg.out, if_neg (by omega), if_neg (by omega), Lib.extract_data]
         show List.take _ _ = List.take _ _
         congr 1
         omega)
  · have ex : (x != 0) = true := by simp [hx]
    have ex2 : (x == 0) = false := by simp [hx]
    rw [if_pos hx] at huf
    have Hu := hide huf
    have Hc := hide hc
    clear hc hok huf hsz
    go_enter Try.func20, Try.ntmps20
    go_wp2_with (go_at_call 19; refine Hc.out.mono ?_; rintro e w1 ⟨r, rfl, hr, hb1⟩)
    go_ret2
    exact ⟨⟨#[]⟩, by rw [Hu.out]; rfl, by rw [Hu.out], hb1⟩
end Go.Proofs.Ytejikjpaclnncaa
