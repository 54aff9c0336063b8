/-
  The contracts of frame.Body, frame.Unpack and of the reference's Need, Body, Unpack. Conditions: texts of up to maxLen bytes.
-/
import Derived.Test.YtmgfcjpifkoahaaGreatDoorKFrameNeedG
import Derived.Deep.RegionWith
set_option linter.unusedVariables false
set_option linter.unusedSimpArgs false
namespace Go.Proofs.YtmgfcjpifkoahaaGreatDoor
open Go.RowKit

def bodyF (l : List UInt8) : List UInt8 × Int := if (needF l).2 ≠ 0 then ([], (needF l).2) else if (l.length : Int) < (needF l).1 then ([], 4) else if (needF l).1 < l.length then ([], 3) else (l.drop 4, 0)
theorem needF_ok {l : List UInt8} (h : (needF l).2 = 0) : 4 ≤ l.length ∧ 5 ≤ (needF l).1 ∧ (needF l).1 ≤ 262148 := by
 unfold needF at h ⊢
 split at h
 ·cases h
 ·split at h
  ·cases h
  ·split at h
   ·cases h
   ·split at h
    ·cases h
    ·rename_i h1 h2 h3 h4
     rw [if_neg h1, if_neg h2, if_neg h3, if_neg h4]
     exact ⟨by omega, by show (5 : Int) ≤ 4 + _; omega, by show 4 + _ ≤ (262148 : Int); omega⟩
theorem needF_range (l : List UInt8) : 0 ≤ (needF l).2 ∧ (needF l).2 ≤ 4 := by
 unfold needF
 repeat' refine ite_ok (P := fun p : Int × Int => 0 ≤ p.2 ∧ p.2 ≤ 4) ?_ ?_
 all_goals simp
theorem body_any (s : ByteArray) (w : World) (hs : s.size ≤ 9223372036854775807) : Calls Tryz.prog 44 #[.string s] w fun e w' => ∃ r, e = .returned (.tuple #[.string r, .int .i64 (bodyF s.data.toList).2]) ∧ r.data.toList = (bodyF s.data.toList).1 ∧ Below w.heap.size w w' := by
 have hsz : s.data.toList.length = s.size := rfl
 have hc := need_any s w hs
 have hok := needF_ok (l := s.data.toList)
 have hr := needF_range s.data.toList
 have hbf : bodyF s.data.toList = if (needF s.data.toList).2 ≠ 0 then ([], (needF s.data.toList).2) else if (s.data.toList.length : Int) < (needF s.data.toList).1 then ([], 4) else if (needF s.data.toList).1 < s.data.toList.length then ([], 3) else (s.data.toList.drop 4, 0) := rfl
 generalize needF s.data.toList = p at hc hok hr hbf
 obtain ⟨n, x⟩ := p
 simp only at hc hok hr hbf
 rw [hsz] at hok hbf
 by_cases hx : x = 0
 ·obtain ⟨h1, h2, h3⟩ := hok hx
  subst hx
  rw [if_neg (by simp)] at hbf
  clear hok hr
  have Hc := hide hc
  clear hc
  by_cases ha : (s.size : Int) < n
  ·rw [if_pos ha] at hbf
   have Hb := hide hbf
   clear hbf hsz
   go_enter Tryz.func44, Tryz.ntmps44
   go_wp2_with (go_at_call 105; refine Hc.out.mono ?_; rintro e w1 ⟨rfl, hb1⟩)
   go_ret2
   exact ⟨⟨#[]⟩, by rw [Hb.out]; rfl, by rw [Hb.out], hb1⟩
  rw [if_neg ha] at hbf
  by_cases hb : n < (s.size : Int)
  ·rw [if_pos hb] at hbf
   have Hb := hide hbf
   clear hbf hsz
   go_enter Tryz.func44, Tryz.ntmps44
   go_wp2_with (go_at_call 105; refine Hc.out.mono ?_; rintro e w1 ⟨rfl, hb1⟩)
   go_ret2
   exact ⟨⟨#[]⟩, by rw [Hb.out]; rfl, by rw [Hb.out], hb1⟩
  ·rw [if_neg hb] at hbf
   have Hb := hide hbf
   clear hbf hsz
   go_enter Tryz.func44, Tryz.ntmps44
   go_wp2_with (go_at_call 105; refine Hc.out.mono ?_; rintro e w1 ⟨rfl, hb1⟩)
   go_ret2
   refine ⟨_, by rw [Hb.out]; rfl, ?_, hb1⟩
   rw [Hb.out, Lib.extract_data]
   show (s.data.toList.drop 4).take (s.data.toList.length - 4) = s.data.toList.drop 4
   rw [List.take_of_length_le (by simp)]
 ·have ex : (x != 0) = true := by simp [hx]
  have ex2 : (x == 0) = false := by simp [hx]
  rw [if_pos hx] at hbf
  have Hb := hide hbf
  have Hc := hide hc
  clear hc hok hbf hsz
  go_enter Tryz.func44, Tryz.ntmps44
  go_wp2_with (go_at_call 105; refine Hc.out.mono ?_; rintro e w1 ⟨rfl, hb1⟩)
  go_ret2
  exact ⟨⟨#[]⟩, by rw [Hb.out]; rfl, by rw [Hb.out], hb1⟩
theorem b3 (a b c d : UInt8) : numbF [a, b, c, d] = ((a.toNat * 256 + b.toNat) * 256 + c.toNat) * 256 % 4294967296 + d.toNat := by
 have := a.toNat_lt
 have := b.toNat_lt
 have := c.toNat_lt
 unfold numbF
 simp only [List.foldl_cons, List.foldl_nil]
 omega
theorem take4_list {s : ByteArray} (h : 4 ≤ s.size) : s.data.toList.take 4 = [s[0], s[1], s[2], s[3]] := by
 have hl : 4 ≤ s.data.toList.length := h
 rw [List.take_succ_eq_append_getElem (by omega), List.take_succ_eq_append_getElem (by omega), List.take_succ_eq_append_getElem (by omega), List.take_succ_eq_append_getElem (by omega)]
 rfl
theorem rneed_any (s : ByteArray) (w : World) (hs : s.size ≤ 9223372036854775807) : Calls Tryz.prog 108 #[.string s] w fun e w' => e = .returned (.tuple #[.int .i64 (needF s.data.toList).1, .int .i64 (needF s.data.toList).2]) ∧ Below w.heap.size w w' := by
 have hsz : s.data.toList.length = s.size := rfl
 by_cases h0 : s.size = 0
 ·have hn0 : s.data.toList = [] := List.eq_nil_of_length_eq_zero h0
  have hf : needF s.data.toList = (0, 4) := by rw [hn0]; rfl
  have Hf := hide hf
  have hz : ¬ 0 < s.size := by omega
  clear hf hn0 hsz h0
  go_enter Tryz.func108, Tryz.ntmps108
  go_wp2
  go_ret2
  exact ⟨by rw [Hf.out]; rfl, Below.refl _ _⟩
 have hpos : 0 < s.size := by omega
 have hn0 : s.data.toList ≠ [] := fun h => by rw [h] at hsz; simp at hsz; omega
 have hhd : s.data.toList.head? = some s[0] := by
  rw [List.head?_eq_getElem?, List.getElem?_eq_getElem (by rw [hsz]; exact hpos)]
  rfl
 by_cases hz : s[0] = 0
 ·by_cases h4 : s.size < 4
  ·have hf : needF s.data.toList = (0, 4) := by rw [needF, if_neg (by rw [hhd, hz]; simp), if_pos (by rw [hsz]; exact h4)]
   have Hf := hide hf
   clear hf hhd h0
   go_enter Tryz.func108, Tryz.ntmps108
   go_wp2
   go_ret2
   exact ⟨by rw [Hf.out]; rfl, Below.refl _ _⟩
  ·have hv : numbF (s.data.toList.take 4) = s[1].toNat * 65536 + s[2].toNat * 256 + s[3].toNat := by
    have h1 := s[1].toNat_lt
    have h2 := s[2].toNat_lt
    rw [take4_list (by omega), b3, hz]
    simp
    omega
   have hf : needF s.data.toList = if 262144 < s[1].toNat * 65536 + s[2].toNat * 256 + s[3].toNat then ((0, 2) : Int × Int) else if s[1].toNat * 65536 + s[2].toNat * 256 + s[3].toNat = 0 then (0, 3) else ((4 : Int) + ((s[1].toNat * 65536 + s[2].toNat * 256 + s[3].toNat : Nat) : Int), 0) := by
    rw [needF, if_neg (by rw [hhd, hz]; simp), if_neg (by rw [hsz]; exact h4), hv]
   have Hf := hide hf
   have b1 := s[1].toNat_lt
   have b2 := s[2].toNat_lt
   have b3 := s[3].toNat_lt
   clear hf hhd h0 hv
   have i1 : (1 : Int) < (s.size : Int) := by omega
   have i2 : (2 : Int) < (s.size : Int) := by omega
   have i3 : (3 : Int) < (s.size : Int) := by omega
   have k1 : IntKind.i64.wrap ((s[1].toNat : Int) * 65536) = (s[1].toNat : Int) * 65536 := IntWalk.i64_in _ ⟨by omega, by omega⟩
   have k2 : IntKind.i64.wrap ((s[2].toNat : Int) * 256) = (s[2].toNat : Int) * 256 := IntWalk.i64_in _ ⟨by omega, by omega⟩
   have k3 : IntKind.i64.wrap ((s[1].toNat : Int) * 65536 + (s[2].toNat : Int) * 256) = (s[1].toNat : Int) * 65536 + (s[2].toNat : Int) * 256 := IntWalk.i64_in _ ⟨by omega, by omega⟩
   have k4 : IntKind.i64.wrap ((s[1].toNat : Int) * 65536 + (s[2].toNat : Int) * 256 + (s[3].toNat : Int)) = (s[1].toNat : Int) * 65536 + (s[2].toNat : Int) * 256 + (s[3].toNat : Int) := IntWalk.i64_in _ ⟨by omega, by omega⟩
   go_enter Tryz.func108, Tryz.ntmps108
   go_wp2
   go_quiet (fail)
   clear k1 k2 k3 k4
   go_wp2
   ·go_ret2
    exact ⟨by rw [Hf.out, if_pos (by omega)]; rfl, below_drewN (Below.refl _ _) _⟩
   ·have e : (s[1].toNat : Int) * 65536 + (s[2].toNat : Int) * 256 + (s[3].toNat : Int) = 0 := eq_of_beq (by assumption)
    go_ret2
    exact ⟨by rw [Hf.out, if_neg (by omega), if_pos (by omega)]; rfl, below_drewN (Below.refl _ _) _⟩
   ·have e : ¬ (s[1].toNat : Int) * 65536 + (s[2].toNat : Int) * 256 + (s[3].toNat : Int) = 0 := ne_of_beq_false (by assumption)
    go_ret2
    exact ⟨by rw [Hf.out, if_neg (by omega), if_neg (by omega)]; rfl, below_drewN (Below.refl _ _) _⟩
 ·have hf : needF s.data.toList = (0, 2) := by rw [needF, if_pos ⟨hn0, by rw [hhd]; simpa using hz⟩]
  have ez : 0 < s[0].toNat := by
   rcases Nat.eq_zero_or_pos s[0].toNat with h | h
   ·exact absurd (UInt8.toNat_inj.1 (by simpa using h)) hz
   ·exact h
  have Hf := hide hf
  clear hf h0 hhd
  go_enter Tryz.func108, Tryz.ntmps108
  go_wp2
  go_ret2
  exact ⟨by rw [Hf.out]; rfl, Below.refl _ _⟩
theorem rBody_any (s : ByteArray) (w : World) (hs : s.size ≤ 9223372036854775807) : Calls Tryz.prog 46 #[.string s] w fun e w' => ∃ r, e = .returned (.tuple #[.string r, .int .i64 (bodyF s.data.toList).2]) ∧ r.data.toList = (bodyF s.data.toList).1 ∧ Below w.heap.size w w' := by
 have hsz : s.data.toList.length = s.size := rfl
 have hc := rneed_any s w hs
 have hok := needF_ok (l := s.data.toList)
 have hr := needF_range s.data.toList
 have hbf : bodyF s.data.toList = if (needF s.data.toList).2 ≠ 0 then ([], (needF s.data.toList).2) else if (s.data.toList.length : Int) < (needF s.data.toList).1 then ([], 4) else if (needF s.data.toList).1 < s.data.toList.length then ([], 3) else (s.data.toList.drop 4, 0) := rfl
 generalize needF s.data.toList = p at hc hok hr hbf
 obtain ⟨n, x⟩ := p
 simp only at hc hok hr hbf
 rw [hsz] at hok hbf
 by_cases hx : x = 0
 ·obtain ⟨h1, h2, h3⟩ := hok hx
  subst hx
  rw [if_neg (by simp)] at hbf
  clear hok hr
  have Hc := hide hc
  clear hc
  by_cases ha : (s.size : Int) < n
  ·rw [if_pos ha] at hbf
   have Hb := hide hbf
   clear hbf hsz
   go_enter Tryz.func46, Tryz.ntmps46
   go_wp2_with (go_at_call 108; refine Hc.out.mono ?_; rintro e w1 ⟨rfl, hb1⟩)
   go_ret2
   exact ⟨⟨#[]⟩, by rw [Hb.out]; rfl, by rw [Hb.out], hb1⟩
  rw [if_neg ha] at hbf
  by_cases hb : n < (s.size : Int)
  ·rw [if_pos hb] at hbf
   have Hb := hide hbf
   clear hbf hsz
   go_enter Tryz.func46, Tryz.ntmps46
   go_wp2_with (go_at_call 108; refine Hc.out.mono ?_; rintro e w1 ⟨rfl, hb1⟩)
   go_ret2
   exact ⟨⟨#[]⟩, by rw [Hb.out]; rfl, by rw [Hb.out], hb1⟩
  ·rw [if_neg hb] at hbf
   have Hb := hide hbf
   clear hbf hsz
   go_enter Tryz.func46, Tryz.ntmps46
   go_wp2_with (go_at_call 108; refine Hc.out.mono ?_; rintro e w1 ⟨rfl, hb1⟩)
   go_ret2
   refine ⟨_, by rw [Hb.out]; rfl, ?_, hb1⟩
   rw [Hb.out, Lib.extract_data]
   show (s.data.toList.drop 4).take (s.data.toList.length - 4) = s.data.toList.drop 4
   rw [List.take_of_length_le (by simp)]
 ·have ex : (x != 0) = true := by simp [hx]
  have ex2 : (x == 0) = false := by simp [hx]
  rw [if_pos hx] at hbf
  have Hb := hide hbf
  have Hc := hide hc
  clear hc hok hbf hsz
  go_enter Tryz.func46, Tryz.ntmps46
  go_wp2_with (go_at_call 108; refine Hc.out.mono ?_; rintro e w1 ⟨rfl, hb1⟩)
  go_ret2
  exact ⟨⟨#[]⟩, by rw [Hb.out]; rfl, by rw [Hb.out], hb1⟩
end Go.Proofs.YtmgfcjpifkoahaaGreatDoor
