/-
  Several of my texts in one: Wire, WireTake, Frame, FrameNeed.
-/
import Derived.Test.YtmgfcjpifkoahaaGreatDoorKBaseG
import Derived.Lib.BufferWrite
import Derived.Lib.SlBuf
import Derived.Deep.OwnRows
set_option linter.unusedVariables false
set_option linter.unusedSimpArgs false
namespace Go.Proofs.YtmgfcjpifkoahaaGreatDoor
open Go.RowKit

def u32b (n : Nat) : List UInt8 := [UInt8.ofNat (n / 16777216), UInt8.ofNat (n / 65536), UInt8.ofNat (n / 256), UInt8.ofNat n]
theorem ofNat_modF (n : Nat) : UInt8.ofNat (n % 256) = UInt8.ofNat n := by
 apply UInt8.toNat_inj.1
 simp
theorem u32_any (n : Int) (w : World) (h0 : 0 ≤ n) (h1 : n < 4294967296) : Calls Tryz.prog 19 #[.int .u32 n] w fun e w' => ∃ r, e = .returned (.string r) ∧ r.data.toList = u32b n.toNat ∧ r.size ≤ 4 ∧ Below w.heap.size w w' := by
 go_enter Tryz.func19, Tryz.ntmps19
 go_wp2
 go_ret
 refine ⟨_, rfl, ?_, by rw [strOfNums_size]; simp, by exact bel_by⟩
 rw [strOfNums_data, u32b]
 have e1 : (n / 16777216).toNat = n.toNat / 16777216 := by omega
 have e2 : (n / 65536 % 256).toNat = n.toNat / 65536 % 256 := by omega
 have e3 : (n / 256 % 256).toNat = n.toNat / 256 % 256 := by omega
 have e4 : (n % 256).toNat = n.toNat % 256 := by omega
 simp only [List.map_cons, List.map_nil, e1, e2, e3, e4, ofNat_modF]
def numbF (l : List UInt8) : Nat := l.foldl (fun a b => a * 256 % 4294967296 + b.toNat) 0
theorem numbF_snoc (l : List UInt8) (b : UInt8) : numbF (l ++ [b]) = numbF l * 256 % 4294967296 + b.toNat := by
 unfold numbF
 rw [List.foldl_append]
 rfl
theorem numbF_lt (l : List UInt8) : numbF l < 4294967296 := by
 have h : ∀ (l : List UInt8) (a : Nat), a < 4294967296 → l.foldl (fun a b => a * 256 % 4294967296 + b.toNat) a < 4294967296 := by
  intro l
  induction l with
  | nil => exact fun a h => h
  | cons b l ih =>
   intro a _
   refine ih _ ?_
   have := b.toNat_lt
   show a * 256 % 4294967296 + b.toNat < 4294967296
   omega
 exact h l 0 (by omega)
theorem or_lowF (y b : Nat) (hb : b < 256) : bits .or .u32 ((y : Int) * 256 % 4294967296) ((b : Int) % 4294967296) = ((y * 256 % 4294967296 + b : Nat) : Int) := by
 have e1 : ((y : Int) * 256 % 4294967296) = ((y * 256 % 4294967296 : Nat) : Int) := by omega
 have e2 : ((b : Int) % 4294967296) = ((b : Nat) : Int) := by omega
 rw [e1, e2, u32_or_nat _ _ (by omega) (by omega)]
 have e3 : y * 256 % 4294967296 = (y % 16777216) <<< 8 := by rw [Nat.shiftLeft_eq]; omega
 rw [e3, Nat.shiftLeft_add_eq_or_of_lt (by omega)]
theorem numberF_any (s : ByteArray) (w : World) (hs : s.size ≤ 9223372036854775807) : Calls Tryz.prog 177 #[.string s] w fun e w' => e = .returned (.int .u32 (numbF s.data.toList)) ∧ w = w' := by
 go_enter Tryz.func177, Tryz.ntmps177
 go_wp2
 go_loop [3, 7] (fun v i => ∃ k y : Nat, y < 4294967296 ∧ k ≤ s.size ∧ i = .int .i64 k ∧ v = .int .u32 y ∧ Hid (y = numbF (s.data.toList.take k))) (fun _ i => s.size - (intOf i).toNat)
 case atStart => exact ⟨0, 0, by omega, Nat.zero_le _, rfl, rfl, hide rfl⟩
 case round =>
  obtain ⟨k, y, hy, hk, rfl, rfl, H⟩ := hrel
  by_cases hlt : k < s.size
  ·have Hb := hide (or_lowF y s[k].toNat s[k].toNat_lt)
   go_wp2
   rw [Hb.out]
   go_round
   case rel =>
    refine ⟨k + 1, _, ?_, hlt, by go_num, rfl, hide ?_⟩
    ·have := s[k].toNat_lt
     omega
    ·rw [H.out]
     have hl : k < s.data.toList.length := hlt
     rw [List.take_succ_eq_append_getElem hl, numbF_snoc]
     rfl
   case measure => simp [intOf]; omega
  ·go_wp2
   go_ret
   exact ⟨ret_int (by rw [H.out, List.take_of_length_le (by show s.size ≤ k; omega)]), rfl⟩
def RdF (w : World) (g : Nat) (s : ByteArray) (p : Nat) (e : Int) : Prop := Blk w g 184 #[.string s, .int .i64 p, .int .i64 e]
theorem newF_any (s : ByteArray) (w : World) : Calls Tryz.prog 110 #[.string s] w fun e w' => e = .returned (.pointer (some ⟨w.heap.size, 0, none⟩)) ∧ RdF w' w.heap.size s 0 0 ∧ Below w.heap.size w w' := by
 go_enter Tryz.func110, Tryz.ntmps110
 go_wp2
 go_ret
 exact ⟨rfl, Blk.new _ _ _, by exact bel_by⟩
theorem err_any {s : ByteArray} {g p : Nat} {x : Int} {w : World} (h : RdF w g s p x) : Calls Tryz.prog 149 #[.pointer (some ⟨g, 0, none⟩)] w fun e w' => e = .returned (.int .i64 x) ∧ w = w' := by
 have h0 : w.cell? ⟨g, 2, none⟩ = some (.int .i64 x) := Blk.cell h 2
 go_enter Tryz.func149, Tryz.ntmps149
 go_wp2
 go_ret
 exact ⟨rfl, rfl⟩
theorem left_any {s : ByteArray} {g p : Nat} {x : Int} {w : World} (h : RdF w g s p x) (hp : p ≤ s.size) (hs : s.size ≤ 9223372036854775807) : Calls Tryz.prog 151 #[.pointer (some ⟨g, 0, none⟩)] w fun e w' => e = .returned (.int .i64 ((s.size : Int) - p)) ∧ ∃ n, w' = w.drewN n := by
 have h0 : w.cell? ⟨g, 0, none⟩ = some (.string s) := Blk.cell h 0
 have h1 : w.cell? ⟨g, 1, none⟩ = some (.int .i64 p) := Blk.cell h 1
 go_enter Tryz.func151, Tryz.ntmps151
 go_wp2
 go_quiet (fail)
 go_wp2
 go_ret
 exact ⟨rfl, _, rfl⟩
theorem all_any (s : ByteArray) (w : World) : Calls Tryz.prog 179 #[.string s] w fun e w' => e = .returned (.bool true) ∧ w = w' := by
 go_enter Tryz.func179, Tryz.ntmps179
 go_wp2
 go_ret
 exact ⟨rfl, rfl⟩
end Go.Proofs.YtmgfcjpifkoahaaGreatDoor
namespace Go.Proofs.YtmgfcjpifkoahaaGreatDoor
open Go.RowKit

theorem take_ok {s : ByteArray} {g p k n : Nat} {w : World} (h : RdF w g s p 0) (hs : s.size ≤ 9223372036854775807) (hfit : p + k + n ≤ s.size) :
  Calls Tryz.prog 178 #[.pointer (some ⟨g, 0, none⟩), .int .i64 k, .int .i64 n, .func (.func 179) #[] #[]] w fun e w' => e = .returned (.string (s.extract (p + k) (p + k + n))) ∧ RdF w' g s (p + k + n) 0 ∧ w.grownBy w' (some g) := by
 have h0 : w.cell? ⟨g, 0, none⟩ = some (.string s) := Blk.cell h 0
 have h1 : w.cell? ⟨g, 1, none⟩ = some (.int .i64 p) := Blk.cell h 1
 have f1 : w.frozen? ⟨g, 1, none⟩ = false := Blk.frozen h 1
 go_enter Tryz.func178, Tryz.ntmps178
 go_wp2_with fail
 refine (err_any h).mono ?_
 rintro e w1 ⟨rfl, rfl⟩
 go_wp2
 go_quiet ((go_at_call 151; exact Calls.quiet_of (left_any (p := p) (x := 0) h (by omega) hs)))
 go_wp2
 go_quiet (fail)
 go_wp2_with (go_at_call 179; refine (all_any _ _).mono ?_; rintro e w2 ⟨rfl, rfl⟩)
 go_ret
 refine ⟨rfl, ?_, only_setCell (only_drewN (only_refl _ _) _) (.inl rfl) _⟩
 have e : ((p + k + n : Nat) : Int) = (p : Int) + ((k : Int) + n) := by omega
 rw [RdF, e]
 exact Blk.set_ (Blk.drewN h _) 1 _
theorem u32r_any {s : ByteArray} {g : Nat} {w : World} (h : RdF w g s 0 0) (hs : s.size = 4) : Calls Tryz.prog 139 #[.pointer (some ⟨g, 0, none⟩)] w fun e w' => e = .returned (.int .u32 (numbF s.data.toList)) ∧ w.grownBy w' (some g) := by
 go_enter Tryz.func139, Tryz.ntmps139
 go_wp2_with (first
  | (go_at_call 178; refine (take_ok (p := 0) (k := 0) (n := 4) h (by omega) (by omega)).mono ?_; rintro e w2 ⟨rfl, hr, ho⟩)
  | (go_at_call 177; refine (numberF_any _ _ ?_).mono ?_; (simp; omega); rintro e w3 ⟨rfl, rfl⟩))
 go_ret
 refine ⟨?_, ho⟩
 have e : s.data.toList.take 4 = s.data.toList := List.take_of_length_le (by show s.size ≤ 4; omega)
 rw [e]
 rfl
end Go.Proofs.YtmgfcjpifkoahaaGreatDoor
namespace Go.Proofs.YtmgfcjpifkoahaaGreatDoor
open Go.RowKit

def unitB (l : List UInt8) : List UInt8 := u32b l.length ++ l
def unitF (l : List UInt8) : List UInt8 × Int := if l = [] then ([], 4) else if 262144 < l.length then ([], 2) else (unitB l, 0)
theorem unit_any (s : ByteArray) (w : World) (hs : s.size ≤ 9223372036854775807) : Calls Tryz.prog 138 #[.string s] w fun e w' => ∃ r, e = .returned (.tuple #[.string r, .int .i64 (unitF s.data.toList).2]) ∧ r.data.toList = (unitF s.data.toList).1 ∧ Below w.heap.size w w' := by
 have hsz : s.data.toList.length = s.size := rfl
 by_cases h0 : s = ⟨#[]⟩
 ·subst h0
  go_enter Tryz.func138, Tryz.ntmps138
  go_wp2
  go_ret2
  exact ⟨⟨#[]⟩, rfl, rfl, Below.refl _ _⟩
 have hn0 : s.data.toList ≠ [] := fun h => h0 (bytes_ext (by rw [ByteArray.toList_eq, h, toList_nil]))
 have e0 := bytes_some h0
 have hpos : 0 < s.size := by rw [← hsz]; exact List.length_pos_iff.2 hn0
 by_cases h1 : 262144 < s.size
 ·have hf : unitF s.data.toList = ([], 2) := by rw [unitF, if_neg hn0, if_pos (by rw [hsz]; exact h1)]
  have Hf := hide hf
  clear hf h0
  go_enter Tryz.func138, Tryz.ntmps138
  go_wp2
  go_ret2
  exact ⟨⟨#[]⟩, by rw [Hf.out]; rfl, by rw [Hf.out], Below.refl _ _⟩
 ·have hf : unitF s.data.toList = (unitB s.data.toList, 0) := by rw [unitF, if_neg hn0, if_neg (by rw [hsz]; exact h1)]
  have Hf := hide hf
  clear hf h0
  go_enter Tryz.func138, Tryz.ntmps138
  go_wp2_with fail
  refine (u32_any _ _ (by omega) (by omega)).mono ?_
  rintro e w2 ⟨r, rfl, hr, hz, hb⟩
  have Hr := hide hr
  clear hr
  go_wp2
  go_ret2
  refine ⟨_, by rw [Hf.out]; rfl, ?_, hb⟩
  rw [Hf.out, data_append, Hr.out]
  rfl
end Go.Proofs.YtmgfcjpifkoahaaGreatDoor
namespace Go.Proofs.YtmgfcjpifkoahaaGreatDoor
open Go.RowKit

def needF (l : List UInt8) : Int × Int :=
 if l ≠ [] ∧ l.head? ≠ some 0 then (0, 2) else if l.length < 4 then (0, 4) else if 262144 < numbF (l.take 4) then (0, 2) else if numbF (l.take 4) = 0 then (0, 3) else (4 + (numbF (l.take 4) : Int), 0)
theorem take4 {s : ByteArray} (h : 4 ≤ s.size) : (s.extract 0 4).data.toList = s.data.toList.take 4 ∧ (s.extract 0 4).size = 4 := by
 refine ⟨by rw [Lib.extract_data]; simp, ?_⟩
 show (s.extract 0 4).data.toList.length = 4
 rw [Lib.extract_data, List.drop_zero, List.length_take]
 exact Nat.min_eq_left h
theorem need_4 (s : ByteArray) (w : World) (hs : s.size ≤ 9223372036854775807) (h4 : 4 ≤ s.size) (e0 : s.toList.isEmpty = false) (hz : s[0] = 0) (v : Nat) (Hv : Hid (numbF (s.data.toList.take 4) = v)) :
  Calls Tryz.prog 105 #[.string s] w fun e w' => e = .returned (.tuple #[.int .i64 (if 262144 < v then 0 else if v = 0 then 0 else 4 + (v : Int)), .int .i64 (if 262144 < v then 2 else if v = 0 then 3 else 0)]) ∧ Below w.heap.size w w' := by
 have hv : v < 4294967296 := by rw [← Hv.out]; exact numbF_lt _
 obtain ⟨h1, h2⟩ := take4 h4
 have H1 := hide h1
 have H2 := hide h2
 clear h1 h2
 by_cases hb : 262144 < v
 ·go_enter Tryz.func105, Tryz.ntmps105
  go_wp2_with fail
  generalize s.extract 0 4 = t at H1 H2 ⊢
  refine (newF_any _ _).mono ?_
  rintro e w1 ⟨rfl, hr, hb1⟩
  go_wp2_with fail
  refine (u32r_any hr H2.out).mono ?_
  rintro e w2 ⟨rfl, ho⟩
  rw [H1.out, Hv.out]
  have hb2 := below_only hb1 ho (Nat.le_refl _) hb1.size
  go_wp2
  go_ret2
  exact ⟨rfl, hb2⟩
 by_cases hb0 : v = 0
 ·subst hb0
  go_enter Tryz.func105, Tryz.ntmps105
  go_wp2_with fail
  generalize s.extract 0 4 = t at H1 H2 ⊢
  refine (newF_any _ _).mono ?_
  rintro e w1 ⟨rfl, hr, hb1⟩
  go_wp2_with fail
  refine (u32r_any hr H2.out).mono ?_
  rintro e w2 ⟨rfl, ho⟩
  rw [H1.out, Hv.out]
  have hb2 := below_only hb1 ho (Nat.le_refl _) hb1.size
  go_wp2
  go_ret2
  exact ⟨rfl, hb2⟩
 ·go_enter Tryz.func105, Tryz.ntmps105
  go_wp2_with fail
  generalize s.extract 0 4 = t at H1 H2 ⊢
  refine (newF_any _ _).mono ?_
  rintro e w1 ⟨rfl, hr, hb1⟩
  go_wp2_with fail
  refine (u32r_any hr H2.out).mono ?_
  rintro e w2 ⟨rfl, ho⟩
  rw [H1.out, Hv.out]
  have hb2 := below_only hb1 ho (Nat.le_refl _) hb1.size
  go_wp2
  go_ret2
  exact ⟨rfl, hb2⟩
theorem need_any (s : ByteArray) (w : World) (hs : s.size ≤ 9223372036854775807) : Calls Tryz.prog 105 #[.string s] w fun e w' => e = .returned (.tuple #[.int .i64 (needF s.data.toList).1, .int .i64 (needF s.data.toList).2]) ∧ Below w.heap.size w w' := by
 have hsz : s.data.toList.length = s.size := rfl
 by_cases h0 : s = ⟨#[]⟩
 ·subst h0
  clear hs hsz
  go_enter Tryz.func105, Tryz.ntmps105
  go_wp2
  go_ret2
  exact ⟨rfl, Below.refl _ _⟩
 have hn0 : s.data.toList ≠ [] := fun h => h0 (bytes_ext (by rw [ByteArray.toList_eq, h, toList_nil]))
 have e0 := bytes_some h0
 have hpos : 0 < s.size := by rw [← hsz]; exact List.length_pos_iff.2 hn0
 have hhd : s.data.toList.head? = some s[0] := by
  rw [List.head?_eq_getElem?, List.getElem?_eq_getElem (by rw [hsz]; exact hpos)]
  rfl
 by_cases hz : s[0] = 0
 ·by_cases h4 : s.size < 4
  ·have hf : needF s.data.toList = (0, 4) := by rw [needF, if_neg (by rw [hhd, hz]; simp), if_pos (by rw [hsz]; exact h4)]
   have Hf := hide hf
   clear hf h0 hhd
   go_enter Tryz.func105, Tryz.ntmps105
   go_wp2
   go_ret2
   exact ⟨by rw [Hf.out]; rfl, Below.refl _ _⟩
  ·have h := need_4 s w hs (by omega) e0 hz _ rfl
   have hf : needF s.data.toList = (if 262144 < numbF (s.data.toList.take 4) then 0 else if numbF (s.data.toList.take 4) = 0 then 0 else 4 + (numbF (s.data.toList.take 4) : Int), if 262144 < numbF (s.data.toList.take 4) then 2 else if numbF (s.data.toList.take 4) = 0 then 3 else 0) := by
    rw [needF, if_neg (by rw [hhd, hz]; simp), if_neg (by rw [hsz]; exact h4)]
    split
    ·rfl
    ·split <;> rfl
   rw [hf]
   exact h
 ·have hf : needF s.data.toList = (0, 2) := by rw [needF, if_pos ⟨hn0, by rw [hhd]; simpa using hz⟩]
  have ez : ((s[0].toNat : Int) != 0) = true := by
   rw [bne_iff_ne]
   intro h
   exact hz (UInt8.toNat_inj.1 (by simpa using h))
  have Hf := hide hf
  clear hf h0 hhd
  go_enter Tryz.func105, Tryz.ntmps105
  go_wp2
  go_ret2
  exact ⟨by rw [Hf.out]; rfl, Below.refl _ _⟩
end Go.Proofs.YtmgfcjpifkoahaaGreatDoor
