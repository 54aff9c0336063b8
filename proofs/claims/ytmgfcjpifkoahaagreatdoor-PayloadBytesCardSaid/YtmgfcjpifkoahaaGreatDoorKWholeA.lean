/-
  Several of my texts in one: Whole, RefH.
-/
import Derived.Test.YtmgfcjpifkoahaaGreatDoorKRefA
import Derived.Test.YtmgfcjpifkoahaaGreatDoorKPureA
import Derived.Test.YtmgfcjpifkoahaaGreatDoorKShelf
set_option linter.unusedVariables false
set_option linter.unusedSimpArgs false
/-
  Whole numbers as texts: wire's and the reference's. Conditions: at most a million bytes.
-/
namespace Go.Proofs.YtmgfcjpifkoahaaGreatDoor
open Go.RowKit Go.ChangeShapes Go.WideShapes
section
variable {w : World}
theorem wPlain_any (l : List UInt8) (w : World) : Calls Tryz.prog 193 #[.string (bs l)] w (Says (plainL l) w) := by
 have HT := hide (fun W => Tryz.strings_TrimLeft_one (bs l) 0 (by decide) W)
 go_enter Tryz.func193, Tryz.ntmps193
 go_wp2_with (go_at_call 216; refine (HT.out _).mono ?_; rintro e w1 ⟨rfl, rfl⟩)
 go_ret
 exact ⟨rfl, by exact bel_by⟩
theorem wText_bs (l : List UInt8) (w : World) (h1 : l.length < 4294967296) : Calls Tryz.prog 119 #[.string (bs l)] w (Says (q4 l.length ++ l) w) := by
 have h2 : (l.length : Int) < 4294967296 := by omega
 go_enter Tryz.func119, Tryz.ntmps119
 go_wp2_with (go_at_call 19; refine (wNum_any l.length _ h1).mono ?_; rintro e w1 ⟨rfl, hb1⟩)
 go_ret
 exact ⟨rfl, hb1⟩
theorem wText_any (s : ByteArray) (w : World) (h1 : s.size < 4294967296) : Calls Tryz.prog 119 #[.string s] w (Says (q4 s.size ++ s.data.toList) w) := wText_bs s.data.toList w h1
theorem isE_cons (c : UInt8) (r : List UInt8) : (bs (c :: r)).toList.isEmpty = false := by
 rw [bs_toList]
 rfl
set_option maxHeartbeats 400000 in
set_option maxRecDepth 100000 in
theorem wWhole_any (s0 : ByteArray) (w : World) (h1 : s0.size ≤ 1000000) : Calls Tryz.prog 155 #[.string s0] w (Says (wholeL s0.data.toList) w) := by
 have HP := hide (fun W => wPlain_any s0.data.toList W)
 rw [show bs s0.data.toList = s0 from rfl] at HP
 have hl := plainL_len s0.data.toList
 have hsz := size_len s0
 unfold wholeL
 generalize plainL s0.data.toList = m at HP hl ⊢
 cases m with
 | nil =>
  have HT := hide (fun W => wText_any ⟨#[]⟩ W (by decide))
  have HP := hide (fun W => (show Calls Tryz.prog 193 #[.string s0] W (fun e w' => e = .returned (.string ⟨#[]⟩) ∧ Below W.heap.size W w') from HP.out W))
  go_enter Tryz.func155, Tryz.ntmps155
  go_wp2_with (first
   | (go_at_call 193; refine (HP.out _).mono ?_; rintro e w1 ⟨rfl, hb1⟩)
   | (go_at_call 119; refine (HT.out _).mono ?_; rintro e w2 ⟨rfl, hb2⟩))
  go_ret
  exact ⟨rfl, by exact bel_by⟩
 | cons c r =>
  have HE := hide (isE_cons c r)
  have HP := hide (fun W => (show Calls Tryz.prog 193 #[.string s0] W (fun e w' => e = .returned (.string (bs (c :: r))) ∧ Below W.heap.size W w') from HP.out W))
  have hz : 0 < (bs (c :: r)).size := by rw [bs_size]; simp
  have hz2 : (bs (c :: r)).size ≤ 1000000 := by rw [bs_size]; omega
  have hb : (bs (c :: r))[0].toNat = c.toNat := rfl
  have hd : (bs (c :: r)).data.toList = c :: r := rfl
  have HT := hide (fun W => wText_any (bs (c :: r)) W (by rw [bs_size] at hz2 ⊢; omega))
  have HT0 := hide (fun W => wText_any (⟨#[0]⟩ ++ bs (c :: r)) W (by rw [ByteArray.size_append]; rw [bs_size] at hz2 ⊢; have : (⟨#[0]⟩ : ByteArray).size = 1 := rfl; omega))
  have HS := hide (show ((⟨#[0]⟩ : ByteArray) ++ bs (c :: r)).data.toList = 0 :: c :: r by rw [data_append]; rfl)
  generalize bs (c :: r) = s at HP HE hz hz2 hb hd HT HT0 HS
  have hc := c.toNat_lt
  have he := HE.out
  by_cases h128 : 128 ≤ c.toNat
  ·rw [show signL (c :: r) = 0 :: c :: r from if_pos h128]
   have hb1 : (128 : Int) ≤ (s[0].toNat : Int) := by omega
   have hA : (Says (q4 ((⟨#[0]⟩ : ByteArray) ++ s).size ++ ((⟨#[0]⟩ : ByteArray) ++ s).data.toList)) = Says (q4 (0 :: c :: r).length ++ 0 :: c :: r) := by
    rw [← HS.out]
    rfl
   rw [← hA]
   generalize (q4 ((⟨#[0]⟩ : ByteArray) ++ s).size ++ ((⟨#[0]⟩ : ByteArray) ++ s).data.toList) = z at HT0 ⊢
   clear hb hd hA hl HS
   go_enter Tryz.func155, Tryz.ntmps155
   go_wp2_with (first
    | (go_at_call 193; refine (HP.out _).mono ?_; rintro e w1 ⟨rfl, hb1⟩)
    | (go_at_call 119; refine (HT0.out _).mono ?_; rintro e w2 ⟨rfl, hb2⟩))
   go_ret
   exact ⟨rfl, by exact bel_by⟩
  ·rw [show signL (c :: r) = c :: r from if_neg h128]
   have hb1 : ¬ (128 : Int) ≤ (s[0].toNat : Int) := by omega
   have hA : (Says (q4 s.size ++ s.data.toList)) = Says (q4 (c :: r).length ++ c :: r) := by
    rw [← hd]
    rfl
   rw [← hA]
   generalize (q4 s.size ++ s.data.toList) = z at HT ⊢
   clear hb hd hA hl HS
   go_enter Tryz.func155, Tryz.ntmps155
   go_wp2_with (first
    | (go_at_call 193; refine (HP.out _).mono ?_; rintro e w1 ⟨rfl, hb1⟩)
    | (go_at_call 119; refine (HT.out _).mono ?_; rintro e w2 ⟨rfl, hb2⟩))
   go_ret
   exact ⟨rfl, by exact bel_by⟩
theorem plain_cut {s : ByteArray} (hz : 0 < s.size) (h : s[0].toNat = 0) : plainL (s.extract 1 s.size).data.toList = plainL s.data.toList := by
 have h0 : s.data.toList = s[0] :: s.data.toList.drop 1 := by
  exact drop_cons (s := s.data.toList) (p := 0) hz
 have hs : s[0] = 0 := UInt8.toNat_inj.1 h
 rw [Lib.extract_data, List.take_of_length_le (by rw [List.length_drop]; exact Nat.le_refl _)]
 conv => rhs; rw [h0, hs]
 rfl
theorem plain_end {s : ByteArray} (hz : 0 < s.size) (h : s[0].toNat ≠ 0) : plainL s.data.toList = s.data.toList := by
 refine plainL_id ?_
 have h0 : s.data.toList = s[0] :: s.data.toList.drop 1 := by
  exact drop_cons (s := s.data.toList) (p := 0) hz
 rw [h0]
 show (s[0] == 0) = false
 rw [beq_eq_false_iff_ne]
 intro e
 rw [e] at h
 exact h rfl
theorem size_cut (s : ByteArray) (hz : 0 < s.size) : (s.extract 1 s.size).size = s.size - 1 := by
 show (s.extract 1 s.size).data.toList.length = _
 rw [Lib.extract_data, List.take_of_length_le (by rw [List.length_drop]; exact Nat.le_refl _), List.length_drop]
 rfl
def strSz (v : Value) : Nat := match v with
 | .string s => s.size
 | _ => 0
set_option maxHeartbeats 400000 in
theorem rPlain_any (s0 : ByteArray) (w : World) (h1 : s0.size ≤ 1000000) : Calls Tryz.prog 170 #[.string s0] w (Says (plainL s0.data.toList) w) := by
 go_enter Tryz.func170, Tryz.ntmps170
 go_wp2_with fail
 go_loopw [0] (fun v wr => wr = w ∧ ∃ s : ByteArray, v = .string s ∧ Hid (plainL s.data.toList = plainL s0.data.toList) ∧ s.size ≤ 1000000) (fun v _ => strSz v)
 case atStart => exact ⟨rfl, s0, rfl, hide rfl, h1⟩
 case round =>
  obtain ⟨rfl, s, rfl, hp, hsz⟩ := hrel
  by_cases hz : 0 < s.size
  ·have hzi : (0 : Int) < s.size := by omega
   have hlt := s[0].toNat_lt
   by_cases h0 : s[0].toNat = 0
   ·have hp2 := hide ((plain_cut hz h0).trans hp.out)
    have hz2 := size_cut s hz
    have h0i : (s[0].toNat : Int) = 0 := by omega
    clear hp
    go_wp2
    refine ⟨⟨trivial, s.extract 1 s.size, by go_num, hp2, by omega⟩, by simp [strSz]; omega⟩
   ·have hp2 := hide ((plain_end hz h0).symm.trans hp.out)
    have h0i : ¬ (s[0].toNat : Int) = 0 := by omega
    clear hp
    go_wp2
    go_ret
    exact ⟨by rw [← hp2.out]; rfl, by exact bel_by⟩
  ·have hzi : ¬ (0 : Int) < s.size := by omega
   have hs : s = ⟨#[]⟩ := by
    have : s.data.toList = [] := List.eq_nil_of_length_eq_zero (by rw [size_len]; omega)
    exact toList_inj this
   subst hs
   go_wp2
   go_ret
   exact ⟨by rw [← hp.out]; rfl, by exact bel_by⟩
end
end Go.Proofs.YtmgfcjpifkoahaaGreatDoor

/-
  The reference's whole numbers as texts. Conditions: at most a million bytes.
-/
namespace Go.Proofs.YtmgfcjpifkoahaaGreatDoor
open Go.RowKit Go.ChangeShapes Go.WideShapes
section
variable {w : World}
theorem rText3_any (s : ByteArray) (w : World) (h1 : s.size < 4294967296) : Calls Tryz.prog 91 #[.string s] w (Says (q4 s.size ++ s.data.toList) w) := by
 have H := hide (fun W => rU32_any s.size W h1)
 have hz : s.size ≤ 4294967296 := by omega
 go_enter Tryz.func91, Tryz.ntmps91
 go_wp2_with (go_at_call 65; refine (H.out _).mono ?_; rintro e w1 ⟨rfl, hb1⟩)
 go_ret
 exact ⟨ret_bs (by rw [data_append, bs_data]), hb1⟩
theorem rByte_any (n : Nat) (w : World) (h1 : n < 256) : Calls Tryz.prog 66 #[.int .u8 n] w (Says [UInt8.ofNat n] w) := by
 go_enter Tryz.func66, Tryz.ntmps66
 go_wp2_with fail
 go_ret
 exact ⟨rfl, by exact bel_by⟩
set_option maxHeartbeats 400000 in
set_option maxRecDepth 100000 in
theorem rWhole_any (s0 : ByteArray) (w : World) (h1 : s0.size ≤ 1000000) : Calls Tryz.prog 171 #[.string s0] w (Says (wholeL s0.data.toList) w) := by
 have HP := hide (fun W => rPlain_any s0 W h1)
 have hl := plainL_len s0.data.toList
 have hsz := size_len s0
 unfold wholeL
 generalize plainL s0.data.toList = m at HP hl ⊢
 cases m with
 | nil =>
  have HT := hide (fun W => rText3_any ⟨#[]⟩ W (by decide))
  have HP := hide (fun W => (show Calls Tryz.prog 170 #[.string s0] W (fun e w' => e = .returned (.string ⟨#[]⟩) ∧ Below W.heap.size W w') from HP.out W))
  go_enter Tryz.func171, Tryz.ntmps171
  go_wp2_with (first
   | (go_at_call 170; refine (HP.out _).mono ?_; rintro e w1 ⟨rfl, hb1⟩)
   | (go_at_call 91; refine (HT.out _).mono ?_; rintro e w2 ⟨rfl, hb2⟩))
  go_ret
  exact ⟨rfl, by exact bel_by⟩
 | cons c r =>
  have HP := hide (fun W => (show Calls Tryz.prog 170 #[.string s0] W (fun e w' => e = .returned (.string (bs (c :: r))) ∧ Below W.heap.size W w') from HP.out W))
  have hz : 0 < (bs (c :: r)).size := by rw [bs_size]; simp
  have hzi : (0 : Int) < (bs (c :: r)).size := by omega
  have hz2 : (bs (c :: r)).size ≤ 1000000 := by rw [bs_size]; omega
  have hb : (bs (c :: r))[0].toNat = c.toNat := rfl
  have hd : (bs (c :: r)).data.toList = c :: r := rfl
  have HB := hide (fun W => rByte_any 0 W (by decide))
  have HT := hide (fun W => rText3_any (bs (c :: r)) W (by rw [bs_size] at hz2 ⊢; omega))
  have HT0 := hide (fun W => rText3_any (bs [UInt8.ofNat 0] ++ bs (c :: r)) W (by rw [ByteArray.size_append, bs_size]; rw [bs_size] at hz2 ⊢; simp at hz2 ⊢; omega))
  have HS := hide (show (bs [UInt8.ofNat 0] ++ bs (c :: r)).data.toList = 0 :: c :: r by rw [data_append]; rfl)
  generalize bs (c :: r) = s at HP hz hzi hz2 hb hd HT HT0 HS
  have hc := c.toNat_lt
  by_cases h128 : 128 ≤ c.toNat
  ·rw [show signL (c :: r) = 0 :: c :: r from if_pos h128]
   have hb1 : (127 : Int) < (s[0].toNat : Int) := by omega
   have hA : (Says (q4 (bs [UInt8.ofNat 0] ++ s).size ++ (bs [UInt8.ofNat 0] ++ s).data.toList)) = Says (q4 (0 :: c :: r).length ++ 0 :: c :: r) := by
    rw [← HS.out]
    rfl
   rw [← hA]
   generalize (q4 (bs [UInt8.ofNat 0] ++ s).size ++ (bs [UInt8.ofNat 0] ++ s).data.toList) = z at HT0 ⊢
   clear hb hd hA hl HS
   go_enter Tryz.func171, Tryz.ntmps171
   go_wp2_with (first
    | (go_at_call 170; refine (HP.out _).mono ?_; rintro e w1 ⟨rfl, hb1⟩)
    | (go_at_call 66; refine (HB.out _).mono ?_; rintro e w3 ⟨rfl, hb3⟩)
    | (go_at_call 91; refine (HT0.out _).mono ?_; rintro e w2 ⟨rfl, hb2⟩))
   go_ret
   exact ⟨rfl, by exact bel_by⟩
  ·rw [show signL (c :: r) = c :: r from if_neg h128]
   have hb1 : ¬ (127 : Int) < (s[0].toNat : Int) := by omega
   have hA : (Says (q4 s.size ++ s.data.toList)) = Says (q4 (c :: r).length ++ c :: r) := by
    rw [← hd]
    rfl
   rw [← hA]
   generalize (q4 s.size ++ s.data.toList) = z at HT ⊢
   clear hb hd hA hl HS
   go_enter Tryz.func171, Tryz.ntmps171
   go_wp2_with (first
    | (go_at_call 170; refine (HP.out _).mono ?_; rintro e w1 ⟨rfl, hb1⟩)
    | (go_at_call 91; refine (HT.out _).mono ?_; rintro e w2 ⟨rfl, hb2⟩))
   go_ret
   exact ⟨rfl, by exact bel_by⟩
end
end Go.Proofs.YtmgfcjpifkoahaaGreatDoor
