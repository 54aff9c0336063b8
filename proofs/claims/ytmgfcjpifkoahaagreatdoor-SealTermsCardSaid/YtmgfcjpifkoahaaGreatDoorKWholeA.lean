/-
  Several of my texts in one: Whole, RefH.
-/
import Derived.Test.YtmgfcjpifkoahaaGreatDoorKRefA
import Derived.Test.YtmgfcjpifkoahaaGreatDoorKPureA
import Derived.Test.YtmgfcjpifkoahaaGreatDoorKShelf
set_option linter.unusedVariables false
set_option linter.unusedSimpArgs false
/-
  Whole numbers as texts: wire's and the reference's. Conditions: at most a million bytes.
-/
namespace Go.Proofs.YtmgfcjpifkoahaaGreatDoor
open Go.RowKit Go.ChangeShapes Go.WideShapes
section
variable {w : World}
theorem wPlain_any (l : List UInt8) (w : World) : Calls Tryz.prog 193 #[.string (bs l)] w (Says (plainL l) w) := by
 have HT := hide (fun W => Tryz.strings_TrimLeft_one (bs l) 0 (by decide) W)
 go_enter Tryz.func193, Tryz.ntmps193
 go_wp2_with (go_at_call 216; refine (HT.out _).mono ?_; rintro e w1 ⟨rfl, rfl⟩)
 go_ret
 exact ⟨rfl, by exact bel_by⟩
theorem wText_bs (l : List UInt8) (w : World) (h1 : l.length < 4294967296) : Calls Tryz.prog 119 #[.string (bs l)] w (Says (q4 l.length ++ l) w) := by
 have h2 : (l.length : Int) < 4294967296 := by omega
 go_enter Tryz.func119, Tryz.ntmps119
 go_wp2_with (go_at_call 19; refine (wNum_any l.length _ h1).mono ?_; rintro e w1 ⟨rfl, hb1⟩)
 go_ret
 exact ⟨rfl, hb1⟩
theorem wText_any (s : ByteArray) (w : World) (h1 : s.size < 4294967296) : Calls Tryz.prog 119 #[.string s] w (Says (q4 s.size ++ s.data.toList) w) := wText_bs s.data.toList w h1
theorem isE_cons (c : UInt8) (r : List UInt8) : (bs (c :: r)).toList.isEmpty = false := by
 rw [bs_toList]
 rfl
set_option maxHeartbeats 400000 in
set_option maxRecDepth 100000 in
theorem wWhole_any (s0 : ByteArray) (w : World) (h1 : s0.size ≤ 1000000) : Calls Tryz.prog 155 #[.string s0] w (Says (wholeL s0.data.toList) w) := by
 have HP := hide (fun W => wPlain_any s0.data.toList W)
 rw [show bs s0.data.toList = s0 from rfl] at HP
 have hl := plainL_len s0.data.toList
 have hsz := size_len s0
 unfold wholeL
 generalize plainL s0.data.toList = m at HP hl ⊢
 cases m with
 | nil =>
  have HT := hide (fun W => wText_any ⟨#[]⟩ W (by decide))
  have HP := hide (fun W => (show Calls Tryz.prog 193 #[.string s0] W (fun e w' => e = .returned (.string ⟨#[]⟩) ∧ Below W.heap.size W w') from HP.out W))
  go_enter Tryz.func155, Tryz.ntmps155
  go_wp2_with (first
   | (go_at_call 193; refine (HP.out _).mono ?_; rintro e w1 ⟨rfl, hb1⟩)
   | (go_at_call 119; refine (HT.out _).mono ?_; rintro e w2 ⟨rfl, hb2⟩))
  go_ret
  exact ⟨rfl, by exact bel_by⟩
 | cons c r =>
  have HE := hide (isE_cons c r)
  have HP := hide (fun W => (show Calls Tryz.prog 193 #[.string s0] W (fun e w' => e = .returned (.string (bs (c :: r))) ∧ Below W.heap.size W w') from HP.out W))
  have hz : 0 < (bs (c :: r)).size := by rw [bs_size]; simp
  have hz2 : (bs (c :: r)).size ≤ 1000000 := by rw [bs_size]; omega
  have hb : (bs (c :: r))[0].toNat = c.toNat := rfl
  have hd : (bs (c :: r)).data.toList = c :: r := rfl
  have HT := hide (fun W => wText_any (bs (c :: r)) W (by rw [bs_size] at hz2 ⊢; omega))
  have HT0 := hide (fun W => wText_any (⟨#[0]⟩ ++ bs (c :: r)) W (by rw [ByteArray.size_append]; rw [bs_size] at hz2 ⊢; have : (⟨#[0]⟩ : ByteArray).size = 1 := rfl; omega))
  have HS := hide (show ((⟨#[0]⟩ : ByteArray) ++ bs (c :: r)).data.toList = 0 :: c :: r by rw [data_append]; rfl)
  generalize bs (c :: r) = s at HP HE hz hz2 hb hd HT HT0 HS
  have hc := c.toNat_lt
  have he := HE.out
  by_cases h128 : 128 ≤ c.toNat
  ·rw [show signL (c :: r) = 0 :: c :: r from if_pos h128]
   have hb1 : (128 : Int) ≤ (s[0].toNat : Int) := by omega
   have hA : (Says (q4 ((⟨#[0]⟩ : ByteArray) ++ s).size ++ ((⟨#[0]⟩ : ByteArray) ++ s).data.toList)) = Says (q4 (0 :: c :: r).length ++ 0 :: c :: r) := by
    rw [← HS.out]
    rfl
   rw [← hA]
   generalize (q4 ((⟨#[0]⟩ : ByteArray) ++ s).size ++ ((⟨#[0]⟩ : ByteArray) ++ s).data.toList) = z at HT0 ⊢
   clear hb hd hA hl HS
   go_enter Tryz.func155, Tryz.ntmps155
   go_wp2_with (first
    | (go_at_call 193; refine (HP.out _).mono ?_; rintro e w1 ⟨rfl, hb1⟩)
    | (go_at_call 119; refine (HT0.out _).mono ?_; rintro e w2 ⟨rfl, hb2⟩))
   go_ret
   exact ⟨rfl, by exact bel_by⟩
  ·rw [show signL (c :: r) = c :: r from if_neg h128]
   have hb1 : ¬ (128 : Int) ≤ (s[0].toNat : Int) := by omega
   have hA : (Says (q4 s.size ++ s.data.toList)) = Says (q4 (c :: r).length ++ c :: r) := by
    rw [← hd]
    rfl
   rw [← hA]
   generalize (q4 s.size ++ s.data.toList) = z at HT ⊢
   clear hb hd hA hl HS
   go_enter Tryz.func155, Tryz.ntmps155
   go_wp2_with (first
    | (go_at_call 193; refine (HP.out _).mono ?_; rintro e w1 ⟨rfl, hb1⟩)
    | (go_at_call 119; refine (HT.out _).mono ?_; rintro e w2 ⟨rfl, hb2⟩))
   go_ret
   exact ⟨rfl, by exact bel_by⟩
end
end Go.Proofs.YtmgfcjpifkoahaaGreatDoor

/-
  The reference's whole numbers as texts. Conditions: at most a million bytes.
-/
namespace Go.Proofs.YtmgfcjpifkoahaaGreatDoor
open Go.RowKit Go.ChangeShapes Go.WideShapes
end Go.Proofs.YtmgfcjpifkoahaaGreatDoor
