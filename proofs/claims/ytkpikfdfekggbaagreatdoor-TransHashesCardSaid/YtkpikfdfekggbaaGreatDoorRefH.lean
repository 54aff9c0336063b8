/-
  The reference's whole numbers as texts. Conditions: at most a million bytes.
-/
import Derived.Test.YtkpikfdfekggbaaGreatDoorWhole
namespace Go.Proofs.YtkpikfdfekggbaaGreatDoor
open Go.RowKit Go.ChangeShapes Go.WideShapes
section
variable {w : World}
theorem rText3_any (s : ByteArray) (w : World) (h1 : s.size < 4294967296) : Calls Tryz.prog 119 #[.string s] w (Says (q4 s.size ++ s.data.toList) w) := by
  have H := hide (fun W => rU32_any s.size W h1)
  have hz : s.size ≤ 4294967296 := by omega
  go_enter Tryz.func119, Tryz.ntmps119
  go_wp2_with (go_at_call 18; refine (H.out _).mono ?_; rintro e w1 ⟨rfl, hb1⟩)
  go_ret
  exact ⟨ret_bs (by rw [data_append, bs_data]), hb1⟩
theorem rByte_any (n : Nat) (w : World) (h1 : n < 256) : Calls Tryz.prog 118 #[.int .u8 n] w (Says [UInt8.ofNat n] w) := by
  go_enter Tryz.func118, Tryz.ntmps118
  go_wp2_with fail
  go_ret
  exact ⟨rfl, by (repeat (first | exact Below.refl _ _ | refine below_drewN ?_ _ | refine Below.drew ?_ | refine Below.alloc ?_ (by first | omega | (simp; done) | (simp; omega)) _ | refine Below.setCell ?_ (by first | omega | (simp; done) | (simp; omega)) _ | refine bel_alloc ?_ _ | refine bel_trans ?_ (by assumption) | refine Below.trans ?_ (Below.mono (by assumption) (by first | omega | (simp; done) | (simp; omega)))))⟩
set_option maxHeartbeats 400000 in
set_option maxRecDepth 100000 in
theorem rWhole_any (s0 : ByteArray) (w : World) (h1 : s0.size ≤ 1000000) : Calls Tryz.prog 74 #[.string s0] w (Says (wholeL s0.data.toList) w) := by
  have HP := hide (fun W => rPlain_any s0 W h1)
  have hl := plainL_len s0.data.toList
  have hsz := size_len s0
  unfold wholeL
  generalize plainL s0.data.toList = m at HP hl ⊢
  cases m with
  | nil =>
    have HT := hide (fun W => rText3_any ⟨#[]⟩ W (by decide))
    have HP := hide (fun W => (show Calls Tryz.prog 117 #[.string s0] W (fun e w' => e = .returned (.string ⟨#[]⟩) ∧ Below W.heap.size W w') from HP.out W))
    go_enter Tryz.func74, Tryz.ntmps74
    go_wp2_with (first
      | (go_at_call 117; refine (HP.out _).mono ?_; rintro e w1 ⟨rfl, hb1⟩)
      | (go_at_call 119; refine (HT.out _).mono ?_; rintro e w2 ⟨rfl, hb2⟩))
    go_ret
    exact ⟨rfl, by (repeat (first | exact Below.refl _ _ | refine below_drewN ?_ _ | refine Below.drew ?_ | refine Below.alloc ?_ (by first | omega | (simp; done) | (simp; omega)) _ | refine Below.setCell ?_ (by first | omega | (simp; done) | (simp; omega)) _ | refine bel_alloc ?_ _ | refine bel_trans ?_ (by assumption) | refine Below.trans ?_ (Below.mono (by assumption) (by first | omega | (simp; done) | (simp; omega)))))⟩
  | cons c r =>
    have HP := hide (fun W => (show Calls Tryz.prog 117 #[.string s0] W (fun e w' => e = .returned (.string (bs (c :: r))) ∧ Below W.heap.size W w') from HP.out W))
    have hz : 0 < (bs (c :: r)).size := by rw [bs_size]; simp
    have hzi : (0 : Int) < (bs (c :: r)).size := by omega
    have hz2 : (bs (c :: r)).size ≤ 1000000 := by rw [bs_size]; omega
    have hb : (bs (c :: r))[0].toNat = c.toNat := rfl
    have hd : (bs (c :: r)).data.toList = c :: r := rfl
    have HB := hide (fun W => rByte_any 0 W (by decide))
    have HT := hide (fun W => rText3_any (bs (c :: r)) W (by rw [bs_size] at hz2 ⊢; omega))
    have HT0 := hide (fun W => rText3_any (bs [UInt8.ofNat 0] ++ bs (c :: r)) W (by rw [ByteArray.size_append, bs_size]; rw [bs_size] at hz2 ⊢; simp at hz2 ⊢; omega))
    have HS := hide (show (bs [UInt8.ofNat 0] ++ bs (c :: r)).data.toList = 0 :: c :: r by rw [data_append]; rfl)
    generalize bs (c :: r) = s at HP hz hzi hz2 hb hd HT HT0 HS
    have hc := c.toNat_lt
    by_cases h128 : 128 ≤ c.toNat
    · rw [show signL (c :: r) = 0 :: c :: r from if_pos h128]
      have hb1 : (127 : Int) < (s[0].toNat : Int) := by omega
      have hA : (Says (q4 (bs [UInt8.ofNat 0] ++ s).size ++ (bs [UInt8.ofNat 0] ++ s).data.toList)) = Says (q4 (0 :: c :: r).length ++ 0 :: c :: r) := by
        rw [← HS.out]
        rfl
      rw [← hA]
      generalize (q4 (bs [UInt8.ofNat 0] ++ s).size ++ (bs [UInt8.ofNat 0] ++ s).data.toList) = z at HT0 ⊢
      clear hb hd hA hl HS
      go_enter Tryz.func74, Tryz.ntmps74
      go_wp2_with (first
        | (go_at_call 117; refine (HP.out _).mono ?_; rintro e w1 ⟨rfl, hb1⟩)
        | (go_at_call 118; refine (HB.out _).mono ?_; rintro e w3 ⟨rfl, hb3⟩)
        | (go_at_call 119; refine (HT0.out _).mono ?_; rintro e w2 ⟨rfl, hb2⟩))
      go_ret
      exact ⟨rfl, by (repeat (first | exact Below.refl _ _ | refine below_drewN ?_ _ | refine Below.drew ?_ | refine Below.alloc ?_ (by first | omega | (simp; done) | (simp; omega)) _ | refine Below.setCell ?_ (by first | omega | (simp; done) | (simp; omega)) _ | refine bel_alloc ?_ _ | refine bel_trans ?_ (by assumption) | refine Below.trans ?_ (Below.mono (by assumption) (by first | omega | (simp; done) | (simp; omega)))))⟩
    · rw [show signL (c :: r) = c :: r from if_neg h128]
      have hb1 : ¬ (127 : Int) < (s[0].toNat : Int) := by omega
      have hA : (Says (q4 s.size ++ s.data.toList)) = Says (q4 (c :: r).length ++ c :: r) := by
        rw [← hd]
        rfl
      rw [← hA]
      generalize (q4 s.size ++ s.data.toList) = z at HT ⊢
      clear hb hd hA hl HS
      go_enter Tryz.func74, Tryz.ntmps74
      go_wp2_with (first
        | (go_at_call 117; refine (HP.out _).mono ?_; rintro e w1 ⟨rfl, hb1⟩)
        | (go_at_call 119; refine (HT.out _).mono ?_; rintro e w2 ⟨rfl, hb2⟩))
      go_ret
      exact ⟨rfl, by (repeat (first | exact Below.refl _ _ | refine below_drewN ?_ _ | refine Below.drew ?_ | refine Below.alloc ?_ (by first | omega | (simp; done) | (simp; omega)) _ | refine Below.setCell ?_ (by first | omega | (simp; done) | (simp; omega)) _ | refine bel_alloc ?_ _ | refine bel_trans ?_ (by assumption) | refine Below.trans ?_ (Below.mono (by assumption) (by first | omega | (simp; done) | (simp; omega)))))⟩
end
end Go.Proofs.YtkpikfdfekggbaaGreatDoor
