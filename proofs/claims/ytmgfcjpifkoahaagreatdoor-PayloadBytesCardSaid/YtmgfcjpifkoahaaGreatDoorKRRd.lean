/-
  The contracts of the reference's reader. Conditions: texts of at most 1,000,000 bytes.
-/
import Derived.Test.YtmgfcjpifkoahaaGreatDoorKRdX
import Derived.Deep.RegionHeld3
import Derived.Deep.DeepCutAuto
set_option linter.unusedVariables false
set_option linter.unusedSimpArgs false
namespace Go.Proofs.YtmgfcjpifkoahaaGreatDoor
open Go.RowKit Go.ChangeShapes Go.WideShapes Go.Sort
def Rd3 (w : World) (g : Nat) (r : List UInt8) (e : Int) : Prop := Blk w g 165 #[.string (bs r), .int .i64 e]
theorem Rd3.below {w w' : World} {g : Nat} {r : List UInt8} {e : Int} (h : Rd3 w g r e) (hb : Below w.heap.size w w') : Rd3 w' g r e := Blk.below h hb (Blk.lt h)
def Got3 {α : Type} (f : α → Value) (z : Value) (R : Res α) (w : World) (g : Nat) (e : Ending) (w' : World) : Prop :=
 (∃ a r', R = .ok a r' ∧ e = .returned (f a) ∧ Rd3 w' g r' 0 ∧ w.grownBy w' (some g)) ∨ (∃ x r', R = .no x ∧ x ≠ 0 ∧ e = .returned z ∧ Rd3 w' g r' (x : Nat) ∧ w.grownBy w' (some g))
theorem bs_cut (l : List UInt8) (n : Nat) : (bs l).extract 0 n = bs (l.take n) := by
 have := ext_bsn (bs l) 0 n
 rw [Nat.zero_add, bs_data, List.drop_zero] at this
 exact this
theorem bs_rest (l : List UInt8) (n : Nat) : (bs l).extract n l.length = bs (l.drop n) := by
 apply bs_eq
 rw [Lib.extract_data, bs_data]
 exact List.take_of_length_le (by rw [List.length_drop]; exact Nat.le_refl _)
def numv (l : List UInt8) : Nat := l.foldl (fun a b => 256 * a + b.toNat) 0
theorem numv_snoc (l : List UInt8) (b : UInt8) : numv (l ++ [b]) = 256 * numv l + b.toNat := by
 unfold numv
 rw [List.foldl_append]
 rfl
theorem numv_4 {l : List UInt8} (h : l.length = 4) : numv l = n4 l := by
 match l, h with
 | [x, y, z, u], _ =>
  have h1 := x.toNat_lt
  have h2 := y.toNat_lt
  have h3 := z.toNat_lt
  have h4 := u.toNat_lt
  simp only [numv, n4, List.foldl_cons, List.foldl_nil]
  omega
theorem rvalue_any (s : ByteArray) (w : World) (hs : s.size ≤ 4) : Calls Tryz.prog 202 #[.string s] w fun e w' => e = .returned (.int .i64 (numv s.data.toList)) ∧ w' = w := by
 go_enter Tryz.func202, Tryz.ntmps202
 go_wp2
 go_loop [3, 4] (fun v i => ∃ k y : Nat, y < 256 ^ k ∧ k ≤ s.size ∧ i = .int .i64 k ∧ v = .int .i64 y ∧ Hid (y = numv (s.data.toList.take k))) (fun _ i => s.size - (intOf i).toNat)
 case atStart => exact ⟨0, 0, by decide, Nat.zero_le _, rfl, rfl, hide rfl⟩
 case round =>
  obtain ⟨k, y, hy, hk, rfl, rfl, H⟩ := hrel
  by_cases hlt : k < s.size
  ·have hy2 : y < 16777216 := Nat.lt_of_lt_of_le hy (show 256 ^ k ≤ 256 ^ 3 from Nat.pow_le_pow_right (by decide) (by omega))
   have hb := s[k].toNat_lt
   have hw1 : IntKind.i64.wrap (256 * (y : Int)) = 256 * (y : Int) := wrap_small _ (by omega) (by omega)
   have hw2 : IntKind.i64.wrap (256 * (y : Int) + (s[k].toNat : Int)) = 256 * (y : Int) + (s[k].toNat : Int) := wrap_small _ (by omega) (by omega)
   go_wp2
   go_round
   case rel =>
    refine ⟨k + 1, 256 * y + s[k].toNat, ?_, hlt, by go_num, by go_num, hide ?_⟩
    ·rw [Nat.pow_succ]
     omega
    ·rw [H.out]
     have hl : k < s.data.toList.length := hlt
     rw [List.take_succ_eq_append_getElem hl, numv_snoc]
     rfl
   case measure => simp [intOf]; omega
  ·go_wp2
   go_ret
   exact ⟨ret_int (by rw [H.out, List.take_of_length_le (by show s.size ≤ k; omega)]), rfl⟩
section
variable {w : World} {g : Nat} {r : List UInt8} {x : Int}
set_option maxHeartbeats 1000000 in
theorem r3bytes_any (h : Rd3 w g r 0) (hr : r.length ≤ 1000000) (n : Nat) (hn : n < 4294967296) : Calls Tryz.prog 167 #[.pointer (some ⟨g, 0, none⟩), .int .i64 n] w (Got3 (fun l => .string (bs l)) (.string ⟨#[]⟩) (gBytes n r) w g) := by
 have h0 : w.cell? ⟨g, 0, none⟩ = some (.string (bs r)) := Blk.cell h 0
 have h1 : w.cell? ⟨g, 1, none⟩ = some (.int .i64 0) := Blk.cell h 1
 have f0 : w.frozen? ⟨g, 0, none⟩ = false := Blk.frozen h 0
 have f1 : w.frozen? ⟨g, 1, none⟩ = false := Blk.frozen h 1
 have hn0 : ¬ (n : Int) < 0 := by omega
 have hsz : (bs r).size = r.length := rfl
 by_cases hlt : r.length < n
 ·have hlt' : ((bs r).size : Int) < n := by rw [hsz]; omega
  have HS := hide (show Rd3 (w.setCell ⟨g, 1, none⟩ (.int .i64 4)) g r 4 from by
   have := Blk.set_ h 1 (.int .i64 4)
   unfold Rd3
   simpa using this)
  have HG := hide (show gBytes n r = .no 4 from by unfold gBytes; rw [if_pos hlt])
  have HO := hide (only_setCell (only_refl w (some g)) (p := ⟨g, 1, none⟩) (.inl rfl) (.int .i64 4))
  clear h hn hlt hr
  go_enter Tryz.func167, Tryz.ntmps167
  go_wp2_with fail
  go_ret
  exact .inr ⟨4, r, HG.out, by decide, rfl, HS.out, HO.out⟩
 ·have hlt' : ¬ ((bs r).size : Int) < n := by rw [hsz]; omega
  have hle : n ≤ (bs r).size := by rw [hsz]; omega
  have HS := hide (show Rd3 (w.setCell ⟨g, 0, none⟩ (.string ((bs r).extract n (bs r).size))) g (r.drop n) 0 from by
   have := Blk.set_ h 0 (.string ((bs r).extract n (bs r).size))
   rw [hsz, bs_rest] at this ⊢
   unfold Rd3
   simpa using this)
  have HG := hide (show gBytes n r = .ok (r.take n) (r.drop n) from by unfold gBytes; rw [if_neg hlt])
  have HO := hide (only_setCell (only_refl w (some g)) (p := ⟨g, 0, none⟩) (.inl rfl) (.string ((bs r).extract n (bs r).size)))
  have HC := hide (bs_cut r n)
  have hnw : IntKind.i64.wrap (n : Int) = n := wrap_small _ (by omega) (by omega)
  clear h hn hlt
  go_enter Tryz.func167, Tryz.ntmps167
  go_wp2_with fail
  go_ret
  exact .inl ⟨r.take n, r.drop n, HG.out, by rw [HC.out]; rfl, HS.out, HO.out⟩
theorem gBytes_no {n : Nat} {r : List UInt8} (h : r.length < n) : gBytes n r = .no 4 := by unfold gBytes; rw [if_pos h]
theorem gBytes_ok {n : Nat} {r : List UInt8} (h : ¬ r.length < n) : gBytes n r = .ok (r.take n) (r.drop n) := by unfold gBytes; rw [if_neg h]
theorem r3byte_any (h : Rd3 w g r 0) (hr : r.length ≤ 1000000) : Calls Tryz.prog 201 #[.pointer (some ⟨g, 0, none⟩)] w (Got3 (fun l : List UInt8 => .int .u8 (l.headD 0).toNat) (.int .u8 0) (gBytes 1 r) w g) := by
 have HB := hide (r3bytes_any h hr 1 (by omega))
 cases r with
 | nil =>
  rw [gBytes_no (by simp)] at HB ⊢
  go_enter Tryz.func201, Tryz.ntmps201
  go_wp2_with fail
  refine HB.out.mono ?_
  rintro e w3 (⟨a, r', hg, _⟩ | ⟨x, r', hg, hx0, rfl, hr3, ho⟩)
  ·cases hg
  cases hg
  go_wp2_with fail
  go_ret
  exact .inr ⟨4, r', rfl, by decide, rfl, hr3, ho⟩
 | cons c r =>
  rw [gBytes_ok (by simp)] at HB ⊢
  have hz : 0 < (bs [c]).size := Nat.zero_lt_one
  have hb0 : (bs [c])[0] = c := rfl
  go_enter Tryz.func201, Tryz.ntmps201
  go_wp2_with fail
  refine HB.out.mono ?_
  rintro e w3 (⟨a, r', hg, rfl, hr3, ho⟩ | ⟨x, r', hg, _⟩)
  ·injection hg with e1 e2
   subst e1 e2
   rw [show List.take 1 (c :: r) = [c] from rfl]
   rw [show List.drop 1 (c :: r) = r from rfl] at hr3
   go_wp2_with fail
   go_ret
   exact .inl ⟨[c], r, rfl, rfl, hr3, ho⟩
  ·cases hg
set_option maxHeartbeats 1000000 in
theorem r3bool_any (h : Rd3 w g r 0) (hr : r.length ≤ 1000000) : Calls Tryz.prog 162 #[.pointer (some ⟨g, 0, none⟩)] w (Got3 (fun n : Int => .bool (n == 1)) (.bool false) (gBool r) w g) := by
 have h0 : w.cell? ⟨g, 0, none⟩ = some (.string (bs r)) := Blk.cell h 0
 have h1 : w.cell? ⟨g, 1, none⟩ = some (.int .i64 0) := Blk.cell h 1
 have f1 : w.frozen? ⟨g, 1, none⟩ = false := Blk.frozen h 1
 have HB := hide (r3byte_any h hr)
 cases r with
 | nil =>
  have hz : ¬ (0 : Int) < (bs ([] : List UInt8)).size := by rw [bs_size]; simp
  rw [gBytes_no (by simp)] at HB
  clear h hr
  go_enter Tryz.func162, Tryz.ntmps162
  go_wp2_with fail
  refine HB.out.mono ?_
  rintro e w3 (⟨a, r', hg, _⟩ | ⟨x, r', hg, hx0, rfl, hr3, ho⟩)
  ·cases hg
  cases hg
  go_wp2_with fail
  go_ret
  exact .inr ⟨4, r', rfl, by decide, rfl, hr3, ho⟩
 | cons c r =>
  have hz : (0 : Int) < (bs (c :: r)).size := by rw [bs_size]; simp
  have hz2 : 0 < (bs (c :: r)).size := by rw [bs_size]; simp
  have hb0 : (bs (c :: r))[0] = c := rfl
  have hlt := c.toNat_lt
  by_cases hc : c.toNat ≤ 1
  ·have hc' : ¬ (1 : Int) < (bs (c :: r))[0].toNat := by rw [hb0]; omega
   have HG := hide (show gBool (c :: r) = .ok c.toNat r from by rw [gBool_cons, if_pos hc])
   rw [gBytes_ok (by simp), show List.take 1 (c :: r) = [c] from rfl, show List.drop 1 (c :: r) = r from rfl] at HB
   clear hb0 h hr
   go_enter Tryz.func162, Tryz.ntmps162
   go_wp2_with fail
   refine HB.out.mono ?_
   rintro e w3 (⟨a, r', hg, rfl, hr3, ho⟩ | ⟨x, r', hg, _⟩)
   ·injection hg with e1 e2
    subst e1 e2
    simp only [List.headD_cons]
    go_wp2_with fail
    go_ret
    exact .inl ⟨_, _, HG.out, rfl, hr3, ho⟩
   ·cases hg
  ·have hc' : (1 : Int) < (bs (c :: r))[0].toNat := by rw [hb0]; omega
   have HG := hide (show gBool (c :: r) = .no 3 from by rw [gBool_cons, if_neg hc])
   have HS := hide (show Rd3 (w.setCell ⟨g, 1, none⟩ (.int .i64 3)) g (c :: r) 3 from by
    have := Blk.set_ h 1 (.int .i64 3)
    unfold Rd3
    simpa using this)
   have HO := hide (only_setCell (only_refl w (some g)) (p := ⟨g, 1, none⟩) (.inl rfl) (.int .i64 3))
   clear hb0 h hr HB
   go_enter Tryz.func162, Tryz.ntmps162
   go_wp2_with fail
   go_ret
   exact .inr ⟨3, _, HG.out, by decide, rfl, HS.out, HO.out⟩
theorem r3u32_any (h : Rd3 w g r 0) (hr : r.length ≤ 1000000) : Calls Tryz.prog 163 #[.pointer (some ⟨g, 0, none⟩)] w (Got3 (fun n : Nat => .int .u32 n) (.int .u32 0) (gU32 r) w g) := by
 have HB := hide (r3bytes_any h hr 4 (by omega))
 by_cases h4 : r.length < 4
 ·have HG := hide (show gU32 r = .no 4 from by unfold gU32; rw [if_pos h4])
  have HV := hide (fun W => rvalue_any ⟨#[]⟩ W (by decide))
  rw [gBytes_no h4] at HB
  go_enter Tryz.func163, Tryz.ntmps163
  go_wp2_with fail
  refine HB.out.mono ?_
  rintro e w3 (⟨a, r', hg, _⟩ | ⟨x, r', hg, hx0, rfl, hr3, ho⟩)
  ·cases hg
  cases hg
  go_wp2_with (first | (go_at_call 202; refine (HV.out _).mono ?_; rintro e w4 ⟨rfl, rfl⟩) | fail)
  go_ret
  exact .inr ⟨4, r', HG.out, by decide, rfl, hr3, ho⟩
 ·have HG := hide (show gU32 r = .ok (n4 r) (r.drop 4) from by unfold gU32; rw [if_neg h4])
  have HV := hide (fun W => rvalue_any (bs (r.take 4)) W (by rw [bs_size, List.length_take]; omega))
  rw [gBytes_ok h4] at HB
  rw [bs_data, numv_4 (by rw [List.length_take]; omega), n4_take (by omega)] at HV
  have hlt := n4_lt r
  have hw : IntKind.u32.wrap (n4 r : Int) = n4 r := by
   simp only [IntKind.wrap, IntKind.bits, IntKind.signed]
   simp
   omega
  generalize n4 r = nn at HG HV hw hlt
  go_enter Tryz.func163, Tryz.ntmps163
  go_wp2_with fail
  refine HB.out.mono ?_
  rintro e w3 (⟨a, r', hg, rfl, hr3, ho⟩ | ⟨x, r', hg, _⟩)
  ·injection hg with e1 e2
   subst e1 e2
   have Hlt := hide hlt
   clear hlt
   go_wp2_with (first | (go_at_call 202; refine (HV.out _).mono ?_; rintro e w4 ⟨rfl, rfl⟩) | fail)
   go_ret
   exact .inl ⟨nn, _, HG.out, rfl, hr3, ho⟩
  ·cases hg
set_option maxHeartbeats 4000000 in
theorem r3text_any (h : Rd3 w g r 0) (hr : r.length ≤ 1000000) : Calls Tryz.prog 165 #[.pointer (some ⟨g, 0, none⟩)] w (Got3 (fun l => .string (bs l)) (.string ⟨#[]⟩) (gText r) w g) := by
 have h0 : w.cell? ⟨g, 0, none⟩ = some (.string (bs r)) := Blk.cell h 0
 have h1 : w.cell? ⟨g, 1, none⟩ = some (.int .i64 0) := Blk.cell h 1
 have hsz : (bs r).size = r.length := rfl
 by_cases h4 : r.length < 4
 ·have h4' : ((bs r).size : Int) < 4 := by rw [bs_size]; omega
  have HG := hide (gText_short h4)
  have HS := hide (fun m => show Rd3 ((w.drewN m).setCell ⟨g, 1, none⟩ (.int .i64 4)) g r 4 from by
   have := Blk.set_ (Blk.drewN h m) 1 (.int .i64 4)
   unfold Rd3
   simpa using this)
  have f1 : w.frozen? ⟨g, 1, none⟩ = false := Blk.frozen h 1
  have HO := hide (fun m => only_setCell (only_drewN (only_refl w (some g)) m) (p := ⟨g, 1, none⟩) (.inl rfl) (.int .i64 4))
  generalize bs r = s at h0 h4' hsz
  clear h hr hsz
  go_enter Tryz.func165, Tryz.ntmps165
  go_upto_region 3 with fail
  go_quiet (fail)
  go_wp2_with fail
  go_ret
  exact .inr ⟨4, r, HG.out, by decide, rfl, HS.out _, HO.out _⟩
 ·have h4' : ¬ ((bs r).size : Int) < 4 := by rw [bs_size]; omega
  have h4n : 4 ≤ (bs r).size := by rw [bs_size]; omega
  have HV := hide (fun W => rvalue_any (bs (r.take 4)) W (by rw [bs_size, List.length_take]; omega))
  rw [bs_data, numv_4 (by rw [List.length_take]; omega), n4_take (by omega)] at HV
  rw [← bs_cut] at HV
  have hlt := n4_lt r
  by_cases h5 : r.length - 4 < n4 r
  ·have HG := hide (gText_long h4 h5)
   have h5' : ((bs r).size : Int) - 4 < n4 r := by rw [bs_size]; omega
   have HS := hide (fun m => show Rd3 ((w.drewN m).setCell ⟨g, 1, none⟩ (.int .i64 4)) g r 4 from by
    have := Blk.set_ (Blk.drewN h m) 1 (.int .i64 4)
    unfold Rd3
    simpa using this)
   have f1 : w.frozen? ⟨g, 1, none⟩ = false := Blk.frozen h 1
   have HO := hide (fun m => only_setCell (only_drewN (only_refl w (some g)) m) (p := ⟨g, 1, none⟩) (.inl rfl) (.int .i64 4))
   generalize n4 r = nn at HG HV hlt h5 h5'
   generalize bs r = s at h0 h4' h4n h5' HV hsz
   have hw4 : IntKind.i64.wrap ((s.size : Int) - 4) = (s.size : Int) - 4 := wrap_small _ (by omega) (by omega)
   clear h hr h4 h5 hlt hsz
   go_enter Tryz.func165, Tryz.ntmps165
   go_upto_region 3 with fail
   go_quiet ((go_at_call 202; exact (HV.out _).mono fun _ _ h9 => ⟨h9.1, _, h9.2⟩))
   go_wp2_with fail
   go_ret
   exact .inr ⟨4, r, HG.out, by decide, rfl, HS.out _, HO.out _⟩
  ·have HG := hide (gText_fit h4 h5)
   have h5' : ¬ ((bs r).size : Int) - 4 < n4 r := by rw [bs_size]; omega
   have HT := hide (fun (W : World) (hW : Rd3 W g r 0) => r3bytes_any hW hr 4 (by omega))
   have HT2 := hide (fun (W : World) (hW : Rd3 W g (r.drop 4) 0) => r3bytes_any hW (by rw [List.length_drop]; omega) (n4 r) hlt)
   rw [gBytes_ok h4] at HT
   rw [gBytes_ok (by rw [List.length_drop]; exact h5), List.drop_drop] at HT2
   have HV2 := HV
   rw [bs_cut] at HV2
   have HD := hide (fun m => Blk.drewN h m)
   generalize n4 r = nn at HG HV hlt h5 h5' HT2 HV2
   have Hlt := hide hlt
   have HT3 := HT
   generalize bs r = s at h0 h4' h4n h5' HV hsz
   have hw4 : IntKind.i64.wrap ((s.size : Int) - 4) = (s.size : Int) - 4 := wrap_small _ (by omega) (by omega)
   clear h hr h4 h5 hlt hsz HT3
   go_enter Tryz.func165, Tryz.ntmps165
   go_upto_region 3 with fail
   go_quiet ((go_at_call 202; exact (HV.out _).mono fun _ _ h9 => ⟨h9.1, _, h9.2⟩))
   go_wp2_with fail
   refine (HT.out _ (HD.out _)).mono ?_
   rintro e w3 (⟨a, r', hg, rfl, hr3, ho⟩ | ⟨x, r', hg, _⟩)
   ·injection hg with e1 e2
    subst e1 e2
    have HT3 := hide (HT2.out _ hr3)
    clear HT2 HT
    go_wp2_with (first | (go_at_call 202; refine (HV2.out _).mono ?_; rintro e w4 ⟨rfl, rfl⟩) | fail)
    refine HT3.out.mono ?_
    rintro e w5 (⟨a, r', hg, rfl, hr5, ho5⟩ | ⟨x, r', hg, _⟩)
    ·injection hg with e1 e2
     subst e1 e2
     go_wp2_with fail
     go_ret
     exact .inl ⟨_, _, HG.out, rfl, hr5, only_trans (only_trans (only_drewN (only_refl _ _) _) ho) ho5⟩
    ·cases hg
   ·cases hg
theorem whole_iff {s : List UInt8} (h : s.length < 4294967290) : wholeL s = textL s ↔ wholeK s = true := by
 have h1 : aheadL (plainL s) = false := by
  unfold plainL
  induction s with
  | nil => rfl
  | cons c r ih =>
   rw [List.dropWhile_cons]
   split
   ·exact ih (by simp at h; omega)
   ·rename_i hc
    simpa [aheadL] using hc
 have h2 : wholeL s = wholeL (plainL s) := by
  show textL (signL (plainL s)) = textL (signL (plainL (plainL s)))
  rw [plainL_id h1]
 constructor
 ·intro e
  rw [h2, whole_text h1] at e
  have hl := congrArg List.length e
  simp only [textL, List.length_append, q4_len] at hl
  have e2 : signL (plainL s) = s := by
   unfold textL at e
   rw [show (signL (plainL s)).length = s.length by omega] at e
   exact List.append_cancel_left e
  have := signL_whole h1
  rwa [e2] at this
 ·intro e
  obtain ⟨h3, h4⟩ := whole_sign e
  rw [h2, whole_text h3, h4]
theorem gWhole_no {r : List UInt8} {x : Nat} (h : gText r = .no x) : gWhole r = .no x := by
 unfold gWhole
 rw [h]
theorem plain_nil : plainL [] = [] := rfl
set_option maxHeartbeats 4000000 in
theorem r3whole_any (h : Rd3 w g r 0) (hr : r.length ≤ 1000000) : Calls Tryz.prog 164 #[.pointer (some ⟨g, 0, none⟩)] w (Got3 (fun l => .string (bs l)) (.string ⟨#[]⟩) (gWhole r) w g) := by
 have h0 : w.cell? ⟨g, 0, none⟩ = some (.string (bs r)) := Blk.cell h 0
 have h1 : w.cell? ⟨g, 1, none⟩ = some (.int .i64 0) := Blk.cell h 1
 have hlt := Blk.lt h
 have HT := hide (r3text_any (Blk.alloc h (.cells #[.string (bs r), .int .i64 0] 165)) hr)
 have HOA := hide (only_alloc (only_refl w (some g)) (.cells #[.string (bs r), .int .i64 0] 165))
 have HXA := hide (Blk.new w 165 #[.string (bs r), .int .i64 0])
 have HP := hide (fun (W : World) (l : List UInt8) (hl : l.length ≤ 1000000) => rPlain_any (bs l) W (by rw [bs_size]; exact hl))
 clear h
 go_enter Tryz.func164, Tryz.ntmps164
 go_wp2_with fail
 refine HT.out.mono ?_
 rintro e w3 (⟨s, r', hg, rfl, hr3, ho⟩ | ⟨x, r', hg, hx0, rfl, hr3, ho⟩)
 ·have hlen := congrArg List.length (gText_get hg).1
  simp only [textL, List.length_append, q4_len] at hlen
  have hsl : s.length ≤ 1000000 := by omega
  have HW := hide (fun W => rWhole_any (bs s) W (by rw [bs_size]; exact hsl))
  have HTx := hide (fun W => rText3_any (bs s) W (by rw [bs_size]; omega))
  have HP2 := hide (fun W => HP.out W s hsl)
  rw [bs_data] at HW HTx HP2
  rw [show q4 (bs s).size ++ s = textL s from rfl] at HTx
  have hiff := whole_iff (s := s) (by omega)
  have hGo := gWhole_of hg
  have c1 : w3.cell? ⟨g, 1, none⟩ = some (.int .i64 0) := Blk.cell hr3 1
  have HO3 := hide (only_trans HOA.out ho)
  cases hk : wholeK s with
  | true =>
   have HG := hide (show gWhole r = .ok (plainL s) r' from by rw [hGo, if_pos hk])
   have heq : ((bs (wholeL s)).toList == (bs (textL s)).toList) = true := by rw [hiff.2 hk]; exact beq_self_eq_true _
   generalize wholeL s = aa at HW heq
   generalize textL s = bb at HTx heq
   have Hr3 := hide hr3
   clear hg hiff hGo hk ho hlen hr3 HP HT HXA
   go_wp2_with (first
    | (go_at_call 171; refine (HW.out _).mono ?_; rintro e w4 ⟨rfl, hb4⟩)
    | (go_at_call 91; refine (HTx.out _).mono ?_; rintro e w5 ⟨rfl, hb5⟩)
    | (go_at_call 170; refine (HP2.out _).mono ?_; rintro e w6 ⟨rfl, hb6⟩)
    | fail)
   go_ret
   have hb36 : Below w3.heap.size w3 w6 := by exact bel_by
   exact .inl ⟨plainL s, r', HG.out, rfl, Rd3.below Hr3.out hb36, only_trans HO3.out (only_of_below hb36 _)⟩
  | false =>
   have HG := hide (show gWhole r = .no 3 from by rw [hGo, if_neg (by rw [hk]; decide)])
   have heq : ((bs (wholeL s)).toList == (bs (textL s)).toList) = false := bytes_ne (fun e => by
    have := hiff.1 (bs_inj e)
    rw [hk] at this
    cases this)
   generalize wholeL s = aa at HW heq
   generalize textL s = bb at HTx heq
   have hne : w.heap.size ≠ g := by omega
   have HX3 := hide (HXA.out.grown ho (fun e => hne (Option.some.inj e)))
   have Hr3 := hide hr3
   clear hg hiff hGo hk ho hlen hr3 HP HT HXA
   go_upto_region 4 with (first
    | (go_at_call 171; refine (HW.out _).mono ?_; rintro e w4 ⟨rfl, hb4⟩)
    | (go_at_call 91; refine (HTx.out _).mono ?_; rintro e w5 ⟨rfl, hb5⟩)
    | fail)
   have hb35 : Below w3.heap.size w3 w5 := by exact bel_by
   have HO5 := hide (only_trans HO3.out (only_of_below hb35 _))
   have hr5 : Rd3 w5 g r' 0 := Rd3.below Hr3.out hb35
   have x5 := (HX3.out.below hb35 HX3.out.lt).cell 0
   simp only [List.getElem?_toArray, List.getElem?_cons_zero] at x5
   have y0 : w5.cell? ⟨g, 0, none⟩ = some (.string (bs r')) := Blk.cell hr5 0
   have y1 : w5.cell? ⟨g, 1, none⟩ = some (.int .i64 0) := Blk.cell hr5 1
   have z0 : w5.frozen? ⟨g, 0, none⟩ = false := Blk.frozen hr5 0
   have z1 : w5.frozen? ⟨g, 1, none⟩ = false := Blk.frozen hr5 1
   have HF := hide (show Rd3 ((w5.setCell ⟨g, 0, none⟩ (.string (bs r))).setCell ⟨g, 1, none⟩ (.int .i64 3)) g r 3 from by
    have := Blk.set_ (Blk.set_ hr5 0 (.string (bs r))) 1 (.int .i64 3)
    unfold Rd3
    simpa using this)
   clear hr5 hb35 hb4 hb5 Hr3 HX3 c1
   go_wp2_with fail
   go_ret
   exact .inr ⟨3, r, HG.out, by decide, rfl, HF.out, only_setCell (only_setCell HO5.out (p := ⟨g, 0, none⟩) (.inl rfl) _) (p := ⟨g, 1, none⟩) (.inl rfl) _⟩
 ·have HG := hide (gWhole_no hg)
  have c1 : w3.cell? ⟨g, 1, none⟩ = some (.int .i64 (x : Nat)) := Blk.cell hr3 1
  have hx1 : ((x : Int) == 0) = false := by rw [beq_eq_false_iff_ne]; omega
  have HP2 := hide (fun W => HP.out W [] (by simp))
  rw [bs_data] at HP2
  rw [ plain_nil, show bs [] = ⟨#[]⟩ from rfl] at HP2
  have HO3 := hide (only_trans HOA.out ho)
  have Hr3 := hide hr3
  have Hx0 := hide hx0
  clear hg ho hr3 HP HT HXA hx0
  go_wp2_with (first
   | (go_at_call 170; refine (HP2.out _).mono ?_; rintro e w6 ⟨rfl, hb6⟩)
   | fail)
  go_ret
  exact .inr ⟨x, r', HG.out, Hx0.out, rfl, Rd3.below Hr3.out hb6, only_trans HO3.out (only_of_below hb6 _)⟩
theorem r3end_any (h : Rd3 w g r 0) : Calls Tryz.prog 126 #[.pointer (some ⟨g, 0, none⟩)] w (fun e w' => e = .returned (.int .i64 (endV r)) ∧ w' = w) := by
 have h0 : w.cell? ⟨g, 0, none⟩ = some (.string (bs r)) := Blk.cell h 0
 have h1 : w.cell? ⟨g, 1, none⟩ = some (.int .i64 0) := Blk.cell h 1
 cases r with
 | nil =>
  have hz : ¬ (0 : Int) < (bs ([] : List UInt8)).size := by rw [bs_size]; simp
  have E := hide (show endV [] = 0 from rfl)
  go_enter Tryz.func126, Tryz.ntmps126
  go_wp2_with fail
  go_ret
  exact ⟨by rw [E.out]; rfl, rfl⟩
 | cons c r =>
  have hz : (0 : Int) < (bs (c :: r)).size := by rw [bs_size]; simp
  have E := hide (show endV (c :: r) = 3 from by simp [endV])
  go_enter Tryz.func126, Tryz.ntmps126
  go_wp2_with fail
  go_ret
  exact ⟨by rw [E.out]; rfl, rfl⟩
end
end Go.Proofs.YtmgfcjpifkoahaaGreatDoor
