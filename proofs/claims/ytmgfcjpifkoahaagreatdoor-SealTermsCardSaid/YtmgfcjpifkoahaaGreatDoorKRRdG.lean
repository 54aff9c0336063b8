/-
  Several of my texts in one: RdX, RRd.
-/
import Derived.Test.YtmgfcjpifkoahaaGreatDoorKRdW
import Derived.Deep.RegionHeld3
import Derived.Deep.DeepCutAuto
set_option linter.unusedVariables false
set_option linter.unusedSimpArgs false
namespace Go.Proofs.YtmgfcjpifkoahaaGreatDoor
open Go.RowKit Go.ChangeShapes Go.WideShapes Go.Sort
def Gets {α : Type} (f : α → Value) (z : Value) (R : Res α) (w : World) (g : Nat) (s : ByteArray) (p : Nat) (e : Ending) (w' : World) : Prop :=
 (∃ a p', R = .ok a (s.data.toList.drop p') ∧ e = .returned (f a) ∧ Rdr w' g s p' 0 ∧ p' ≤ s.size ∧ w.grownBy w' (some g)) ∨
 (∃ x : Nat, R = .no x ∧ x ≠ 0 ∧ e = .returned z ∧ Rdr w' g s p x ∧ w.grownBy w' (some g))
theorem ext_bsn (s : ByteArray) (a n : Nat) : s.extract a (a + n) = bs ((s.data.toList.drop a).take n) := by
 apply bs_eq
 have := Lib.extract_data s a (a + n)
 rw [this]
 congr 1
 omega
theorem n4_take {l : List UInt8} (h : 4 ≤ l.length) : n4 (l.take 4) = n4 l := by
 match l, h with
 | x :: y :: z :: u :: q, _ => rfl
 | [], h => simp at h
 | [_], h => simp at h
 | [_, _], h => simp at h
 | [_, _, _], h => simp at h
theorem numb_ext {s : ByteArray} {p : Nat} (h : p + 4 ≤ s.size) : numb (s.extract p (p + 4)).data.toList = n4 (s.data.toList.drop p) := by
 have hl : 4 ≤ (s.data.toList.drop p).length := by
  rw [List.length_drop]
  show 4 ≤ s.size - p
  omega
 rw [ext_bsn, bs_data, numb4 _ (by rw [List.length_take]; omega), n4_take hl]
theorem drop_len (s : ByteArray) (p : Nat) : (s.data.toList.drop p).length = s.size - p := by
 rw [List.length_drop]
 rfl
theorem gText_short {r : List UInt8} (h : r.length < 4) : gText r = .no 4 := by
 unfold gText
 rw [if_pos h]
theorem gText_long {r : List UInt8} (h : ¬ r.length < 4) (h2 : r.length - 4 < n4 r) : gText r = .no 4 := by
 unfold gText
 rw [if_neg h, if_pos h2]
theorem gText_fit {r : List UInt8} (h : ¬ r.length < 4) (h2 : ¬ r.length - 4 < n4 r) : gText r = .ok ((r.drop 4).take (n4 r)) (r.drop (4 + n4 r)) := by
 unfold gText
 rw [if_neg h, if_neg h2]
def gRaw (r : List UInt8) : Res (List UInt8) := match gText r with
 | .no e => .no e
 | .ok s r' => if wholeK s = true then .ok s r' else .no 3
theorem gRaw_no {r : List UInt8} {e : Nat} (h : gText r = .no e) : gRaw r = .no e := by
 unfold gRaw
 rw [h]
theorem gRaw_ok {r s r' : List UInt8} (h : gText r = .ok s r') (hk : wholeK s = true) : gRaw r = .ok s r' := by
 unfold gRaw
 rw [h]
 simp only [hk, if_true]
theorem gRaw_bad {r s r' : List UInt8} (h : gText r = .ok s r') (hk : wholeK s = false) : gRaw r = .no 3 := by
 unfold gRaw
 rw [h]
 simp [hk]
theorem gWhole_raw (r : List UInt8) : gWhole r = (gRaw r).map plainL := by
 unfold gWhole gRaw
 cases gText r with
 | no e => rfl
 | ok s r' =>
  simp only
  split <;> rfl
def endV (l : List UInt8) : Nat := if l = [] then 0 else 3
section
variable {w : World} {g p : Nat} {s : ByteArray} {x : Int}
theorem wText_any2 (h : Rdr w g s p 0) (hs : s.size ≤ 1000000) (hp : p ≤ s.size) : Calls Tryz.prog 194 #[.pointer (some ⟨g, 0, none⟩), .func (.func 179) #[] #[]] w (Gets (fun l => .string (bs l)) (.string ⟨#[]⟩) (gText (s.data.toList.drop p)) w g s p) := by
 have hdl := drop_len s p
 by_cases h4 : s.size < p + 4
 ·refine (text_fourA h hs hp h4).mono ?_
  rintro e w' ⟨rfl, hr, ho⟩
  exact .inr ⟨4, gText_short (by omega), by decide, rfl, hr, ho⟩
 ·have hn := numb_ext (s := s) (p := p) (by omega)
  have hlt := n4_lt (s.data.toList.drop p)
  have hn4 : ¬ (s.data.toList.drop p).length < 4 := by omega
  by_cases h5 : s.size < p + 4 + n4 (s.data.toList.drop p)
  ·refine (text_goA (R := fun t w' => t = ⟨#[]⟩ ∧ Rdr w' g s p 4 ∧ w.grownBy w' (some g)) h hs (by omega) (hide (fun W hW hG => ?_))).mono ?_
   ·rw [hn]
    refine (take_shortA (k := 4) hW hs hp (by omega) hlt h5).mono ?_
    rintro e w' ⟨rfl, hr, ho⟩
    exact ⟨_, rfl, rfl, hr, only_trans hG ho⟩
   ·rintro e w' ⟨t, rfl, rfl, hr, ho⟩
    exact .inr ⟨4, gText_long hn4 (by omega), by decide, rfl, hr, ho⟩
  ·have hf := gText_fit hn4 (by omega : ¬ (s.data.toList.drop p).length - 4 < n4 (s.data.toList.drop p))
   refine (text_goA (R := fun t w' => t = bs (((s.data.toList.drop p).drop 4).take (n4 (s.data.toList.drop p))) ∧ Rdr w' g s (p + 4 + n4 (s.data.toList.drop p)) 0 ∧ w.grownBy w' (some g)) h hs (by omega) (hide (fun W hW hG => ?_))).mono ?_
   ·rw [hn]
    refine (take_yesA (k := 4) hW hs (by omega) (hide (fun W2 => wall_any _ W2))).mono ?_
    rintro e w' ⟨rfl, hr, ho⟩
    exact ⟨_, rfl, by rw [ext_bsn, List.drop_drop], hr, only_trans hG ho⟩
   ·rintro e w' ⟨t, rfl, rfl, hr, ho⟩
    refine .inl ⟨_, _, ?_, rfl, hr, by omega, ho⟩
    rw [hf]
    simp only [List.drop_drop, Nat.add_assoc]
theorem wRaw_any2 (h : Rdr w g s p 0) (hs : s.size ≤ 1000000) (hp : p ≤ s.size) : Calls Tryz.prog 194 #[.pointer (some ⟨g, 0, none⟩), .func (.func 195) #[] #[]] w (Gets (fun l => .string (bs l)) (.string ⟨#[]⟩) (gRaw (s.data.toList.drop p)) w g s p) := by
 have hdl := drop_len s p
 by_cases h4 : s.size < p + 4
 ·refine (text_fourW h hs hp h4).mono ?_
  rintro e w' ⟨rfl, hr, ho⟩
  exact .inr ⟨4, gRaw_no (gText_short (by omega)), by decide, rfl, hr, ho⟩
 ·have hn := numb_ext (s := s) (p := p) (by omega)
  have hlt := n4_lt (s.data.toList.drop p)
  have hn4 : ¬ (s.data.toList.drop p).length < 4 := by omega
  by_cases h5 : s.size < p + 4 + n4 (s.data.toList.drop p)
  ·refine (text_goW (R := fun t w' => t = ⟨#[]⟩ ∧ Rdr w' g s p 4 ∧ w.grownBy w' (some g)) h hs (by omega) (hide (fun W hW hG => ?_))).mono ?_
   ·rw [hn]
    refine (take_shortW (k := 4) hW hs hp (by omega) hlt h5).mono ?_
    rintro e w' ⟨rfl, hr, ho⟩
    exact ⟨_, rfl, rfl, hr, only_trans hG ho⟩
   ·rintro e w' ⟨t, rfl, rfl, hr, ho⟩
    exact .inr ⟨4, gRaw_no (gText_long hn4 (by omega)), by decide, rfl, hr, ho⟩
  ·have hf := gText_fit hn4 (by omega : ¬ (s.data.toList.drop p).length - 4 < n4 (s.data.toList.drop p))
   have hext : s.extract (p + 4) (p + 4 + n4 (s.data.toList.drop p)) = bs (((s.data.toList.drop p).drop 4).take (n4 (s.data.toList.drop p))) := by rw [ext_bsn, List.drop_drop]
   have hsz : (s.extract (p + 4) (p + 4 + n4 (s.data.toList.drop p))).size ≤ 1000000 := by rw [ByteArray.size_extract]; omega
   have HW := hide (fun W2 => wwhole_any (s.extract (p + 4) (p + 4 + n4 (s.data.toList.drop p))) hsz W2)
   rw [hext, bs_data, ← hext] at HW
   cases hk : wholeK (((s.data.toList.drop p).drop 4).take (n4 (s.data.toList.drop p))) with
   | true =>
    rw [hk] at HW
    refine (text_goW (R := fun t w' => t = bs (((s.data.toList.drop p).drop 4).take (n4 (s.data.toList.drop p))) ∧ Rdr w' g s (p + 4 + n4 (s.data.toList.drop p)) 0 ∧ w.grownBy w' (some g)) h hs (by omega) (hide (fun W hW hG => ?_))).mono ?_
    ·rw [hn]
     refine (take_yesW (k := 4) hW hs (by omega) HW).mono ?_
     rintro e w' ⟨rfl, hr, ho⟩
     exact ⟨_, rfl, hext, hr, only_trans hG ho⟩
    ·rintro e w' ⟨t, rfl, rfl, hr, ho⟩
     refine .inl ⟨_, _, ?_, rfl, hr, by omega, ho⟩
     rw [gRaw_ok hf hk]
     simp only [List.drop_drop, Nat.add_assoc]
   | false =>
    rw [hk] at HW
    refine (text_goW (R := fun t w' => t = ⟨#[]⟩ ∧ Rdr w' g s p 3 ∧ w.grownBy w' (some g)) h hs (by omega) (hide (fun W hW hG => ?_))).mono ?_
    ·rw [hn]
     refine (take_badW (k := 4) hW hs (by omega) HW).mono ?_
     rintro e w' ⟨rfl, hr, ho⟩
     exact ⟨_, rfl, rfl, hr, only_trans hG ho⟩
    ·rintro e w' ⟨t, rfl, rfl, hr, ho⟩
     exact .inr ⟨3, gRaw_bad hf hk, by decide, rfl, hr, ho⟩
theorem rdText_any (h : Rdr w g s p 0) (hs : s.size ≤ 1000000) (hp : p ≤ s.size) : Calls Tryz.prog 146 #[.pointer (some ⟨g, 0, none⟩)] w (Gets (fun l => .string (bs l)) (.string ⟨#[]⟩) (gText (s.data.toList.drop p)) w g s p) := by
 have H := hide (wText_any2 h hs hp)
 clear h
 go_enter Tryz.func146, Tryz.ntmps146
 go_wp2_with fail
 refine H.out.mono ?_
 rintro e w1 (⟨a, p', h1, rfl, h2, h3, h4⟩ | ⟨x, h1, h2, rfl, h3, h4⟩)
 ·go_wp2_with fail
  go_ret
  exact .inl ⟨a, p', h1, rfl, h2, h3, h4⟩
 ·go_wp2_with fail
  go_ret
  exact .inr ⟨x, h1, h2, rfl, h3, h4⟩
theorem rdText_err (h : Rdr w g s p x) (hx : (x == 0) = false) : Calls Tryz.prog 146 #[.pointer (some ⟨g, 0, none⟩)] w (Took w g s ⟨#[]⟩ p x) := by
 have H := hide (text_errA h hx)
 clear h
 go_enter Tryz.func146, Tryz.ntmps146
 go_wp2_with fail
 refine H.out.mono ?_
 rintro e w1 ⟨rfl, h1, h2⟩
 go_wp2_with fail
 go_ret
 exact ⟨rfl, h1, h2⟩
theorem rdWhole_any (h : Rdr w g s p 0) (hs : s.size ≤ 1000000) (hp : p ≤ s.size) : Calls Tryz.prog 144 #[.pointer (some ⟨g, 0, none⟩)] w (Gets (fun l => .string (bs l)) (.string ⟨#[]⟩) (gWhole (s.data.toList.drop p)) w g s p) := by
 have H := hide (wRaw_any2 h hs hp)
 have HG := hide (gWhole_raw (s.data.toList.drop p))
 have HP0 := hide (fun W => wPlain_any [] W)
 clear h
 go_enter Tryz.func144, Tryz.ntmps144
 go_wp2_with fail
 refine H.out.mono ?_
 rintro e w1 (⟨a, p', h1, rfl, h2, h3, h4⟩ | ⟨x, h1, h2, rfl, h3, h4⟩)
 ·have HP := hide (wPlain_any a w1)
  have H1 := hide h1
  clear h1 HP0
  go_wp2_with fail
  refine HP.out.mono ?_
  rintro e w2 ⟨rfl, hb2⟩
  go_wp2_with fail
  go_ret
  refine .inl ⟨plainL a, p', ?_, rfl, h2.below hb2, h3, only_trans h4 (only_of_below hb2 _)⟩
  rw [HG.out, H1.out, Res.map_ok]
 ·have HP := hide (HP0.out w1)
  have H1 := hide h1
  clear h1 HP0
  rw [show bs [] = ⟨#[]⟩ from rfl] at HP
  go_wp2_with fail
  refine HP.out.mono ?_
  rintro e w2 ⟨rfl, hb2⟩
  go_wp2_with fail
  go_ret
  refine .inr ⟨x, ?_, h2, rfl, h3.below hb2, only_trans h4 (only_of_below hb2 _)⟩
  rw [HG.out, H1.out]
  rfl
theorem rdBytes_any (h : Rdr w g s p 0) (hs : s.size ≤ 1000000) (hp : p ≤ s.size) : Calls Tryz.prog 147 #[.pointer (some ⟨g, 0, none⟩), .int .i64 16] w (Gets (fun l => .string (bs l)) (.string ⟨#[]⟩) (gBytes 16 (s.data.toList.drop p)) w g s p) := by
 have hdl := drop_len s p
 by_cases h4 : s.size < p + 16
 ·have i2 : (s.size : Int) - p < 16 := by omega
  have hg : gBytes 16 (s.data.toList.drop p) = .no 4 := by
   unfold gBytes
   rw [if_pos (by omega)]
  have f1 : w.frozen? ⟨g, 2, none⟩ = false := Blk.frozen h 2
  have h2 : w.cell? ⟨g, 2, none⟩ = some (.int .i64 0) := Blk.cell h 2
  have HG := hide hg
  have HT := hide (fun W (hW : Rdr W g s p 0) => take_negA hW)
  have HH := hide (And.intro hs hp)
  clear hg hdl
  go_enter Tryz.func147, Tryz.ntmps147
  go_wp2_with (first | (go_at_call 151; refine (wleft_any h HH.out.2 HH.out.1).mono ?_; rintro e w2 ⟨rfl, m2, rfl⟩) | fail)
  refine (HT.out _ (Blk.drewN h _)).mono ?_
  rintro e w3 ⟨rfl, hr, ho⟩
  go_wp2_with fail
  go_ret
  exact .inr ⟨4, HG.out, by decide, rfl, hr, only_trans (only_drewN (only_refl _ _) _) ho⟩
 ·have i2 : ¬ (s.size : Int) - p < 16 := by omega
  have hg : gBytes 16 (s.data.toList.drop p) = .ok ((s.data.toList.drop p).take 16) (s.data.toList.drop (p + 16)) := by
   unfold gBytes
   rw [if_neg (by omega), List.drop_drop]
  have HG := hide hg
  have HT := hide (fun W (hW : Rdr W g s p 0) => take_yesA (k := 0) (n := 16) hW hs (by omega) (hide (fun W2 => wall_any _ W2)))
  have HH := hide (And.intro hs (And.intro hp h4))
  clear hg hdl h4
  go_enter Tryz.func147, Tryz.ntmps147
  go_wp2_with (first | (go_at_call 151; refine (wleft_any h HH.out.2.1 HH.out.1).mono ?_; rintro e w2 ⟨rfl, m2, rfl⟩) | fail)
  refine (HT.out _ (Blk.drewN h _)).mono ?_
  rintro e w3 ⟨rfl, hr, ho⟩
  go_wp2_with fail
  go_ret
  refine .inl ⟨_, p + 16, HG.out, ?_, hr, by have := HH.out; omega, only_trans (only_drewN (only_refl _ _) _) ho⟩
  exact congrArg (fun t => Ending.returned (.string t)) (ext_bsn s p 16)
theorem rdU32_any (h : Rdr w g s p 0) (hs : s.size ≤ 1000000) (hp : p ≤ s.size) : Calls Tryz.prog 139 #[.pointer (some ⟨g, 0, none⟩)] w (Gets (fun n : Nat => .int .u32 n) (.int .u32 0) (gU32 (s.data.toList.drop p)) w g s p) := by
 have hdl := drop_len s p
 by_cases h4 : s.size < p + 4
 ·have hg : gU32 (s.data.toList.drop p) = .no 4 := by
   unfold gU32
   rw [if_pos (by omega)]
  have HG := hide hg
  have HT := hide (take_shortA (k := 0) (n := 4) h hs hp (by omega) (by omega) (by omega))
  have HN := hide (fun W => wnumber_any ⟨#[]⟩ W (by decide))
  clear hg hdl
  go_enter Tryz.func139, Tryz.ntmps139
  go_wp2_with fail
  refine HT.out.mono ?_
  rintro e w3 ⟨rfl, hr, ho⟩
  go_wp2_with fail
  refine (HN.out _).mono ?_
  rintro e w4 ⟨rfl, rfl⟩
  go_wp2_with fail
  go_ret
  exact .inr ⟨4, HG.out, by decide, rfl, hr, ho⟩
 ·have hg : gU32 (s.data.toList.drop p) = .ok (n4 (s.data.toList.drop p)) (s.data.toList.drop (p + 4)) := by
   unfold gU32
   rw [if_neg (by omega), List.drop_drop]
  have HG := hide hg
  have HT := hide (take_yesA (k := 0) (n := 4) h hs (by omega) (hide (fun W2 => wall_any _ W2)))
  have HN := hide (fun W => wnumber_any (s.extract (p + 0) (p + 0 + 4)) W (by rw [ByteArray.size_extract]; omega))
  have hnn := numb_ext (s := s) (p := p) (by omega)
  rw [Nat.add_zero] at HT HN
  rw [hnn] at HN
  have HH := hide h4
  generalize n4 (s.data.toList.drop p) = q at HG HN
  clear hg hdl hnn h4
  go_enter Tryz.func139, Tryz.ntmps139
  go_wp2_with fail
  refine HT.out.mono ?_
  rintro e w3 ⟨rfl, hr, ho⟩
  go_wp2_with fail
  refine (HN.out _).mono ?_
  rintro e w4 ⟨rfl, rfl⟩
  go_wp2_with fail
  go_ret
  exact .inl ⟨_, p + 4, HG.out, rfl, hr, by have := HH.out; omega, ho⟩
theorem rdBool_any (h : Rdr w g s p 0) (hs : s.size ≤ 1000000) (hp : p ≤ s.size) : Calls Tryz.prog 143 #[.pointer (some ⟨g, 0, none⟩)] w (Gets (fun n : Int => .bool (n == 1)) (.bool false) (gBool (s.data.toList.drop p)) w g s p) := by
 have hdl := drop_len s p
 by_cases h4 : s.size < p + 1
 ·have hg : gBool (s.data.toList.drop p) = .no 4 := by
   have : s.data.toList.drop p = [] := List.eq_nil_of_length_eq_zero (by omega)
   rw [this]
   rfl
  have HG := hide hg
  have HT := hide (take_shortB (k := 0) (n := 1) h hs hp (by omega) (by omega) (by omega))
  clear hg hdl
  go_enter Tryz.func143, Tryz.ntmps143
  go_wp2_with fail
  refine HT.out.mono ?_
  rintro e w3 ⟨rfl, hr, ho⟩
  go_wp2_with fail
  go_ret
  exact .inr ⟨4, HG.out, by decide, rfl, hr, ho⟩
 ·obtain ⟨c, r, hcr⟩ := List.exists_cons_of_ne_nil (show s.data.toList.drop p ≠ [] from fun e => by rw [e] at hdl; simp at hdl; omega)
  have hr1 : s.data.toList.drop (p + 1) = r := by
   rw [← List.drop_drop, hcr]
   rfl
  have hext : s.extract (p + 0) (p + 0 + 1) = bs [c] := by
   rw [ext_bsn, Nat.add_zero, hcr]
   rfl
  have HB := hide (fun W => wbit_any (bs [c]) rfl W)
  have hz1 : 0 < (bs [c]).size := Nat.zero_lt_one
  have hb0 : (bs [c])[0] = c := rfl
  have hlt := c.toNat_lt
  by_cases hc : c.toNat ≤ 1
  ·have hg : gBool (s.data.toList.drop p) = .ok c.toNat (s.data.toList.drop (p + 1)) := by rw [hcr, gBool_cons, if_pos hc, hr1]
   rw [show decide ((bs [c])[0].toNat ≤ 1) = true from by rw [hb0]; exact decide_eq_true hc, ← hext] at HB
   have HT := hide (take_yesB (k := 0) (n := 1) h hs (by omega) HB)
   rw [hext] at HT
   have HG := hide hg
   have HH := hide h4
   clear hg hdl hcr hr1 hext HB hb0 hz1 h4
   obtain h01 | h01 : c.toNat = 0 ∨ c.toNat = 1 := by omega
   ·obtain rfl : c = 0 := UInt8.toNat_inj.1 (by simpa using h01)
    have ht : ((bs [0]).toList == [1]) = false := by decide +kernel
    go_enter Tryz.func143, Tryz.ntmps143
    go_wp2_with fail
    refine HT.out.mono ?_
    rintro e w3 ⟨rfl, hr, ho⟩
    go_wp2_with fail
    go_ret
    exact .inl ⟨_, p + 1, HG.out, rfl, hr, by have := HH.out; omega, ho⟩
   ·obtain rfl : c = 1 := UInt8.toNat_inj.1 (by simpa using h01)
    have ht : ((bs [1]).toList == [1]) = true := by decide +kernel
    go_enter Tryz.func143, Tryz.ntmps143
    go_wp2_with fail
    refine HT.out.mono ?_
    rintro e w3 ⟨rfl, hr, ho⟩
    go_wp2_with fail
    go_ret
    exact .inl ⟨_, p + 1, HG.out, rfl, hr, by have := HH.out; omega, ho⟩
  ·have hg : gBool (s.data.toList.drop p) = .no 3 := by rw [hcr, gBool_cons, if_neg hc]
   rw [show decide ((bs [c])[0].toNat ≤ 1) = false from by rw [hb0]; exact decide_eq_false hc, ← hext] at HB
   have HT := hide (take_badB (k := 0) (n := 1) h hs (by omega) HB)
   have HG := hide hg
   clear hg hdl hcr hr1 hext HB hb0 hz1 h4
   go_enter Tryz.func143, Tryz.ntmps143
   go_wp2_with fail
   refine HT.out.mono ?_
   rintro e w3 ⟨rfl, hr, ho⟩
   go_wp2_with fail
   go_ret
   exact .inr ⟨3, HG.out, by decide, rfl, hr, ho⟩
theorem rdEnd_any (h : Rdr w g s p 0) (hs : s.size ≤ 1000000) (hp : p ≤ s.size) : Calls Tryz.prog 113 #[.pointer (some ⟨g, 0, none⟩)] w (fun e w' => e = .returned (.int .i64 (endV (s.data.toList.drop p))) ∧ w.grownBy w' (some g)) := by
 have hdl := drop_len s p
 by_cases h0 : p = s.size
 ·have E := hide (show endV (s.data.toList.drop p) = 0 from if_pos (List.eq_nil_of_length_eq_zero (by omega)))
  have i1 : (((s.size : Int) - p) == 0) = true := by rw [beq_iff_eq]; omega
  clear hdl h0
  go_enter Tryz.func113, Tryz.ntmps113
  go_wp2_with fail
  refine (werr_any h).mono ?_
  rintro e w1 ⟨rfl, rfl⟩
  go_wp2_with (first | (go_at_call 151; refine (wleft_any h hp hs).mono ?_; rintro e w2 ⟨rfl, m2, rfl⟩) | fail)
  go_ret
  exact ⟨by rw [E.out]; rfl, only_drewN (only_refl _ _) _⟩
 ·have E := hide (show endV (s.data.toList.drop p) = 3 from if_neg (fun e => by rw [e] at hdl; simp at hdl; omega))
  have i1 : (((s.size : Int) - p) == 0) = false := by rw [beq_eq_false_iff_ne]; omega
  clear hdl h0
  go_enter Tryz.func113, Tryz.ntmps113
  go_wp2_with fail
  refine (werr_any h).mono ?_
  rintro e w1 ⟨rfl, rfl⟩
  go_wp2_with (first | (go_at_call 151; refine (wleft_any h hp hs).mono ?_; rintro e w2 ⟨rfl, m2, rfl⟩) | fail)
  go_ret
  exact ⟨by rw [E.out]; rfl, only_drewN (only_refl _ _) _⟩
end
end Go.Proofs.YtmgfcjpifkoahaaGreatDoor
namespace Go.Proofs.YtmgfcjpifkoahaaGreatDoor
open Go.RowKit Go.ChangeShapes Go.WideShapes Go.Sort
def Rd3 (w : World) (g : Nat) (r : List UInt8) (e : Int) : Prop := Blk w g 165 #[.string (bs r), .int .i64 e]
theorem Rd3.below {w w' : World} {g : Nat} {r : List UInt8} {e : Int} (h : Rd3 w g r e) (hb : Below w.heap.size w w') : Rd3 w' g r e := Blk.below h hb (Blk.lt h)
end Go.Proofs.YtmgfcjpifkoahaaGreatDoor
