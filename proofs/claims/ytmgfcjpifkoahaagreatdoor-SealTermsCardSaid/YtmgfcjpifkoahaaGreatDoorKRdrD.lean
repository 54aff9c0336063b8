/-
  The contracts of code's leaf and share: terms made of no others; a group and exponents in order. Conditions: at most MaxTerm bytes.
-/
import Derived.Test.YtmgfcjpifkoahaaGreatDoorKRdrC
set_option linter.unusedVariables false
set_option linter.unusedSimpArgs false
namespace Go.Proofs.YtmgfcjpifkoahaaGreatDoor
open Go.RowKit Go.ChangeShapes Go.WideShapes Go.Sort
section
variable {B b g p p0 N : Nat} {s : ByteArray} {T : List Tm} {S : Nat → Prop} {w w1 w2 : World} {c : UInt8} {s1 : List UInt8}
theorem got_none {p1 : Nat} (hN : NoT (s.data.toList.drop p0)) (hR : Rd B b g s p1 T S w1) (hG : Grown (SR b S) w (SR b S) w1) (hle : p ≤ p1) : Got B b g s p0 p T S w (.returned (.int .i64 (-1))) w1 :=
 ⟨T, -1, S, p1, none, rfl, idn_none _, readT_none hN, hR, hG, List.prefix_refl _, by omega, hle⟩
theorem got_leaf {k a b' : Nat} {s' : ByteArray} {p1 : Nat} (h1 : s.data.toList.drop p0 = c :: s1) (hc : c.toNat = 240 + k) (hk : k ≤ 10) (hH : Hed k a b' s' 0 s1 (s.data.toList.drop p1))
  (hR : Rd B b g s p1 T S w1) (hG : Grown (SR b S) w (SR b S) w1) (hle : p ≤ p1) {o : Option Tm} (ho : MadeOf k a b' s' [] o) {e : Ending} (hD : Done B w1 g T S o e w2) (hpp : p0 < p) (hK : T.length + 2 * (s.size - p0) ≤ 900000000) : Got B b g s p0 p T S w e w2 := by
 obtain ⟨T2, m, S2, rfl, hP, hA, hG2⟩ := hD
 have h3 := hP.len
 have h5 := hR.hp
 exact ⟨T2, m, S2, p1, o, rfl, hP.idn, readT_fin hR.hs h1 hc hk hH (l := []) trivial rfl (by simp [encs]) ho, hR.grown hG2 hA (by omega), hG.trans (hG2.sr b), hP.pre, by omega, hle⟩
theorem rd_cells (h : Rd B b g s p T S w) : w.cell? ⟨b, 0, none⟩ = some (.pointer (some ⟨g, 0, none⟩)) := Blk.cell h.bk 0
def TextP (B b g : Nat) (s : ByteArray) (p : Nat) (T : List Tm) (S : Nat → Prop) (w : World) (e : Ending) (w' : World) : Prop :=
 (∃ p', e = .returned (.tuple #[.string ⟨#[]⟩, .bool false]) ∧ (s.size < p + 4 ∨ (p + 4 ≤ s.size ∧ s.size < p + 4 + n4 (s.data.toList.drop p))) ∧ Rd B b g s p' T S w' ∧ Grown (SR b S) w (SR b S) w' ∧ p ≤ p') ∨
 (∃ n, n = n4 (s.data.toList.drop p) ∧ p + 4 + n ≤ s.size ∧ e = .returned (.tuple #[.string (bs ((s.data.toList.drop (p + 4)).take n)), .bool true]) ∧ Rd B b g s (p + 4 + n) T S w' ∧ Grown (SR b S) w (SR b S) w')
theorem text_all (h : Rd B b g s p T S w) : Calls Tryz.prog 185 #[.pointer (some ⟨b, 0, none⟩)] w (TextP B b g s p T S w) := by
 have hs : s.size ≤ 1000000 := by have := h.hs; omega
 by_cases h4 : s.size < p + 4
 ·refine (cText1_no1 h.bk hs h.hp h4).mono ?_
  rintro e w' ⟨rfl, hB, hG⟩
  exact .inl ⟨p, rfl, .inl h4, h.by_ hB hG h.hp (Nat.le_refl _), grown_by hG, Nat.le_refl _⟩
 ·by_cases h5 : s.size < p + 4 + n4 (s.data.toList.drop p)
  ·refine (cText1_no2 h.bk hs rfl (by omega) h5).mono ?_
   rintro e w' ⟨rfl, hB, hG⟩
   exact .inl ⟨p + 4, rfl, .inr ⟨by omega, h5⟩, h.by_ hB hG (by omega) (by omega), grown_by hG, by omega⟩
  ·refine (cText1_yes h.bk hs rfl (by omega)).mono ?_
   rintro e w' ⟨rfl, hB, hG⟩
   exact .inr ⟨_, rfl, by omega, rfl, h.by_ hB hG (by omega) (by omega), grown_by hG⟩
def NumP (B b g : Nat) (s : ByteArray) (p : Nat) (T : List Tm) (S : Nat → Prop) (w : World) (e : Ending) (w' : World) : Prop :=
 (e = .returned (.tuple #[.int .i64 0, .bool false]) ∧ s.size < p + 4 ∧ Rd B b g s p T S w' ∧ Grown (SR b S) w (SR b S) w') ∨
 (p + 4 ≤ s.size ∧ e = .returned (.tuple #[.int .i64 (n4 (s.data.toList.drop p)), .bool true]) ∧ Rd B b g s (p + 4) T S w' ∧ Grown (SR b S) w (SR b S) w')
theorem num_all (h : Rd B b g s p T S w) : Calls Tryz.prog 188 #[.pointer (some ⟨b, 0, none⟩)] w (NumP B b g s p T S w) := by
 have hs : s.size ≤ 1000000 := by have := h.hs; omega
 by_cases h4 : s.size < p + 4
 ·refine (cNum_no h.bk hs h.hp h4).mono ?_
  rintro e w' ⟨rfl, hB, hG⟩
  exact .inl ⟨rfl, h4, h.by_ hB hG h.hp (Nat.le_refl _), grown_by hG⟩
 ·refine (cNum_yes h.bk hs (by omega)).mono ?_
  rintro e w' ⟨rfl, hB, hG⟩
  exact .inr ⟨by omega, rfl, h.by_ hB hG (by omega) (by omega), grown_by hG⟩
def ByteP (B b g : Nat) (s : ByteArray) (p : Nat) (T : List Tm) (S : Nat → Prop) (w : World) (e : Ending) (w' : World) : Prop :=
 (e = .returned (.tuple #[.int .u8 0, .bool false]) ∧ p = s.size ∧ Rd B b g s p T S w' ∧ Grown (SR b S) w (SR b S) w') ∨
 (∃ c : UInt8, s.data.toList.drop p = c :: s.data.toList.drop (p + 1) ∧ p + 1 ≤ s.size ∧ e = .returned (.tuple #[.int .u8 c.toNat, .bool true]) ∧ Rd B b g s (p + 1) T S w' ∧ Grown (SR b S) w (SR b S) w')
theorem byte_all (h : Rd B b g s p T S w) : Calls Tryz.prog 180 #[.pointer (some ⟨b, 0, none⟩)] w (ByteP B b g s p T S w) := by
 have hs : s.size ≤ 1000000 := by have := h.hs; omega
 refine (byte1_any h.bk hs h.hp).mono ?_
 rintro e w' ⟨p', he, hB, hG⟩
 by_cases hlt : p < s.size
 ·rw [dif_pos hlt] at he
  obtain ⟨rfl, rfl⟩ := he
  exact .inr ⟨s[p], drop_cons (s := s.data.toList) hlt, hlt, rfl, h.by_ hB hG hlt (by omega), grown_by hG⟩
 ·rw [dif_neg hlt] at he
  obtain ⟨rfl, rfl⟩ := he
  have := h.hp
  exact .inl ⟨rfl, by omega, h.by_ hB hG h.hp (Nat.le_refl _), grown_by hG⟩
set_option maxHeartbeats 1000000 in
set_option maxRecDepth 100000 in
theorem leaf_data (h : Rd B b g s (p0 + 1) T S w) (h1 : s.data.toList.drop p0 = c :: s.data.toList.drop (p0 + 1)) (hc : c.toNat = 241) (hK : T.length + 2 * (s.size - p0) ≤ 900000000) :
  Calls Tryz.prog 191 #[.pointer (some ⟨b, 0, none⟩), .int .i64 1] w (Got B b g s p0 (p0 + 1) T S w) := by
 have HX := hide (text_all h)
 have H := hide h
 have H1 := hide h1
 have hlen := h.len
 have hsz := h.hs
 clear h h1
 go_enter Tryz.func191, Tryz.ntmps191
 go_wp2_with fail
 refine HX.out.mono ?_
 rintro e w1 (⟨p1, rfl, hno, hR, hG, hle⟩ | ⟨n, hn, h5, rfl, hR, hG⟩)
 ·go_wp2_with fail
  go_ret
  refine got_none ?_ hR hG hle
  rw [H1.out]
  exact no1 hc (by omega)
 ·have hb0 := rd_cells hR
  have hnl : (bs ((s.data.toList.drop (p0 + 1 + 4)).take n)).size ≤ 1000000 := by
   show ((s.data.toList.drop (p0 + 1 + 4)).take n).length ≤ 1000000
   rw [List.length_take]
   omega
  have HD := hide (aData_any hR.use hnl)
  have hH : Hed 1 0 0 (bs ((s.data.toList.drop (p0 + 1 + 4)).take n)) 0 (s.data.toList.drop (p0 + 1)) (s.data.toList.drop (p0 + 1 + 4 + n)) := by
   have := hed1 (s1 := s.data.toList.drop (p0 + 1)) (by omega) (by omega)
   rw [List.drop_drop, List.drop_drop, ← hn] at this
   rw [show p0 + 1 + 4 + n = p0 + 1 + (4 + n) by omega]
   exact this
  have HF := hide (fun e w2 (hD : Done B w1 g T S (tData (bs ((s.data.toList.drop (p0 + 1 + 4)).take n))) e w2) => got_leaf (w := w) (p := p0 + 1) H1.out hc (by omega) hH hR hG (by omega) (madeOf_data _ (by omega)) hD (by omega) hK)
  clear hH hR hG hn hnl
  generalize bs ((s.data.toList.drop (p0 + 1 + 4)).take n) = x at HD HF ⊢
  go_wp2_with fail
  refine HD.out.mono ?_
  intro e w2 hD
  have hF := hide (HF.out e w2 hD)
  obtain ⟨T2, m, S2, rfl, _⟩ := hD
  go_wp2_with fail
  go_ret
  exact hF.out
set_option maxHeartbeats 1000000 in
set_option maxRecDepth 100000 in
theorem leaf_key (h : Rd B b g s (p0 + 1) T S w) (h1 : s.data.toList.drop p0 = c :: s.data.toList.drop (p0 + 1)) (hc : c.toNat = 243) (hK : T.length + 2 * (s.size - p0) ≤ 900000000) :
  Calls Tryz.prog 191 #[.pointer (some ⟨b, 0, none⟩), .int .i64 3] w (Got B b g s p0 (p0 + 1) T S w) := by
 have HX := hide (num_all h)
 have H1 := hide h1
 have hlen := h.len
 clear h h1
 go_enter Tryz.func191, Tryz.ntmps191
 go_wp2_with fail
 refine HX.out.mono ?_
 rintro e w1 (⟨rfl, hno, hR, hG⟩ | ⟨h4, rfl, hR, hG⟩)
 ·go_wp2_with fail
  go_ret
  refine got_none ?_ hR hG (Nat.le_refl _)
  rw [H1.out]
  exact no3 hc (by omega)
 ·have hb0 := rd_cells hR
  have HD := hide (aKey_any hR.use (n4 (s.data.toList.drop (p0 + 1)) : Nat))
  have hH : Hed 3 (n4 (s.data.toList.drop (p0 + 1))) 0 eB 0 (s.data.toList.drop (p0 + 1)) (s.data.toList.drop (p0 + 1 + 4)) := by
   have := hed3 (s1 := s.data.toList.drop (p0 + 1)) (by omega)
   rw [List.drop_drop] at this
   exact this
  have HF := hide (fun e w2 hD => got_leaf (e := e) (w2 := w2) (w := w) (p := p0 + 1) H1.out hc (by omega) hH hR hG (by omega) (madeOf_key _) hD (by omega) hK)
  clear hH hR hG
  generalize n4 (s.data.toList.drop (p0 + 1)) = x at HD HF ⊢
  go_wp2_with fail
  refine HD.out.mono ?_
  intro e w2 hD
  have hF := hide (HF.out e w2 hD)
  obtain ⟨T2, m, S2, rfl, _⟩ := hD
  go_wp2_with fail
  go_ret
  exact hF.out
set_option maxHeartbeats 1000000 in
set_option maxRecDepth 100000 in
theorem leaf_nonce (h : Rd B b g s (p0 + 1) T S w) (h1 : s.data.toList.drop p0 = c :: s.data.toList.drop (p0 + 1)) (hc : c.toNat = 242) (hK : T.length + 2 * (s.size - p0) ≤ 900000000) :
  Calls Tryz.prog 191 #[.pointer (some ⟨b, 0, none⟩), .int .i64 2] w (Got B b g s p0 (p0 + 1) T S w) := by
 have HX := hide (num_all h)
 have H1 := hide h1
 have hlen := h.len
 clear h h1
 go_enter Tryz.func191, Tryz.ntmps191
 go_wp2_with fail
 refine HX.out.mono ?_
 rintro e w1 (⟨rfl, hno, hR, hG⟩ | ⟨h4, rfl, hR, hG⟩)
 ·have HY := hide (num_all hR)
  go_wp2_with fail
  refine HY.out.mono ?_
  rintro e w2 (⟨rfl, hno2, hR2, hG2⟩ | ⟨h42, rfl, hR2, hG2⟩)
  ·go_wp2_with fail
   go_ret
   refine got_none ?_ hR2 (hG.trans hG2) (Nat.le_refl _)
   rw [H1.out]
   exact no2 hc (by omega)
  ·omega
 ·have HY := hide (num_all hR)
  go_wp2_with fail
  refine HY.out.mono ?_
  rintro e w2 (⟨rfl, hno2, hR2, hG2⟩ | ⟨h42, rfl, hR2, hG2⟩)
  ·go_wp2_with fail
   go_ret
   refine got_none ?_ hR2 (hG.trans hG2) (by omega)
   rw [H1.out]
   exact no2 hc (by omega)
  ·have hb0 := rd_cells hR2
   have HD := hide (aNonce_any hR2.use (n4 (s.data.toList.drop (p0 + 1)) : Nat) (n4 (s.data.toList.drop (p0 + 1 + 4)) : Nat))
   have hH : Hed 2 (n4 (s.data.toList.drop (p0 + 1))) (n4 (s.data.toList.drop (p0 + 1 + 4))) eB 0 (s.data.toList.drop (p0 + 1)) (s.data.toList.drop (p0 + 1 + 4 + 4)) := by
    have := hed2 (s1 := s.data.toList.drop (p0 + 1)) (by omega)
    rw [List.drop_drop, List.drop_drop] at this
    exact this
   have HF := hide (fun e w3 hD => got_leaf (e := e) (w2 := w3) (w := w) (p := p0 + 1) H1.out hc (by omega) hH hR2 (hG.trans hG2) (by omega) (madeOf_nonce _ _) hD (by omega) hK)
   clear hH hR hG hR2 hG2 HY
   generalize n4 (s.data.toList.drop (p0 + 1)) = x at HD HF ⊢
   generalize n4 (s.data.toList.drop (p0 + 1 + 4)) = y at HD HF ⊢
   go_wp2_with fail
   refine HD.out.mono ?_
   intro e w3 hD
   have hF := hide (HF.out e w3 hD)
   obtain ⟨T2, m, S2, rfl, _⟩ := hD
   go_wp2_with fail
   go_ret
   exact hF.out
set_option maxHeartbeats 1000000 in
set_option maxRecDepth 100000 in
theorem leaf_other (h : Rd B b g s (p0 + 1) T S w) (k : Int) (h1 : ¬ k = 1) (h2 : ¬ k = 2) (h3 : ¬ k = 3) (hN : NoT (s.data.toList.drop p0)) :
  Calls Tryz.prog 191 #[.pointer (some ⟨b, 0, none⟩), .int .i64 k] w (Got B b g s p0 (p0 + 1) T S w) := by
 have H := hide h
 have HN := hide hN
 clear h hN
 go_enter Tryz.func191, Tryz.ntmps191
 go_wp2_with fail
 go_ret
 exact got_none HN.out H.out (Grown.refl _ _) (Nat.le_refl _)
end
end Go.Proofs.YtmgfcjpifkoahaaGreatDoor
