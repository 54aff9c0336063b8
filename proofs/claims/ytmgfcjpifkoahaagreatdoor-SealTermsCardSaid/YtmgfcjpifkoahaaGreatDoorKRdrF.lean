/-
  The contract of code's term: a term read, whatever stands there. Conditions: at most MaxTerm bytes.
-/
import Derived.Test.YtmgfcjpifkoahaaGreatDoorKRdrE
set_option linter.unusedVariables false
set_option linter.unusedSimpArgs false
namespace Go.Proofs.YtmgfcjpifkoahaaGreatDoor
open Go.RowKit Go.ChangeShapes Go.WideShapes Go.Sort
section
variable {B b g p p0 N : Nat} {s : ByteArray} {T : List Tm} {S : Nat → Prop} {w w0 w1 w2 : World} {c : UInt8} {s1 : List UInt8}
theorem Got.term {e : Ending} {w' : World} (h : Got B b g s p (p + 1) T S w1 e w') (hG : Grown (SR b S) w (SR b S) w1) (hp : p + 1 ≤ s.size) : GotT B b g s p T S w e w' := by
 obtain ⟨T', n, S', p', o, h1, h2, h3, h4, h5, h6, h7, h8⟩ := h
 exact ⟨T', n, S', p', o, h1, h2, h3, h4, hG.trans h5, h6, by omega, by omega⟩
theorem Got.from_ {q q' : Nat} {e : Ending} {w' : World} (h : Got B b g s p0 q' T S w1 e w') (hG : Grown (SR b S) w (SR b S) w1) (hp : q ≤ q') : Got B b g s p0 q T S w e w' := by
 obtain ⟨T', n, S', p', o, h1, h2, h3, h4, h5, h6, h7, h8⟩ := h
 exact ⟨T', n, S', p', o, h1, h2, h3, h4, hG.trans h5, h6, by omega, by omega⟩
theorem byte_yes (h : Rd B b g s p T S w) (hd : s.data.toList.drop p = c :: s.data.toList.drop (p + 1)) : Calls Tryz.prog 180 #[.pointer (some ⟨b, 0, none⟩)] w (fun e w' => e = .returned (.tuple #[.int .u8 c.toNat, .bool true]) ∧ p + 1 ≤ s.size ∧ Rd B b g s (p + 1) T S w' ∧ Grown (SR b S) w (SR b S) w') := by
 refine (byte_all h).mono ?_
 rintro e w' (⟨rfl, hpe, hR, hG⟩ | ⟨c2, hd2, hps, rfl, hR, hG⟩)
 ·rw [List.drop_of_length_le (by rw [size_len]; omega)] at hd
  cases hd
 ·rw [hd] at hd2
  injection hd2 with e1 _
  exact ⟨by rw [e1], hps, hR, hG⟩
set_option maxHeartbeats 1000000 in
set_option maxRecDepth 100000 in
theorem term_end (h : Rd B b g s p T S w) (hpe : p = s.size) :
  Calls Tryz.prog 140 #[.pointer (some ⟨b, 0, none⟩)] w (GotT B b g s p T S w) := by
 have HB := hide (fun (W : World) (hb : Below w.heap.size w W) => byte_all (h.below hb))
 clear h
 go_enter Tryz.func140, Tryz.ntmps140
 go_wp2_with fail
 have hb0 := bel_new (w := w) (.cells #[.pointer (some ⟨b, 0, none⟩)] 179)
 refine (HB.out _ hb0).mono ?_
 rintro e w1 (⟨rfl, hpe, hR, hG⟩ | ⟨c, hd, hps, rfl, hR, hG⟩)
 ·go_wp2_with fail
  go_ret
  exact ⟨T, -1, S, p, none, rfl, idn_none _, readT_none (by
   rw [List.drop_of_length_le (by rw [size_len]; omega)]
   intro t r ht e
   have := congrArg List.length e
   have h1 : 1 ≤ (enc t).length := List.length_pos_iff.2 (enc_ne t)
   simp at this
   omega), hR, (Grown.of_below hb0).trans hG, List.prefix_refl _, by omega, Nat.le_refl _⟩
 ·omega
set_option maxHeartbeats 2000000 in
set_option maxRecDepth 100000 in
theorem term_244 (IH : TermIH B b g s N) (h : Rd B b g s p T S w) (hN : s.size - p < N + 1) (hd : s.data.toList.drop p = c :: s.data.toList.drop (p + 1)) (hq : c.toNat = 244) :
  Calls Tryz.prog 140 #[.pointer (some ⟨b, 0, none⟩)] w (GotT B b g s p T S w) := by
 have HB := hide (fun (W : World) (hb : Below w.heap.size w W) => byte_yes (h.below hb) hd)
 have HIH := hide IH
 have hsr := h.sr_lt
 have hK := h.few
 have hxn : ¬ SR b S w.heap.size := fun h9 => by have := hsr _ h9; omega
 clear h IH hsr
 rw [hq] at HB
 go_enter Tryz.func140, Tryz.ntmps140
 go_wp2_with fail
 have hx0 := Blk.new w 179 #[.pointer (some ⟨b, 0, none⟩)]
 have hb0 := bel_new (w := w) (.cells #[.pointer (some ⟨b, 0, none⟩)] 179)
 refine (HB.out _ hb0).mono ?_
 rintro e w1 ⟨rfl, hps, hR, hG⟩
 have hx1 := hG.outs.blk hx0 hxn
 have hG0 := (Grown.of_below (S := SR b S) hb0).trans hG
 have hxc : w1.cell? ⟨w.heap.size, 0, none⟩ = some (.pointer (some ⟨b, 0, none⟩)) := hx1.cell 0
 obtain ⟨bx, hbx⟩ : ∃ bx, bx = w.heap.size := ⟨_, rfl⟩
 rw [← hbx] at hx1 hxc hxn ⊢
 clear hx0 hb0 hG HB hbx
 have Hd := hide hd
 have hsz := hR.hs
 have hlen := hR.len
 clear hd
 have HW := hide (with1_any HIH.out hR (by omega) hx1 hxn Hd.out hq hed4 (by omega) hK)
 clear hx1
 go_wp2_with fail
 refine HW.out.mono ?_
 intro e w2 hg
 have hF := hide (hg.term hG0 hps)
 obtain ⟨T2, m, S2, p2, o2, rfl, _⟩ := hg
 go_wp2_with fail
 go_ret
 exact hF.out
set_option maxHeartbeats 2000000 in
set_option maxRecDepth 100000 in
theorem term_247 (IH : TermIH B b g s N) (h : Rd B b g s p T S w) (hN : s.size - p < N + 1) (hd : s.data.toList.drop p = c :: s.data.toList.drop (p + 1)) (hq : c.toNat = 247) :
  Calls Tryz.prog 140 #[.pointer (some ⟨b, 0, none⟩)] w (GotT B b g s p T S w) := by
 have HB := hide (fun (W : World) (hb : Below w.heap.size w W) => byte_yes (h.below hb) hd)
 have HIH := hide IH
 have hsr := h.sr_lt
 have hK := h.few
 have hxn : ¬ SR b S w.heap.size := fun h9 => by have := hsr _ h9; omega
 clear h IH hsr
 rw [hq] at HB
 go_enter Tryz.func140, Tryz.ntmps140
 go_wp2_with fail
 have hx0 := Blk.new w 179 #[.pointer (some ⟨b, 0, none⟩)]
 have hb0 := bel_new (w := w) (.cells #[.pointer (some ⟨b, 0, none⟩)] 179)
 refine (HB.out _ hb0).mono ?_
 rintro e w1 ⟨rfl, hps, hR, hG⟩
 have hx1 := hG.outs.blk hx0 hxn
 have hG0 := (Grown.of_below (S := SR b S) hb0).trans hG
 have hxc : w1.cell? ⟨w.heap.size, 0, none⟩ = some (.pointer (some ⟨b, 0, none⟩)) := hx1.cell 0
 obtain ⟨bx, hbx⟩ : ∃ bx, bx = w.heap.size := ⟨_, rfl⟩
 rw [← hbx] at hx1 hxc hxn ⊢
 clear hx0 hb0 hG HB hbx
 have Hd := hide hd
 have hsz := hR.hs
 have hlen := hR.len
 clear hd
 have HW := hide (with2_any HIH.out hR (by omega) hx1 hxn Hd.out hq hed7 (by omega) hK)
 clear hx1
 go_wp2_with fail
 refine HW.out.mono ?_
 intro e w2 hg
 have hF := hide (hg.term hG0 hps)
 obtain ⟨T2, m, S2, p2, o2, rfl, _⟩ := hg
 go_wp2_with fail
 go_ret
 exact hF.out
set_option maxHeartbeats 2000000 in
set_option maxRecDepth 100000 in
theorem term_245 (IH : TermIH B b g s N) (h : Rd B b g s p T S w) (hN : s.size - p < N + 1) (hd : s.data.toList.drop p = c :: s.data.toList.drop (p + 1)) (hq : c.toNat = 245) :
  Calls Tryz.prog 140 #[.pointer (some ⟨b, 0, none⟩)] w (GotT B b g s p T S w) := by
 have HB := hide (fun (W : World) (hb : Below w.heap.size w W) => byte_yes (h.below hb) hd)
 have HIH := hide IH
 have hsr := h.sr_lt
 have hK := h.few
 have hxn : ¬ SR b S w.heap.size := fun h9 => by have := hsr _ h9; omega
 clear h IH hsr
 rw [hq] at HB
 go_enter Tryz.func140, Tryz.ntmps140
 go_wp2_with fail
 have hx0 := Blk.new w 179 #[.pointer (some ⟨b, 0, none⟩)]
 have hb0 := bel_new (w := w) (.cells #[.pointer (some ⟨b, 0, none⟩)] 179)
 refine (HB.out _ hb0).mono ?_
 rintro e w1 ⟨rfl, hps, hR, hG⟩
 have hx1 := hG.outs.blk hx0 hxn
 have hG0 := (Grown.of_below (S := SR b S) hb0).trans hG
 have hxc : w1.cell? ⟨w.heap.size, 0, none⟩ = some (.pointer (some ⟨b, 0, none⟩)) := hx1.cell 0
 obtain ⟨bx, hbx⟩ : ∃ bx, bx = w.heap.size := ⟨_, rfl⟩
 rw [← hbx] at hx1 hxc hxn ⊢
 clear hx0 hb0 hG HB hbx
 have Hd := hide hd
 have hsz := hR.hs
 have hlen := hR.len
 clear hd
 have HW := hide (share_any HIH.out hR (by omega) Hd.out hq hK)
 clear hx1
 go_wp2_with fail
 refine HW.out.mono ?_
 intro e w2 hg
 have hF := hide (hg.term hG0 hps)
 obtain ⟨T2, m, S2, p2, o2, rfl, _⟩ := hg
 go_wp2_with fail
 go_ret
 exact hF.out
set_option maxHeartbeats 2000000 in
set_option maxRecDepth 100000 in
theorem term_246 (IH : TermIH B b g s N) (h : Rd B b g s p T S w) (hN : s.size - p < N + 1) (hd : s.data.toList.drop p = c :: s.data.toList.drop (p + 1)) (hq : c.toNat = 246) :
  Calls Tryz.prog 140 #[.pointer (some ⟨b, 0, none⟩)] w (GotT B b g s p T S w) := by
 have HB := hide (fun (W : World) (hb : Below w.heap.size w W) => byte_yes (h.below hb) hd)
 have HIH := hide IH
 have hsr := h.sr_lt
 have hK := h.few
 have hxn : ¬ SR b S w.heap.size := fun h9 => by have := hsr _ h9; omega
 clear h IH hsr
 rw [hq] at HB
 go_enter Tryz.func140, Tryz.ntmps140
 go_wp2_with fail
 have hx0 := Blk.new w 179 #[.pointer (some ⟨b, 0, none⟩)]
 have hb0 := bel_new (w := w) (.cells #[.pointer (some ⟨b, 0, none⟩)] 179)
 refine (HB.out _ hb0).mono ?_
 rintro e w1 ⟨rfl, hps, hR, hG⟩
 have hx1 := hG.outs.blk hx0 hxn
 have hG0 := (Grown.of_below (S := SR b S) hb0).trans hG
 have hxc : w1.cell? ⟨w.heap.size, 0, none⟩ = some (.pointer (some ⟨b, 0, none⟩)) := hx1.cell 0
 obtain ⟨bx, hbx⟩ : ∃ bx, bx = w.heap.size := ⟨_, rfl⟩
 rw [← hbx] at hx1 hxc hxn ⊢
 clear hx0 hb0 hG HB hbx
 have Hd := hide hd
 have hsz := hR.hs
 have hlen := hR.len
 clear hd
 have HW := hide (text_all hR)
 go_wp2_with fail
 refine HW.out.mono ?_
 rintro e w2 (⟨p1, rfl, hno, hR2, hG2, hle⟩ | ⟨n, hn, h5, rfl, hR2, hG2⟩)
 ·have hx2 := hG2.outs.blk hx1 hxn
  clear hx1
  go_wp2_with fail
  go_ret
  exact ⟨T, -1, S, _, none, rfl, idn_none _, readT_none (by rw [Hd.out]; exact no6 hq (by omega)), hR2.below (bel_new _), (hG0.trans hG2).trans (Grown.of_below (bel_new _)), List.prefix_refl _, by omega, by omega⟩
 ·have hx2 := hG2.outs.blk hx1 hxn
  have hH : Hed 6 0 0 (bs ((s.data.toList.drop (p + 1 + 4)).take n)) 2 (s.data.toList.drop (p + 1)) (s.data.toList.drop (p + 1 + 4 + n)) := by
   have := hed6 (s1 := s.data.toList.drop (p + 1)) (by omega) (by omega)
   rw [List.drop_drop, List.drop_drop, ← hn] at this
   rw [show p + 1 + 4 + n = p + 1 + (4 + n) by omega]
   exact this
  have hxs : (bs ((s.data.toList.drop (p + 1 + 4)).take n)).size ≤ 1000000 := by
   show ((s.data.toList.drop (p + 1 + 4)).take n).length ≤ 1000000
   rw [List.length_take, List.length_drop, size_len]
   omega
  clear hn
  generalize bs ((s.data.toList.drop (p + 1 + 4)).take n) = x at hH hxs ⊢
  have hR3 := hR2.below (bel_new (.cells #[.string x] 9))
  have hx3 := hx2.below (bel_new (.cells #[.string x] 9)) hx2.lt
  have hy3 := Blk.new w2 9 #[.string x]
  have hyn : ¬ SR b S w2.heap.size := fun h9 => by have := hR2.sr_lt _ h9; omega
  have HV := hide (with3_any HIH.out hR3 (by omega) hx3 hxn hxs hy3 hyn Hd.out hq hH (by omega) hK)
  have hxc2 : w2.cell? ⟨bx, 0, none⟩ = some (.pointer (some ⟨b, 0, none⟩)) := hx2.cell 0
  have hxc3 : (w2.alloc (.cells #[.string x] 9)).cell? ⟨bx, 0, none⟩ = some (.pointer (some ⟨b, 0, none⟩)) := hx3.cell 0
  have hG3 := (hG0.trans hG2).trans (Grown.of_below (bel_new (.cells #[.string x] 9)))
  clear hx1 hx2 hx3 hy3 hR3 hR2 hH hG2 hxc
  go_wp2_with fail
  refine HV.out.mono ?_
  intro e w3 hg
  have hF := hide ((hg.from_ (q := p + 1) (Grown.refl _ _) (by omega)).term hG3 hps)
  obtain ⟨T2, m, S2, p2, o2, rfl, _⟩ := hg
  go_wp2_with fail
  go_ret
  exact hF.out
set_option maxHeartbeats 2000000 in
set_option maxRecDepth 100000 in
theorem term_248 (IH : TermIH B b g s N) (h : Rd B b g s p T S w) (hN : s.size - p < N + 1) (hd : s.data.toList.drop p = c :: s.data.toList.drop (p + 1)) (hq : c.toNat = 248) :
  Calls Tryz.prog 140 #[.pointer (some ⟨b, 0, none⟩)] w (GotT B b g s p T S w) := by
 have HB := hide (fun (W : World) (hb : Below w.heap.size w W) => byte_yes (h.below hb) hd)
 have HIH := hide IH
 have hsr := h.sr_lt
 have hK := h.few
 have hxn : ¬ SR b S w.heap.size := fun h9 => by have := hsr _ h9; omega
 clear h IH hsr
 rw [hq] at HB
 go_enter Tryz.func140, Tryz.ntmps140
 go_wp2_with fail
 have hx0 := Blk.new w 179 #[.pointer (some ⟨b, 0, none⟩)]
 have hb0 := bel_new (w := w) (.cells #[.pointer (some ⟨b, 0, none⟩)] 179)
 refine (HB.out _ hb0).mono ?_
 rintro e w1 ⟨rfl, hps, hR, hG⟩
 have hx1 := hG.outs.blk hx0 hxn
 have hG0 := (Grown.of_below (S := SR b S) hb0).trans hG
 have hxc : w1.cell? ⟨w.heap.size, 0, none⟩ = some (.pointer (some ⟨b, 0, none⟩)) := hx1.cell 0
 obtain ⟨bx, hbx⟩ : ∃ bx, bx = w.heap.size := ⟨_, rfl⟩
 rw [← hbx] at hx1 hxc hxn ⊢
 clear hx0 hb0 hG HB hbx
 have Hd := hide hd
 have hsz := hR.hs
 have hlen := hR.len
 clear hd
 have HW := hide (byte_all hR)
 go_wp2_with fail
 refine HW.out.mono ?_
 rintro e w2 (⟨rfl, hpe, hR2, hG2⟩ | ⟨c2, hd2, hps2, rfl, hR2, hG2⟩)
 ·have hx2 := hG2.outs.blk hx1 hxn
  clear hx1
  go_wp2_with fail
  go_ret
  exact ⟨T, -1, S, _, none, rfl, idn_none _, readT_none (by rw [Hd.out]; exact no8 hq (List.drop_of_length_le (by rw [size_len]; omega))), hR2.below (bel_new _), (hG0.trans hG2).trans (Grown.of_below (bel_new _)), List.prefix_refl _, by omega, by omega⟩
 ·have hx2 := hG2.outs.blk hx1 hxn
  have hH : Hed 8 0 c2.toNat eB 3 (s.data.toList.drop (p + 1)) (s.data.toList.drop (p + 1 + 1)) := by
   rw [hd2]
   exact hed8
  have hcl2 := c2.toNat_lt
  clear hd2
  generalize c2.toNat = x at hH hcl2 ⊢
  have hR3 := hR2.below (bel_new (.cells #[.int .u8 (x : Nat)] 5))
  have hx3 := hx2.below (bel_new (.cells #[.int .u8 (x : Nat)] 5)) hx2.lt
  have hy3 := Blk.new w2 5 #[.int .u8 (x : Nat)]
  have hyn : ¬ SR b S w2.heap.size := fun h9 => by have := hR2.sr_lt _ h9; omega
  have HV := hide (with4_any HIH.out hR3 (by omega) hx3 hxn hcl2 hy3 hyn Hd.out hq hH (by omega) hK)
  have hxc2 : w2.cell? ⟨bx, 0, none⟩ = some (.pointer (some ⟨b, 0, none⟩)) := hx2.cell 0
  have hxc3 : (w2.alloc (.cells #[.int .u8 (x : Nat)] 5)).cell? ⟨bx, 0, none⟩ = some (.pointer (some ⟨b, 0, none⟩)) := hx3.cell 0
  have hG3 := (hG0.trans hG2).trans (Grown.of_below (bel_new (.cells #[.int .u8 (x : Nat)] 5)))
  clear hx1 hx2 hx3 hy3 hR3 hR2 hH hG2 hxc
  go_wp2_with fail
  refine HV.out.mono ?_
  intro e w3 hg
  have hF := hide ((hg.from_ (q := p + 1) (Grown.refl _ _) (by omega)).term hG3 hps)
  obtain ⟨T2, m, S2, p2, o2, rfl, _⟩ := hg
  go_wp2_with fail
  go_ret
  exact hF.out
set_option maxHeartbeats 2000000 in
set_option maxRecDepth 100000 in
theorem term_249 (IH : TermIH B b g s N) (h : Rd B b g s p T S w) (hN : s.size - p < N + 1) (hd : s.data.toList.drop p = c :: s.data.toList.drop (p + 1)) (hq : c.toNat = 249) :
  Calls Tryz.prog 140 #[.pointer (some ⟨b, 0, none⟩)] w (GotT B b g s p T S w) := by
 have HB := hide (fun (W : World) (hb : Below w.heap.size w W) => byte_yes (h.below hb) hd)
 have HIH := hide IH
 have hsr := h.sr_lt
 have hK := h.few
 have hxn : ¬ SR b S w.heap.size := fun h9 => by have := hsr _ h9; omega
 clear h IH hsr
 rw [hq] at HB
 go_enter Tryz.func140, Tryz.ntmps140
 go_wp2_with fail
 have hx0 := Blk.new w 179 #[.pointer (some ⟨b, 0, none⟩)]
 have hb0 := bel_new (w := w) (.cells #[.pointer (some ⟨b, 0, none⟩)] 179)
 refine (HB.out _ hb0).mono ?_
 rintro e w1 ⟨rfl, hps, hR, hG⟩
 have hx1 := hG.outs.blk hx0 hxn
 have hG0 := (Grown.of_below (S := SR b S) hb0).trans hG
 have hxc : w1.cell? ⟨w.heap.size, 0, none⟩ = some (.pointer (some ⟨b, 0, none⟩)) := hx1.cell 0
 obtain ⟨bx, hbx⟩ : ∃ bx, bx = w.heap.size := ⟨_, rfl⟩
 rw [← hbx] at hx1 hxc hxn ⊢
 clear hx0 hb0 hG HB hbx
 have Hd := hide hd
 have hsz := hR.hs
 have hlen := hR.len
 clear hd
 have HW := hide (num_all hR)
 go_wp2_with fail
 refine HW.out.mono ?_
 rintro e w2 (⟨rfl, hno, hR2, hG2⟩ | ⟨h4, rfl, hR2, hG2⟩)
 ·have hx2 := hG2.outs.blk hx1 hxn
  clear hx1
  go_wp2_with fail
  go_ret
  exact ⟨T, -1, S, _, none, rfl, idn_none _, readT_none (by rw [Hd.out]; exact no9 hq (by omega)), hR2.below (bel_new _), (hG0.trans hG2).trans (Grown.of_below (bel_new _)), List.prefix_refl _, by omega, by omega⟩
 ·have hx2 := hG2.outs.blk hx1 hxn
  have hH : Hed 9 0 (n4 (s.data.toList.drop (p + 1))) eB 2 (s.data.toList.drop (p + 1)) (s.data.toList.drop (p + 1 + 4)) := by
   have := hed9 (s1 := s.data.toList.drop (p + 1)) (by omega)
   rw [List.drop_drop] at this
   exact this
  have hxl := n4_lt (s.data.toList.drop (p + 1))
  generalize n4 (s.data.toList.drop (p + 1)) = x at hH hxl ⊢
  have hR3 := hR2.below (bel_new (.cells #[.int .i64 (x : Nat)] 3))
  have hx3 := hx2.below (bel_new (.cells #[.int .i64 (x : Nat)] 3)) hx2.lt
  have hy3 := Blk.new w2 3 #[.int .i64 (x : Nat)]
  have hyn : ¬ SR b S w2.heap.size := fun h9 => by have := hR2.sr_lt _ h9; omega
  have HV := hide (with5_any HIH.out hR3 (by omega) hx3 hxn hxl hy3 hyn Hd.out hq hH (by omega) hK)
  have hxc2 : w2.cell? ⟨bx, 0, none⟩ = some (.pointer (some ⟨b, 0, none⟩)) := hx2.cell 0
  have hxc3 : (w2.alloc (.cells #[.int .i64 (x : Nat)] 3)).cell? ⟨bx, 0, none⟩ = some (.pointer (some ⟨b, 0, none⟩)) := hx3.cell 0
  have hG3 := (hG0.trans hG2).trans (Grown.of_below (bel_new (.cells #[.int .i64 (x : Nat)] 3)))
  clear hx1 hx2 hx3 hy3 hR3 hR2 hH hG2 hxc
  go_wp2_with fail
  refine HV.out.mono ?_
  intro e w3 hg
  have hF := hide ((hg.from_ (q := p + 1) (Grown.refl _ _) (by omega)).term hG3 hps)
  obtain ⟨T2, m, S2, p2, o2, rfl, _⟩ := hg
  go_wp2_with fail
  go_ret
  exact hF.out
set_option maxHeartbeats 2000000 in
set_option maxRecDepth 100000 in
theorem term_250 (IH : TermIH B b g s N) (h : Rd B b g s p T S w) (hN : s.size - p < N + 1) (hd : s.data.toList.drop p = c :: s.data.toList.drop (p + 1)) (hq : c.toNat = 250) :
  Calls Tryz.prog 140 #[.pointer (some ⟨b, 0, none⟩)] w (GotT B b g s p T S w) := by
 have HB := hide (fun (W : World) (hb : Below w.heap.size w W) => byte_yes (h.below hb) hd)
 have HIH := hide IH
 have hsr := h.sr_lt
 have hK := h.few
 have hxn : ¬ SR b S w.heap.size := fun h9 => by have := hsr _ h9; omega
 clear h IH hsr
 rw [hq] at HB
 go_enter Tryz.func140, Tryz.ntmps140
 go_wp2_with fail
 have hx0 := Blk.new w 179 #[.pointer (some ⟨b, 0, none⟩)]
 have hb0 := bel_new (w := w) (.cells #[.pointer (some ⟨b, 0, none⟩)] 179)
 refine (HB.out _ hb0).mono ?_
 rintro e w1 ⟨rfl, hps, hR, hG⟩
 have hx1 := hG.outs.blk hx0 hxn
 have hG0 := (Grown.of_below (S := SR b S) hb0).trans hG
 have hxc : w1.cell? ⟨w.heap.size, 0, none⟩ = some (.pointer (some ⟨b, 0, none⟩)) := hx1.cell 0
 obtain ⟨bx, hbx⟩ : ∃ bx, bx = w.heap.size := ⟨_, rfl⟩
 rw [← hbx] at hx1 hxc hxn ⊢
 clear hx0 hb0 hG HB hbx
 have Hd := hide hd
 have hsz := hR.hs
 have hlen := hR.len
 clear hd
 by_cases h4 : s.size < p + 1 + 4
 ·have HC := hide (counted_no1 hR 32 h4)
  clear hx1
  go_wp2_with fail
  refine HC.out.mono ?_
  rintro e w2 ⟨p1, rfl, hR2, hG2, hle⟩
  go_wp2_with fail
  go_ret
  exact ⟨T, -1, S, p1, none, rfl, idn_none _, readT_none (by rw [Hd.out]; exact no10 hq (by omega)), hR2, hG0.trans hG2, List.prefix_refl _, by omega, by omega⟩
 ·obtain ⟨m, hm⟩ : ∃ m, m = n4 (s.data.toList.drop (p + 1)) := ⟨_, rfl⟩
  have hH : Hed 10 0 0 eB m (s.data.toList.drop (p + 1)) (s.data.toList.drop (p + 1 + 4)) := by
   have := hed10 (s1 := s.data.toList.drop (p + 1)) (by omega)
   rw [List.drop_drop, ← hm] at this
   exact this
  by_cases hm8 : (32 : Int) < (m : Int)
  ·have HC := hide (counted_no2 hR 32 (by omega) hm hm8)
   clear hx1 hm
   go_wp2_with fail
   refine HC.out.mono ?_
   rintro e w2 ⟨p1, rfl, hR2, hG2, hle⟩
   go_wp2_with fail
   go_ret
   exact ⟨T, -1, S, p1, none, rfl, idn_none _, readT_none (by rw [Hd.out]; exact hH.nohd hq (fun hh => by simp only [hd] at hh; omega)), hR2, hG0.trans hG2, List.prefix_refl _, by omega, by omega⟩
  ·have HC := hide (counted_yes HIH.out hR (by omega) 32 (by omega) hm (by omega) (by omega))
   have HH := hide hH
   clear hH hm
   go_wp2_with fail
   refine HC.out.mono ?_
   rintro e w2 (⟨T1, S1, p1, rfl, hNo, hR2, hG2, hpre, hl, hle⟩ | ⟨T1, S1, p1, l, A, cz, rfl, hg, hml, he, hI, hR2, hG2, hpre, hl, hle⟩)
   ·clear hx1
    go_wp2_with fail
    go_ret
    exact ⟨T1, -1, S1, p1, none, rfl, idn_none _, readT_few Hd.out hq HH.out hNo, hR2, hG0.trans hG2, hpre, by omega, by omega⟩
   ·have hxc2 : w2.cell? ⟨bx, 0, none⟩ = some (.pointer (some ⟨b, 0, none⟩)) := (hG2.outs.blk hx1 hxn).cell 0
    have hbc2 := rd_cells hR2
    obtain ⟨ns, hids, hidn⟩ := hI.ids_
    have hargs := hidn.args
    have hnl := hidn.1
    have HL := hide (aList_any hR2.use hids (by simp at hnl; omega))
    rw [hargs] at HL
    have HF := hide (fun (e : Ending) (w3 : World) hD => got_fin (e := e) (w2 := w3) (w := w1) (p := p + 1 + 4) Hd.out hq (by omega) HH.out hg hml he hR2 hG2 hpre hl hle (madeOf_list l (by omega)) hD (by omega) hK)
    clear hx1 hR2 hI hids hidn hargs hnl hxc hG2
    go_wp2_with fail
    refine HL.out.mono ?_
    intro e w3 hD
    have hF := hide (((HF.out e w3 hD).from_ (q := p + 1) (Grown.refl _ _) (by omega)).term hG0 hps)
    obtain ⟨T2, m2, S2, rfl, _⟩ := hD
    go_wp2_with fail
    go_ret
    exact hF.out
set_option maxHeartbeats 2000000 in
set_option maxRecDepth 100000 in
theorem term_241 (IH : TermIH B b g s N) (h : Rd B b g s p T S w) (hN : s.size - p < N + 1) (hd : s.data.toList.drop p = c :: s.data.toList.drop (p + 1)) (hq : c.toNat = 241) :
  Calls Tryz.prog 140 #[.pointer (some ⟨b, 0, none⟩)] w (GotT B b g s p T S w) := by
 have HB := hide (fun (W : World) (hb : Below w.heap.size w W) => byte_yes (h.below hb) hd)
 have HIH := hide IH
 have hsr := h.sr_lt
 have hK := h.few
 have hxn : ¬ SR b S w.heap.size := fun h9 => by have := hsr _ h9; omega
 clear h IH hsr
 rw [hq] at HB
 go_enter Tryz.func140, Tryz.ntmps140
 go_wp2_with fail
 have hx0 := Blk.new w 179 #[.pointer (some ⟨b, 0, none⟩)]
 have hb0 := bel_new (w := w) (.cells #[.pointer (some ⟨b, 0, none⟩)] 179)
 refine (HB.out _ hb0).mono ?_
 rintro e w1 ⟨rfl, hps, hR, hG⟩
 have hx1 := hG.outs.blk hx0 hxn
 have hG0 := (Grown.of_below (S := SR b S) hb0).trans hG
 have hxc : w1.cell? ⟨w.heap.size, 0, none⟩ = some (.pointer (some ⟨b, 0, none⟩)) := hx1.cell 0
 obtain ⟨bx, hbx⟩ : ∃ bx, bx = w.heap.size := ⟨_, rfl⟩
 rw [← hbx] at hx1 hxc hxn ⊢
 clear hx0 hb0 hG HB hbx
 have Hd := hide hd
 have hsz := hR.hs
 have hlen := hR.len
 clear hd
 have HW := hide (leaf_data hR Hd.out hq hK)
 clear hx1
 go_wp2_with fail
 refine HW.out.mono ?_
 intro e w2 hg
 have hF := hide (hg.term hG0 hps)
 obtain ⟨T2, m, S2, p2, o2, rfl, _⟩ := hg
 go_wp2_with fail
 go_ret
 exact hF.out
set_option maxHeartbeats 2000000 in
set_option maxRecDepth 100000 in
theorem term_242 (IH : TermIH B b g s N) (h : Rd B b g s p T S w) (hN : s.size - p < N + 1) (hd : s.data.toList.drop p = c :: s.data.toList.drop (p + 1)) (hq : c.toNat = 242) :
  Calls Tryz.prog 140 #[.pointer (some ⟨b, 0, none⟩)] w (GotT B b g s p T S w) := by
 have HB := hide (fun (W : World) (hb : Below w.heap.size w W) => byte_yes (h.below hb) hd)
 have HIH := hide IH
 have hsr := h.sr_lt
 have hK := h.few
 have hxn : ¬ SR b S w.heap.size := fun h9 => by have := hsr _ h9; omega
 clear h IH hsr
 rw [hq] at HB
 go_enter Tryz.func140, Tryz.ntmps140
 go_wp2_with fail
 have hx0 := Blk.new w 179 #[.pointer (some ⟨b, 0, none⟩)]
 have hb0 := bel_new (w := w) (.cells #[.pointer (some ⟨b, 0, none⟩)] 179)
 refine (HB.out _ hb0).mono ?_
 rintro e w1 ⟨rfl, hps, hR, hG⟩
 have hx1 := hG.outs.blk hx0 hxn
 have hG0 := (Grown.of_below (S := SR b S) hb0).trans hG
 have hxc : w1.cell? ⟨w.heap.size, 0, none⟩ = some (.pointer (some ⟨b, 0, none⟩)) := hx1.cell 0
 obtain ⟨bx, hbx⟩ : ∃ bx, bx = w.heap.size := ⟨_, rfl⟩
 rw [← hbx] at hx1 hxc hxn ⊢
 clear hx0 hb0 hG HB hbx
 have Hd := hide hd
 have hsz := hR.hs
 have hlen := hR.len
 clear hd
 have HW := hide (leaf_nonce hR Hd.out hq hK)
 clear hx1
 go_wp2_with fail
 refine HW.out.mono ?_
 intro e w2 hg
 have hF := hide (hg.term hG0 hps)
 obtain ⟨T2, m, S2, p2, o2, rfl, _⟩ := hg
 go_wp2_with fail
 go_ret
 exact hF.out
set_option maxHeartbeats 2000000 in
set_option maxRecDepth 100000 in
theorem term_243 (IH : TermIH B b g s N) (h : Rd B b g s p T S w) (hN : s.size - p < N + 1) (hd : s.data.toList.drop p = c :: s.data.toList.drop (p + 1)) (hq : c.toNat = 243) :
  Calls Tryz.prog 140 #[.pointer (some ⟨b, 0, none⟩)] w (GotT B b g s p T S w) := by
 have HB := hide (fun (W : World) (hb : Below w.heap.size w W) => byte_yes (h.below hb) hd)
 have HIH := hide IH
 have hsr := h.sr_lt
 have hK := h.few
 have hxn : ¬ SR b S w.heap.size := fun h9 => by have := hsr _ h9; omega
 clear h IH hsr
 rw [hq] at HB
 go_enter Tryz.func140, Tryz.ntmps140
 go_wp2_with fail
 have hx0 := Blk.new w 179 #[.pointer (some ⟨b, 0, none⟩)]
 have hb0 := bel_new (w := w) (.cells #[.pointer (some ⟨b, 0, none⟩)] 179)
 refine (HB.out _ hb0).mono ?_
 rintro e w1 ⟨rfl, hps, hR, hG⟩
 have hx1 := hG.outs.blk hx0 hxn
 have hG0 := (Grown.of_below (S := SR b S) hb0).trans hG
 have hxc : w1.cell? ⟨w.heap.size, 0, none⟩ = some (.pointer (some ⟨b, 0, none⟩)) := hx1.cell 0
 obtain ⟨bx, hbx⟩ : ∃ bx, bx = w.heap.size := ⟨_, rfl⟩
 rw [← hbx] at hx1 hxc hxn ⊢
 clear hx0 hb0 hG HB hbx
 have Hd := hide hd
 have hsz := hR.hs
 have hlen := hR.len
 clear hd
 have HW := hide (leaf_key hR Hd.out hq hK)
 clear hx1
 go_wp2_with fail
 refine HW.out.mono ?_
 intro e w2 hg
 have hF := hide (hg.term hG0 hps)
 obtain ⟨T2, m, S2, p2, o2, rfl, _⟩ := hg
 go_wp2_with fail
 go_ret
 exact hF.out
end
end Go.Proofs.YtmgfcjpifkoahaaGreatDoor
