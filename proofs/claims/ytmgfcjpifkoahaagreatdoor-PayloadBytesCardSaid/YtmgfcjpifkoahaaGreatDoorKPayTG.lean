/-
  Several of my texts in one: PayS, PayT.
-/
import Derived.Test.YtmgfcjpifkoahaaGreatDoorKPayRG
import Derived.Test.YtmgfcjpifkoahaaGreatDoorKPayCG
set_option linter.unusedVariables false
set_option linter.unusedSimpArgs false
namespace Go.Proofs.YtmgfcjpifkoahaaGreatDoor
open Go.RowKit Go.ChangeShapes Go.WideShapes Go.Sort
theorem TxL.set_ {lo : Nat} {w : World} {v : Value} {ls : List (List UInt8)} (h : TxL lo w v ls) {p : Addr} (hp : p.block < lo) (u : Value) : TxL lo (w.setCell p u) v ls := by
 obtain ⟨A, c, e, hS⟩ := h
 exact ⟨A, c, e, hS.setCell hp u⟩
@[go_sem] theorem field_4 (x0 x1 x2 : Int) (x3 : ByteArray) (A : Option Addr) (n c : Nat) (w : World) : (Instr.field 92 (.agg #[.int .i64 x0, .int .i64 x1, .int .i64 x2, .string x3, .slice A n c]) 4).run Tryz.prog w = .ok (.slice A n c) w := by kernel_rfl
theorem tx_cut {t : Tm} (hft : fine t) (hk : t.k = 1) : (bs (enc t)).extract 5 (bs (enc t)).size = t.s ∧ (bs (enc t)).size = t.s.size + 5 := by
 have hs := data_shape hft.1 hk
 have e2 : (bs (enc t)).size = t.s.size + 5 := by
  show (enc t).length = _
  rw [hs, encD_len]
  rfl
 refine ⟨tl_injF ?_, e2⟩
 rw [ByteArray.data_extract, Array.toList_extract, bs_data, List.extract_eq_take_drop, e2]
 conv => lhs; rw [hs, encD]
 show List.take (t.s.size + 5 - 5) (List.drop 5 (UInt8.ofNat 241 :: (q4 t.s.size ++ t.s.data.toList))) = _
 rw [List.drop_succ_cons, List.drop_left' (q4_len _), List.take_of_length_le (by rw [size_len]; omega)]
structure RjI (w : World) (r : List Tm) (f : ByteArray) (R : Option (List UInt8)) (i : Nat) (out : List UInt8) (wr : World) : Prop where
 bel : Below w.heap.size w wr
 go : joinGo (f.data.toList.drop i) (r.drop i) out = R
 len : out.length ≤ 1 + i * 140000
section
variable {w : World}
set_option maxHeartbeats 2000000 in
set_option maxRecDepth 100000 in
theorem rterm09_any (pl : ByteArray) (hpl : pl.size ≤ 32768) : Calls Tryz.prog 12 #[.string pl] w (Says (txt (payT pl.data.toList)) w) := by
 have HDc := hide (rdecode_anyM (w := w) pl (by omega))
 have HD := hide (fun (W : World) => rData_any pl.data.toList W (by rw [size_len]; omega))
 rw [bs_of] at HD
 go_enter Tryz.func12, Tryz.ntmps12
 go_wp2_with fail
 refine HDc.out.mono ?_
 rintro e w1 ⟨hb1, ⟨num, l, A, c, hd, rfl, hF⟩ | ⟨ps, k, hk, hk0, rfl⟩⟩
 ·obtain ⟨hK, hll, hnum⟩ := dec_flds hd
  have E := hide (payT_list hd)
  have hb2 := bel_newN (w := w1) (.cells #[.int .i64 (num : Nat), .slice A l.length c] 60)
  have hb3 := bel_newN (w := w1.alloc (.cells #[.int .i64 (num : Nat), .slice A l.length c] 60)) (.cells #[.int .i64 0, .string ⟨#[]⟩] 81)
  have hb13 := hb2.trans (hb3.mono hb2.size)
  have HO := hide (fun (W : World) (hb : Below w1.heap.size w1 W) => rof09_any (c := c) (hF.below hb) hK hnum hll)
  have Hb := hide (hb1.trans (hb13.mono hb1.size))
  have Hb13 := hide hb13
  clear hd hF hK hll hnum hb1 hb2 hb3 hb13
  go_wp2_with fail
  refine (HO.out _ Hb13.out).mono ?_
  rintro e w3 ⟨rfl, hb4⟩
  go_wp2_with fail
  go_ret
  rw [E.out]
  exact ⟨rfl, Hb.out.trans (hb4.mono Hb.out.size)⟩
 ·have hno : ∀ n l, decS pl.data.toList ≠ .ok n l := fun n l e => by rw [e] at hk; cases hk
  have E := hide (payT_data hno)
  have hx1 : ((k : Int) == 0) = false := by rw [beq_eq_false_iff_ne]; omega
  have hx2 : ((k : Int) != 0) = true := by simp [bne, hx1]
  have hb2 := bel_newN (w := w1) (.cells #[.int .i64 0, .slice none 0 0] 60)
  have hb3 := bel_newN (w := w1.alloc (.cells #[.int .i64 0, .slice none 0 0] 60)) (.cells #[.int .i64 k, .string (bs (atL ps))] 81)
  have Hb := hide (hb1.trans ((hb2.trans (hb3.mono hb2.size)).mono hb1.size))
  clear hno hk hk0 hb1 hb2 hb3
  generalize bs (atL ps) = ap at Hb ⊢
  go_wp2_with fail
  refine (HD.out _).mono ?_
  rintro e w3 ⟨rfl, hb4⟩
  go_wp2_with fail
  go_ret
  rw [E.out]
  exact ⟨rfl, Hb.out.trans (hb4.mono Hb.out.size)⟩
set_option maxHeartbeats 2000000 in
set_option maxRecDepth 100000 in
theorem rview_txs {t : Tm} (ht : fine t) (w : World) : Calls Tryz.prog 38 #[.string (bs (enc t))] w (fun e w' => ∃ A c, e = .returned (.agg #[.int .i64 t.k, .int .i64 t.a, .int .i64 t.b, .string t.s, .slice A t.l.length c]) ∧ Txs w' (.slice A t.l.length c) (t.l.map enc) ∧ Below w.heap.size w w') := by
 have HP := hide (fun W => parse_own ht W)
 generalize bs (enc t) = x at HP ⊢
 go_enter Tryz.func38, Tryz.ntmps38
 go_wp2_with fail
 have hb0 := (Below.refl w.heap.size w).alloc (Nat.le_refl _) (.cells #[.int .i64 0, .int .i64 0, .int .i64 0, .string ⟨#[]⟩, .slice none 0 0] 92)
 have hB0 := Blk.new w 92 #[.int .i64 0, .int .i64 0, .int .i64 0, .string ⟨#[]⟩, .slice none 0 0]
 refine (HP.out _).mono ?_
 rintro e w1 ⟨hb1, A, c, hT0, rfl⟩
 have hsw : w.heap.size < (w.alloc (.cells #[.int .i64 0, .int .i64 0, .int .i64 0, .string ⟨#[]⟩, .slice none 0 0] 92)).heap.size := by rw [World.size_alloc]; omega
 have HT0 := hide (show TxL (w.heap.size + 1) w1 (.slice A t.l.length c) (t.l.map enc) from Strs.mono hT0 hsw)
 clear hT0 hsw
 have hB1 := hB0.below hb1 hB0.lt
 have hb01 := hb0.trans (hb1.mono hb0.size)
 have hlt := hB1.lt
 have k0 := hB1.cell 0
 have k1 := hB1.cell 1
 have k2 := hB1.cell 2
 have k3 := hB1.cell 3
 have k4 := hB1.cell 4
 simp only [List.getElem?_toArray, List.getElem?_cons_zero, List.getElem?_cons_succ] at k0 k1 k2 k3 k4
 have f0 := hB1.frozen 0
 have f1 := hB1.frozen 1
 have f2 := hB1.frozen 2
 have f3 := hB1.frozen 3
 have f4 := hB1.frozen 4
 have hn := Nat.ne_of_lt hlt
 clear HP hB0 hb0 hb1
 go_wp2_with fail
 obtain ⟨W, hW⟩ : ∃ W, W = (((((w1.setCell ⟨w.heap.size, 0, none⟩ (.int .i64 t.k)).setCell ⟨w.heap.size, 1, none⟩ (.int .i64 t.a)).setCell ⟨w.heap.size, 2, none⟩ (.int .i64 t.b)).setCell ⟨w.heap.size, 3, none⟩ (.string t.s)).setCell ⟨w.heap.size, 4, none⟩ (.slice A t.l.length c)).alloc (.cells #[.int .i64 t.k, .int .i64 t.a, .int .i64 t.b, .string t.s, .slice A t.l.length c] 92) := ⟨_, rfl⟩
 rw [← hW]
 have hBW : Blk W w.heap.size 92 #[.int .i64 t.k, .int .i64 t.a, .int .i64 t.b, .string t.s, .slice A t.l.length c] := by
  rw [hW]
  have := (((((hB1.set_ 0 (.int .i64 t.k)).set_ 1 (.int .i64 t.a)).set_ 2 (.int .i64 t.b)).set_ 3 (.string t.s)).set_ 4 (.slice A t.l.length c)).alloc (.cells #[.int .i64 t.k, .int .i64 t.a, .int .i64 t.b, .string t.s, .slice A t.l.length c] 92)
  simpa using this
 have hbW : Below w.heap.size w W := by
  rw [hW]
  have hs := (((((hb01.setCell (p := ⟨w.heap.size, 0, none⟩) (Nat.le_refl _) (.int .i64 t.k)).setCell (p := ⟨w.heap.size, 1, none⟩) (Nat.le_refl _) (.int .i64 t.a)).setCell (p := ⟨w.heap.size, 2, none⟩) (Nat.le_refl _) (.int .i64 t.b)).setCell (p := ⟨w.heap.size, 3, none⟩) (Nat.le_refl _) (.string t.s)).setCell (p := ⟨w.heap.size, 4, none⟩) (Nat.le_refl _) (.slice A t.l.length c))
  exact hs.alloc hs.size _
 have HTW := hide (show Txs W (.slice A t.l.length c) (t.l.map enc) from by
  rw [hW]
  have h9 := ((((HT0.out.set_ (p := ⟨w.heap.size, 0, none⟩) (Nat.lt_succ_self _) (.int .i64 t.k)).set_ (p := ⟨w.heap.size, 1, none⟩) (Nat.lt_succ_self _) (.int .i64 t.a)).set_ (p := ⟨w.heap.size, 2, none⟩) (Nat.lt_succ_self _) (.int .i64 t.b)).set_ (p := ⟨w.heap.size, 3, none⟩) (Nat.lt_succ_self _) (.string t.s)).set_ (p := ⟨w.heap.size, 4, none⟩) (Nat.lt_succ_self _) (.slice A t.l.length c)
  exact h9.txs.below (bel_newN _))
 have q0 := hBW.cell 0
 have q1 := hBW.cell 1
 have q2 := hBW.cell 2
 have q3 := hBW.cell 3
 have q4 := hBW.cell 4
 simp only [List.getElem?_toArray, List.getElem?_cons_zero, List.getElem?_cons_succ] at q0 q1 q2 q3 q4
 clear hW hBW hB1 k0 k1 k2 k3 k4 f0 f1 f2 f3 f4
 exact bodyPost_ret (v := .agg #[.int .i64 t.k, .int .i64 t.a, .int .i64 t.b, .string t.s, .slice A t.l.length c]) (by simp [results, Tryz.results38, go_sem, q0, q1, q2, q3, q4]) rfl ⟨A, c, rfl, HTW.out, hbW⟩
end
end Go.Proofs.YtmgfcjpifkoahaaGreatDoor
namespace Go.Proofs.YtmgfcjpifkoahaaGreatDoor
open Go.RowKit Go.ChangeShapes Go.WideShapes Go.Sort
theorem rkind_enc {t : Tm} (h : fine t) (W : World) : Calls Tryz.prog 36 #[.string (bs (enc t))] W (fun e w' => e = .returned (.int .i64 t.k) ∧ W = w') := by
 have h1 := rKind_any (fineO_some h) W
 have e1 : tx (some t) = bs (enc t) := rfl
 have e2 : kindO (some t) = t.k := rfl
 rw [e1, e2] at h1
 exact h1
theorem rbytes_enc {t : Tm} (h : fine t) (W : World) : Calls Tryz.prog 90 #[.string (bs (enc t))] W (ByP (bytF t) W) := by
 have h1 := rbytes08_any (fineO_some h) W
 have e1 : tx (some t) = bs (enc t) := rfl
 have e2 : (some t).bind bytF = bytF t := rfl
 rw [e1, e2] at h1
 exact h1
theorem bytF_len {t : Tm} (hf : fine t) : ∀ b, bytF t = some b → b.length ≤ 131072 := by
 intro b hb
 by_cases hk : t.k = 1
 ·rw [bytF_1 hk] at hb
  unfold dataF at hb
  split at hb
  ·cases hb
  ·cases hb
   have := s_le hf
   rw [size_len]
   exact this
 ·rw [bytF_n hk] at hb
  cases hb
  exact hf.2
def KindC (X : ByteArray) (k : Int) : Prop := ∀ W : World, Calls Tryz.prog 36 #[.string X] W (fun e w' => e = .returned (.int .i64 k) ∧ W = w')
def BytC (X : ByteArray) (o : Option (List UInt8)) : Prop := ∀ W : World, Calls Tryz.prog 90 #[.string X] W (ByP o W)
structure RjS (w : World) (ad : Addr) (f : ByteArray) (G : Nat → List UInt8 → Option (List UInt8)) (i : Nat) (X : ByteArray) (kk : Int) (bo : Option (List UInt8)) (s : ByteArray) : Prop where
 lt : ad.block < w.heap.size
 cell : w.cell? ⟨ad.block, ad.off + (i + 1), none⟩ = some (.string X)
 kind : KindC X kk
 byt : BytC X bo
 cut : kk = 1 → X.extract 5 X.size = s ∧ X.size = s.size + 5 ∧ s.size ≤ 131072
 few : ∀ b, bo = some b → b.length ≤ 131072
 tex : ∀ c, f[i]? = some c → c.toNat = 116 → ∀ out, G i out = bo.bind fun b => G (i + 1) (out ++ textL b)
 raw : ∀ c, f[i]? = some c → c.toNat ≠ 116 → ∀ out, G i out = if kk = 1 then G (i + 1) (out ++ s.data.toList) else none
structure RjW (w : World) (G : Nat → List UInt8 → Option (List UInt8)) (R : Option (List UInt8)) (i : Nat) (out : List UInt8) (wr : World) : Prop where
 bel : Below w.heap.size w wr
 go : G i out = R
 len : out.length ≤ 1 + i * 140000
section
variable {w : World}
theorem rj_kind {ad : Addr} {X : ByteArray} {kk : Int} {LL c : Nat} (hc0 : w.cell? ad = some (.string X)) (hl : 0 < LL) (HK : KindC X kk) (ek : (kk != 1) = true) : Calls Tryz.prog 37 #[.slice (some ad) LL c] w (ByP none w) := by
 have hz : ((LL : Int) == 0) = false := by rw [beq_eq_false_iff_ne]; omega
 have hpos : (0 : Int) < (LL : Nat) := by omega
 have HK := hide HK
 go_enter Tryz.func37, Tryz.ntmps37
 go_wp2_with (first
  | (go_at_call 36; refine (HK.out _).mono ?_; rintro e w1 ⟨rfl, rfl⟩)
  | fail)
 go_ret2
 exact byP_none (Below.refl _ _)
theorem rj_six {ad : Addr} {X : ByteArray} {kk : Int} {LL c : Nat} (hc0 : w.cell? ad = some (.string X)) (hl : 0 < LL) (HK : KindC X kk) (ek : (kk != 1) = false) (e6 : ((X.size : Int) != 6) = true) : Calls Tryz.prog 37 #[.slice (some ad) LL c] w (ByP none w) := by
 have hz : ((LL : Int) == 0) = false := by rw [beq_eq_false_iff_ne]; omega
 have hpos : (0 : Int) < (LL : Nat) := by omega
 have HK := hide HK
 go_enter Tryz.func37, Tryz.ntmps37
 go_wp2_with (first
  | (go_at_call 36; refine (HK.out _).mono ?_; rintro e w1 ⟨rfl, rfl⟩)
  | fail)
 go_ret2
 exact byP_none (Below.refl _ _)
set_option maxHeartbeats 2000000 in
theorem rj_fit {ad : Addr} {X f : ByteArray} {kk : Int} {LL c : Nat} {cc : UInt8} (hc0 : w.cell? ad = some (.string X)) (hl : 0 < LL) (hm : LL ≤ 1001) (HK : KindC X kk) (ek : (kk != 1) = false) (h6 : X.size = 6) (hx : X.extract 5 6 = bs [cc])
  (HF : ∀ W, Calls Tryz.prog 89 #[.int .i64 cc.toNat, .int .i64 ((LL : Int) - 1)] W fun e w' => e = .returned (.tuple #[.string f, .bool false]) ∧ Below W.heap.size W w') : Calls Tryz.prog 37 #[.slice (some ad) LL c] w (ByP none w) := by
 have hz : ((LL : Int) == 0) = false := by rw [beq_eq_false_iff_ne]; omega
 have hpos : (0 : Int) < (LL : Nat) := by omega
 have HK := hide HK
 have HF := hide HF
 have hb2s : (bs [cc]).size = 1 := rfl
 have hb0 : (bs [cc])[0] = cc := rfl
 have hcb := cc.toNat_lt
 go_enter Tryz.func37, Tryz.ntmps37
 go_wp2_with (first
  | (go_at_call 36; refine (HK.out _).mono ?_; rintro e w1 ⟨rfl, rfl⟩)
  | (go_at_call 89; refine (HF.out _).mono ?_; rintro e w2 ⟨rfl, hb2⟩)
  | fail)
 go_ret2
 exact byP_none hb2
set_option maxHeartbeats 8000000 in
set_option maxRecDepth 100000 in
theorem rj_go {ad : Addr} {X f : ByteArray} {kk : Int} {LL c n : Nat} {cc : UInt8} {G : Nat → List UInt8 → Option (List UInt8)} (hc0 : w.cell? ad = some (.string X)) (hl : LL = n + 1) (HK : KindC X kk) (ek : (kk != 1) = false) (h6 : X.size = 6) (hx : X.extract 5 6 = bs [cc])
  (HF : ∀ W, Calls Tryz.prog 89 #[.int .i64 cc.toNat, .int .i64 ((LL : Int) - 1)] W fun e w' => e = .returned (.tuple #[.string f, .bool true]) ∧ Below W.heap.size W w')
  (hf : f.size = n) (hn : n ≤ 13) (hE : ∀ out, G n out = some out) (hS : ∀ i, i < n → ∃ X kk bo s, RjS w ad f G i X kk bo s) : Calls Tryz.prog 37 #[.slice (some ad) LL c] w (ByP (G 0 [cc]) w) := by
 have hz : ((LL : Int) == 0) = false := by rw [beq_eq_false_iff_ne]; omega
 have hpos : (0 : Int) < (LL : Nat) := by omega
 have hm : LL ≤ 1001 := by omega
 have Hl := hide hl
 have Hsz := hide hf
 have HE := hide hE
 have HS := hide hS
 have HK := hide HK
 have HF := hide HF
 have hb2s : (bs [cc]).size = 1 := rfl
 have hb0 : (bs [cc])[0] = cc := rfl
 have hcb := cc.toNat_lt
 obtain ⟨R, hR⟩ : ∃ R, R = G 0 [cc] := ⟨_, rfl⟩
 have HR := hide hR
 rw [← hR]
 clear hR hl hf hE hS
 go_enter Tryz.func37, Tryz.ntmps37
 go_upto_region 8 with (first
  | (go_at_call 36; refine (HK.out _).mono ?_; rintro e w1 ⟨rfl, rfl⟩)
  | (go_at_call 89; refine (HF.out _).mono ?_; rintro e w2 ⟨rfl, hb2⟩)
  | fail)
 have HI0 := hide (show RjW w G R 0 [cc] w2 from ⟨hb2, HR.out.symm, by simp⟩)
 clear hb2 HF HK HR
 go_loopw [7, 4] (fun vi vo wr => ∃ (i : Nat) (out : List UInt8), vi = .int .i64 i ∧ vo = .string (bs out) ∧ i ≤ n ∧ Hid (RjW w G R i out wr)) (fun vi _ _ => n - (intOf vi).toNat)
 case atStart => exact ⟨0, _, rfl, rfl, Nat.zero_le _, HI0⟩
 case round =>
  obtain ⟨i, out, rfl, rfl, hi, HI⟩ := hrel
  have hol := HI.out.len
  clear HI0
  by_cases hlt : i < n
  ·have hif : i < f.size := by rw [Hsz.out]; exact hlt
   have hifi : (i : Int) < (f.size : Int) := by omega
   obtain ⟨X2, k2, bo, s, hs⟩ := HS.out i hlt
   have hcm : wr.cell? ⟨ad.block, ad.off + (i + 1), none⟩ = some (.string X2) := (HI.out.bel.cell (p := ⟨ad.block, ad.off + (i + 1), none⟩) hs.lt).trans hs.cell
   have hfc : f[i]? = some f[i] := by rw [getElem?_pos f i hif]
   have HKt := hide hs.kind
   have HB8 := hide (hs.byt wr)
   have hcut := hs.cut
   have hfew := hs.few
   have htex := hs.tex _ hfc
   have hraw := hs.raw _ hfc
   generalize hci : f[i] = cch at htex hraw
   have Hbel := hide HI.out.bel
   have Hgo := hide HI.out.go
   have hilt : i + 1 < LL := by have := Hl.out; omega
   have hii13 : i ≤ 13 := by omega
   clear hs hfc HI
   by_cases hc : cch.toNat = 116
   ·have hc1 : ((cch.toNat : Int) == 116) = true := by rw [hc]; rfl
    have hst := htex hc out
    clear htex hraw hcut HKt hc
    cases bo with
    | none =>
     have HE2 := hide (show R = none from Hgo.out.symm.trans hst)
     clear hst hfew
     go_wp2_with (first
      | (go_at_call 90; refine HB8.out.mono ?_; rintro e w5 ⟨rfl, hb5⟩)
      | fail)
     go_ret2
     rw [HE2.out]
     exact byP_none (Hbel.out.trans (hb5.mono Hbel.out.size))
    | some b =>
     have hb1 := hfew b rfl
     have HTx := hide (show ∀ W, Calls Tryz.prog 91 #[.string (bs b)] W (Says (textL b) W) from fun W => rText3_any (bs b) W (by show b.length < _; omega))
     have Hgo2 := hide (show G (i + 1) (out ++ textL b) = R from hst.symm.trans Hgo.out)
     have htl : (textL b).length = b.length + 4 := by unfold textL; rw [List.length_append, q4_len]; omega
     have HB9 := hide (show Calls Tryz.prog 90 #[.string X2] wr (fun e w' => e = .returned (.tuple #[.string (bs b), .bool true]) ∧ Below wr.heap.size wr w') from HB8.out)
     clear hst hfew HB8 Hgo
     generalize textL b = tb at Hgo2 htl HTx
     have hsum : out.length + tb.length ≤ 9223372036854775807 := by omega
     go_wp2_with (first
      | (go_at_call 90; refine HB9.out.mono ?_; rintro e w5 ⟨rfl, hb5⟩)
      | (go_at_call 91; refine (HTx.out _).mono ?_; rintro e w6 ⟨rfl, hb6⟩)
      | fail)
     exact ⟨⟨i + 1, out ++ tb, by go_num, rfl, by omega, hide ⟨Hbel.out.trans ((hb5.trans (hb6.mono hb5.size)).mono Hbel.out.size), Hgo2.out, by rw [List.length_append]; omega⟩⟩, by simp [intOf]; omega⟩
   ·have hc1 : ((cch.toNat : Int) == 116) = false := by rw [beq_eq_false_iff_ne]; omega
    have hst := hraw hc out
    clear htex hraw HB8 hc hfew
    by_cases hk2 : k2 = 1
    ·rw [if_pos hk2] at hst
     obtain ⟨hx1, hx2, hsl⟩ := hcut hk2
     have ek2 : (k2 != 1) = false := by rw [hk2]; rfl
     have Hgo2 := hide (show G (i + 1) (out ++ s.data.toList) = R from hst.symm.trans Hgo.out)
     have h5 : (5 : Int) ≤ X2.size := by omega
     have hsum : out.length + s.size ≤ 9223372036854775807 := by omega
     have hap : bs out ++ s = bs (out ++ s.data.toList) := by rw [← bs_app]; rfl
     have hso : s.data.toList.length = s.size := size_len _
     clear hk2 hst Hgo hcut hx2
     generalize s.data.toList = tl at Hgo2 hap hso
     go_wp2_with (first
      | (go_at_call 36; refine (HKt.out _).mono ?_; rintro e w5 ⟨rfl, rfl⟩)
      | fail)
     exact ⟨⟨i + 1, out ++ tl, by go_num, (by first | rw [← hap] | rw [hx1, ← hap]), by omega, hide ⟨Hbel.out, Hgo2.out, by rw [List.length_append]; omega⟩⟩, by simp [intOf]; omega⟩
    ·rw [if_neg hk2] at hst
     have ek2 : (k2 != 1) = true := by rw [bne_iff_ne]; omega
     have HE2 := hide (show R = none from Hgo.out.symm.trans hst)
     clear hk2 hst Hgo hcut
     go_wp2_with (first
      | (go_at_call 36; refine (HKt.out _).mono ?_; rintro e w5 ⟨rfl, rfl⟩)
      | fail)
     go_ret2
     rw [HE2.out]
     exact byP_none Hbel.out
  ·have hil : i = n := by omega
   have hfs : ¬ ((i : Int) < (f.size : Int)) := by rw [Hsz.out]; omega
   have hfs2 : ¬ i < f.size := by rw [Hsz.out]; omega
   have HE2 := hide (show R = some out from by rw [← HI.out.go, hil]; exact HE.out out)
   have hbw := HI.out.bel
   clear HI hol hil
   go_wp2_with fail
   go_ret2
   rw [HE2.out]
   exact byP_some hbw
theorem rjoin09_any {A : Option Addr} {c : Nat} {l : List Tm} (hS : Txs w (.slice A l.length c) (l.map enc)) (hf : ∀ t ∈ l, fine t) (hl : l.length ≤ 1000) : Calls Tryz.prog 37 #[.slice A l.length c] w (ByP (joinT l) w) := by
 have hcl : ∀ k, (hk : k < l.length) → ∃ ad, A = some ad ∧ ad.block < w.heap.size ∧ w.cell? (ad.add k) = some (.string (bs (enc l[k]))) := fun k hk => by
  obtain ⟨A', c', e', hc⟩ := hS.open_
  injection e' with e1 e2 e3
  subst e1
  obtain ⟨ad, h1, h2, h3⟩ := hc k (by rw [List.length_map]; exact hk)
  refine ⟨ad, h1, h2, ?_⟩
  rw [List.getElem_map] at h3
  exact h3
 clear hS
 match l, hcl, hf, hl with
 | [], hcl, hf, hl =>
  go_enter Tryz.func37, Tryz.ntmps37
  go_wp2_with fail
  go_ret2
  exact byP_none (Below.refl _ _)
 | d :: r, hcl, hf, hl =>
  obtain ⟨ad, rfl, hab, hc0⟩ := hcl 0 (by simp)
  rw [add_nil_] at hc0
  have hc0 : w.cell? ad = some (.string (bs (enc d))) := hc0
  have hfd := hf d (by simp)
  have HK : KindC (bs (enc d)) (d.k : Int) := fun W => rkind_enc hfd W
  by_cases hk : d.k = 1
  ·obtain ⟨hxx, hxs⟩ := tx_cut hfd hk
   have ek : ((d.k : Int) != 1) = false := by rw [hk]; rfl
   by_cases h1 : d.s.size = 1
   ·obtain ⟨cc, hcc⟩ : ∃ cc, d.s.data.toList = [cc] := by
     have h2 : d.s.data.toList.length = 1 := by rw [size_len]; exact h1
     match d.s.data.toList, h2 with
     | [cc], _ => exact ⟨cc, rfl⟩
    have hJ := joinT_of (r := r) hk hcc
    have hds : d.s = bs [cc] := by rw [← hcc]; rfl
    have h6 : (bs (enc d)).size = 6 := by omega
    rw [hds, h6] at hxx
    have hl1 : ((((d :: r).length : Nat) : Int) - 1) = (r.length : Nat) := by simp
    cases hfi : (fit (cc.toNat : Nat) r.length).2 with
    | false =>
     rw [hJ, if_neg (by rw [hfi]; decide)]
     exact rj_fit (f := (fit (cc.toNat : Nat) r.length).1) (cc := cc) hc0 (by simp) (by omega) HK ek h6 hxx (fun W => by rw [hl1, ← hfi]; exact rfit_any _ _ W)
    | true =>
     obtain ⟨f1, f2⟩ := fit_get hfi
     have hf13 := form_le f1
     have hlen : r.length ≤ 13 := by omega
     rw [hJ, if_pos hfi]
     refine rj_go (f := (fit (cc.toNat : Nat) r.length).1) (n := r.length) (cc := cc) (G := fun i out => joinGo ((fit (cc.toNat : Nat) r.length).1.data.toList.drop i) (r.drop i) out) hc0 rfl HK ek h6 hxx (fun W => by rw [hl1, ← hfi]; exact rfit_any _ _ W) f2 hlen ?_ ?_
     ·intro out
      rw [List.drop_of_length_le (by rw [size_len, f2]; exact Nat.le_refl _), List.drop_of_length_le (Nat.le_refl _)]
      rfl
     ·intro i hi
      have hif : i < (fit (cc.toNat : Nat) r.length).1.data.toList.length := by rw [size_len, f2]; exact hi
      obtain ⟨ad2, had, hab2, hcm⟩ := hcl (i + 1) (by rw [List.length_cons]; omega)
      obtain rfl : ad = ad2 := Option.some.inj had
      rw [add_succ_] at hcm
      have hft := hf r[i] (List.mem_cons_of_mem _ (List.getElem_mem hi))
      have hst := fun out => joinGo_step (i := i) (f := (fit (cc.toNat : Nat) r.length).1.data.toList) (l := r) out hif hi
      refine ⟨bs (enc r[i]), (r[i].k : Int), bytF r[i], r[i].s, hab2, hcm, fun W => rkind_enc hft W, fun W => rbytes_enc hft W, fun h9 => ?_, bytF_len hft, fun c9 h9 hc9 out => ?_, fun c9 h9 hc9 out => ?_⟩
      ·obtain ⟨q1, q2⟩ := tx_cut hft (by omega)
       exact ⟨q1, q2, s_le hft⟩
      ·have hcc9 : (fit (cc.toNat : Nat) r.length).1.data.toList[i] = c9 := by
        have : (fit (cc.toNat : Nat) r.length).1[i]? = some ((fit (cc.toNat : Nat) r.length).1.data.toList[i]) := by
         rw [getElem?_pos _ i (by rw [f2]; exact hi)]
         rfl
        rw [h9] at this
        exact (Option.some.inj this).symm
       show joinGo _ _ out = _
       rw [hst out, hcc9]
       unfold pieceT
       rw [if_pos hc9]
       cases bytF r[i] <;> rfl
      ·have hcc9 : (fit (cc.toNat : Nat) r.length).1.data.toList[i] = c9 := by
        have : (fit (cc.toNat : Nat) r.length).1[i]? = some ((fit (cc.toNat : Nat) r.length).1.data.toList[i]) := by
         rw [getElem?_pos _ i (by rw [f2]; exact hi)]
         rfl
        rw [h9] at this
        exact (Option.some.inj this).symm
       show joinGo _ _ out = _
       rw [hst out, hcc9]
       unfold pieceT
       rw [if_neg hc9]
       by_cases hk2 : r[i].k = 1
       ·rw [if_pos hk2, if_pos (by omega)]
       ·rw [if_neg hk2, if_neg (by omega)]
   ·rw [joinT_no (d := d) (r := r) (fun h9 => h1 h9.2)]
    exact rj_six hc0 (by simp) HK ek (by rw [bne_iff_ne]; omega)
  ·rw [joinT_no (d := d) (r := r) (fun h9 => hk h9.1)]
   exact rj_kind hc0 (by simp) HK (by rw [bne_iff_ne]; omega)
end
end Go.Proofs.YtmgfcjpifkoahaaGreatDoor
