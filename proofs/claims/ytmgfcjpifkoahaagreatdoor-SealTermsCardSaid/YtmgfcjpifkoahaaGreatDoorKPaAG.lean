/-
  Several of my texts in one: PayC, PayS, PayT, PaL, PaB, PaA.
-/
import Derived.Test.YtmgfcjpifkoahaaGreatDoorKPayJG
import Derived.Test.YtmgfcjpifkoahaaGreatDoorKPayNG
import Derived.Test.YtmgfcjpifkoahaaGreatDoorKOpqG
import Derived.Test.YtmgfcjpifkoahaaGreatDoorKPayP
import Derived.Deep.RegionHeld
set_option linter.unusedVariables false
set_option linter.unusedSimpArgs false
namespace Go.Proofs.YtmgfcjpifkoahaaGreatDoor
open Go.RowKit Go.ChangeShapes Go.WideShapes Go.Sort
def BytP (B : Nat) (w : World) (g : Nat) (T : List Tm) (S : Nat → Prop) (o : Option (List UInt8)) (e : Ending) (w' : World) : Prop :=
 ∃ T' S', T <+: T' ∧ T'.length ≤ T.length + 2000000 ∧ Ar B w' g T' S' ∧ Grown S w S' w' ∧ e = .returned (.tuple #[.string (bs (o.getD [])), .bool o.isSome])
theorem rawT_1 {t : Tm} (h : t.k = 1) : rawT t = some t.s.data.toList := by unfold rawT; rw [if_pos h]
theorem rawT_10 {t : Tm} (h : t.k = 10) : rawT t = joinT t.l := by unfold rawT; rw [if_neg (by omega), if_pos h]
theorem rawT_n {t : Tm} (h : t.k ≠ 1) (h2 : t.k ≠ 10) : rawT t = none := by unfold rawT; rw [if_neg h, if_neg h2]
theorem len_10 {t : Tm} (h : fine t) (hk : t.k = 10) : t.l.length ≤ 1000 := by
 obtain ⟨k, a, b, s, l⟩ := t
 simp only [Tm.k] at hk
 subst hk
 have h1 := h.1
 unfold good at h1
 obtain ⟨⟨_, _, h3, _⟩, _⟩ := h1
 exact Nat.le_trans h3 (by decide)
section
variable {B g : Nat} {w : World} {T : List Tm} {S : Nat → Prop}
theorem bytP_no {w1 : World} (h : Ar B w g T S) (hb : Below w.heap.size w w1) : BytP B w g T S none (.returned (.tuple #[.string ⟨#[]⟩, .bool false])) w1 :=
 ⟨T, S, List.prefix_refl _, by omega, h.below hb, Grown.of_below hb, rfl⟩
theorem bytP_of {w1 w2 : World} {T1 : List Tm} {S1 : Nat → Prop} {o o' : Option (List UInt8)} {e : Ending} (hb : Below w.heap.size w w1) (hp : T <+: T1) (hl : T1.length ≤ T.length + 2000000) (hA : Ar B w2 g T1 S1) (hG : Grown S w1 S1 w2) (ho : o = o') (he : e = .returned (.tuple #[.string (bs (o'.getD [])), .bool o'.isSome])) : BytP B w g T S o e w2 := by
 subst ho
 exact ⟨T1, S1, hp, hl, hA, (Grown.of_below hb).trans hG, he⟩
set_option maxHeartbeats 4000000 in
set_option maxRecDepth 100000 in
theorem pbytes_any (h : Use B w g T S) (hM : MaxB B w) (n : Int) (hT : T.length ≤ 600000000) : Calls Tryz.prog 10 #[.pointer (some ⟨g, 0, none⟩), .int .i64 n] w (BytP B w g T S ((arg T n).bind bytesT)) := by
 have HV := hide (aview_any h.ar n)
 have HU := hide h
 have HM := hide hM
 have HTl := hide hT
 clear h hM hT
 go_enter Tryz.func10, Tryz.ntmps10
 go_wp2_with fail
 refine HV.out.mono ?_
 intro e w1 hV
 rcases hV with ⟨⟨hno, rfl⟩ | ⟨t, js, av, hat, hja, rfl, hown⟩, hb1⟩
 ·have Hno := hide hno
  have hbx := bel_newN (w := w1) (.cells #[.int .i64 0, .int .i64 0, .int .i64 0, .string ⟨#[]⟩, .slice none 0 0] 70)
  have Hb := hide (hb1.trans (hbx.mono hb1.size))
  clear hno hb1 hbx
  go_wp2_with fail
  go_ret2
  rw [Hno.out]
  exact bytP_no HU.out.ar Hb.out
 ·obtain ⟨A, c, rfl⟩ := own_sl hown
  have hids := own_ids (by rw [List.length_map]) hown
  have hfine := HU.out.ar.ok.fine t (arg_mem hat)
  have hnn : Idn T (some t) n := ⟨hat, fun e => by cases e⟩
  have HN := hide hnn
  have HFi := hide hfine
  have HJA := hide hja
  clear hown hja hfine hnn
  go_upto_region 2 with fail
  obtain ⟨w2, hw2⟩ : ∃ W, W = w1.alloc (.cells #[.int .i64 t.k, .int .i64 t.a, .int .i64 t.b, .string t.s, .slice A js.length c] 70) := ⟨_, rfl⟩
  have hbx : Below w1.heap.size w1 w2 := by rw [hw2]; exact bel_newN _
  have hXx : Blk w2 w1.heap.size 70 #[.int .i64 t.k, .int .i64 t.a, .int .i64 t.b, .string t.s, .slice A js.length c] := by rw [hw2]; exact Blk.new w1 _ _
  rw [← hw2]
  clear hw2
  generalize w1.heap.size = bx at hXx ⊢
  have hb02 := hb1.trans (hbx.mono hb1.size)
  have hU2 := HU.out.below hb02
  have hM2 := HM.out.below hb02
  have hI2 := hids.below hbx
  have HPt := hide (fun (s : ByteArray) (hs : s.size ≤ 32768) (W : World) (hb : Below w2.heap.size w2 W) => pterm_any (hU2.below hb) (hM2.below hb) s hs (by have := HTl.out; omega))
  have HJo := hide (fun (h9 : t.k = 10) => pjoin_any hU2.ar hU2.tab hI2 HJA.out (len_10 HFi.out h9))
  have Hb02 := hide hb02
  have Hat := hide hat
  have x0 := hXx.cell 0
  have x3 := hXx.cell 3
  have x4 := hXx.cell 4
  simp only [List.getElem?_toArray, List.getElem?_cons_zero, List.getElem?_cons_succ] at x0 x3 x4
  clear hXx hbx hids hU2 hM2 hI2 hb1 hb02 hat
  by_cases hk : t.k = 1
  ·have ek : ((t.k : Int) == 1) = true := by rw [hk]; rfl
   have Hk := hide hk
   clear hk HJo
   by_cases hL : 32768 < t.s.size
   ·have hLi : (32768 : Int) < t.s.size := by omega
    have HE := hide (bytesT_no (rawT_1 Hk.out) (fun h9 => by have := h9.1; rw [size_len] at this; omega))
    clear hL
    go_wp2_with fail
    go_ret2
    rw [Hat.out]
    show BytP B w g T S (bytesT t) _ _
    rw [HE.out]
    exact bytP_no HU.out.ar (Hb02.out)
   ·have hLi : ¬ (32768 : Int) < t.s.size := by omega
    have HP := hide (HPt.out (t.s) (by omega) w2 (Below.refl _ _))
    go_wp2_with fail
    refine HP.out.mono ?_
    intro e w4 hD
    obtain ⟨T3, n3, S3, rfl, hid, hp, hl, hA, hG⟩ := hD
    have hiff : n3 = n ↔ payT (t.s.data.toList) = some t := hid.eq_iff hA.ok (HN.out.pre hp)
    by_cases hpt : payT (t.s.data.toList) = some t
    ·have hnn := hiff.2 hpt
     subst hnn
     have hne : (n3 != n3) = false := by simp
     have HE := hide (bytesT_of (rawT_1 Hk.out) (by rw [size_len]; omega) hpt)
     have Hf := hide (show BytP B w g T S (some (t.s.data.toList)) (.returned (.tuple #[.string (t.s), .bool true])) w4 from bytP_of Hb02.out hp hl hA hG rfl rfl)
     clear hid hp hl hA hG hiff hpt HP
     go_wp2_with fail
     go_ret2
     rw [Hat.out]
     show BytP B w g T S (bytesT t) _ _
     rw [HE.out]
     exact Hf.out
    ·have hne : (n3 != n) = true := by rw [bne_iff_ne]; exact fun h9 => hpt (hiff.1 h9)
     have HE := hide (bytesT_no (rawT_1 Hk.out) (fun h9 => hpt h9.2))
     have Hf := hide (show BytP B w g T S none (.returned (.tuple #[.string ⟨#[]⟩, .bool false])) w4 from bytP_of Hb02.out hp hl hA hG rfl rfl)
     clear hid hp hl hA hG hiff hpt HP
     go_wp2_with fail
     go_ret2
     rw [Hat.out]
     show BytP B w g T S (bytesT t) _ _
     rw [HE.out]
     exact Hf.out
  ·have ek : ((t.k : Int) == 1) = false := by rw [beq_eq_false_iff_ne]; omega
   by_cases hk2 : t.k = 10
   ·have ek2 : ((t.k : Int) == 10) = true := by rw [hk2]; rfl
    have HJ := hide (HJo.out hk2)
    have Hk := hide hk2
    clear hk hk2 HJo
    go_wp2_with fail
    refine HJ.out.mono ?_
    rintro e w3 ⟨hb3, ⟨out, ho, hol, rfl⟩ | ⟨hno, rfl⟩⟩
    ·have Ho := hide (And.intro ho hol)
     have hoi : ¬ (32768 : Int) < (out.length : Nat) := by omega
     clear ho HJ
     have HP := hide (HPt.out (bs out) (by exact Ho.out.2) w3 (hb3))
     go_wp2_with fail
     refine HP.out.mono ?_
     intro e w4 hD
     obtain ⟨T3, n3, S3, rfl, hid, hp, hl, hA, hG⟩ := hD
     have hiff : n3 = n ↔ payT (out) = some t := hid.eq_iff hA.ok (HN.out.pre hp)
     by_cases hpt : payT (out) = some t
     ·have hnn := hiff.2 hpt
      subst hnn
      have hne : (n3 != n3) = false := by simp
      have HE := hide (bytesT_of ((rawT_10 Hk.out).trans Ho.out.1) (by exact Ho.out.2) hpt)
      have Hf := hide (show BytP B w g T S (some (out)) (.returned (.tuple #[.string (bs out), .bool true])) w4 from bytP_of (Hb02.out.trans (hb3.mono Hb02.out.size)) hp hl hA hG rfl rfl)
      clear hid hp hl hA hG hiff hpt HP
      go_wp2_with fail
      go_ret2
      rw [Hat.out]
      show BytP B w g T S (bytesT t) _ _
      rw [HE.out]
      exact Hf.out
     ·have hne : (n3 != n) = true := by rw [bne_iff_ne]; exact fun h9 => hpt (hiff.1 h9)
      have HE := hide (bytesT_no ((rawT_10 Hk.out).trans Ho.out.1) (fun h9 => hpt h9.2))
      have Hf := hide (show BytP B w g T S none (.returned (.tuple #[.string ⟨#[]⟩, .bool false])) w4 from bytP_of (Hb02.out.trans (hb3.mono Hb02.out.size)) hp hl hA hG rfl rfl)
      clear hid hp hl hA hG hiff hpt HP
      go_wp2_with fail
      go_ret2
      rw [Hat.out]
      show BytP B w g T S (bytesT t) _ _
      rw [HE.out]
      exact Hf.out
    ·have HE := hide (show bytesT t = none from by
      cases hr : rawT t with
      | none => exact bytesT_none hr
      | some s => exact bytesT_no hr (fun h9 => by have := hno s ((rawT_10 Hk.out).symm.trans hr); omega))
     clear hno HJ
     go_wp2_with fail
     go_ret2
     rw [Hat.out]
     show BytP B w g T S (bytesT t) _ _
     rw [HE.out]
     exact bytP_no HU.out.ar (Hb02.out.trans (hb3.mono Hb02.out.size))
   ·have ek2 : ((t.k : Int) == 10) = false := by rw [beq_eq_false_iff_ne]; omega
    have HE := hide (bytesT_none (rawT_n hk hk2))
    clear hk hk2 HJo
    go_wp2_with fail
    go_ret2
    rw [Hat.out]
    show BytP B w g T S (bytesT t) _ _
    rw [HE.out]
    exact bytP_no HU.out.ar (Hb02.out)
end
end Go.Proofs.YtmgfcjpifkoahaaGreatDoor
namespace Go.Proofs.YtmgfcjpifkoahaaGreatDoor
open Go.RowKit Go.ChangeShapes Go.WideShapes Go.Sort
theorem TxL.set_ {lo : Nat} {w : World} {v : Value} {ls : List (List UInt8)} (h : TxL lo w v ls) {p : Addr} (hp : p.block < lo) (u : Value) : TxL lo (w.setCell p u) v ls := by
 obtain ⟨A, c, e, hS⟩ := h
 exact ⟨A, c, e, hS.setCell hp u⟩
@[go_sem] theorem field_4 (x0 x1 x2 : Int) (x3 : ByteArray) (A : Option Addr) (n c : Nat) (w : World) : (Instr.field 92 (.agg #[.int .i64 x0, .int .i64 x1, .int .i64 x2, .string x3, .slice A n c]) 4).run Tryz.prog w = .ok (.slice A n c) w := by kernel_rfl
structure RjI (w : World) (r : List Tm) (f : ByteArray) (R : Option (List UInt8)) (i : Nat) (out : List UInt8) (wr : World) : Prop where
 bel : Below w.heap.size w wr
 go : joinGo (f.data.toList.drop i) (r.drop i) out = R
 len : out.length ≤ 1 + i * 140000
end Go.Proofs.YtmgfcjpifkoahaaGreatDoor
namespace Go.Proofs.YtmgfcjpifkoahaaGreatDoor
open Go.RowKit Go.ChangeShapes Go.WideShapes Go.Sort
def KindC (X : ByteArray) (k : Int) : Prop := ∀ W : World, Calls Tryz.prog 36 #[.string X] W (fun e w' => e = .returned (.int .i64 k) ∧ W = w')
def BytC (X : ByteArray) (o : Option (List UInt8)) : Prop := ∀ W : World, Calls Tryz.prog 90 #[.string X] W (ByP o W)
structure RjS (w : World) (ad : Addr) (f : ByteArray) (G : Nat → List UInt8 → Option (List UInt8)) (i : Nat) (X : ByteArray) (kk : Int) (bo : Option (List UInt8)) (s : ByteArray) : Prop where
 lt : ad.block < w.heap.size
 cell : w.cell? ⟨ad.block, ad.off + (i + 1), none⟩ = some (.string X)
 kind : KindC X kk
 byt : BytC X bo
 cut : kk = 1 → X.extract 5 X.size = s ∧ X.size = s.size + 5 ∧ s.size ≤ 131072
 few : ∀ b, bo = some b → b.length ≤ 131072
 tex : ∀ c, f[i]? = some c → c.toNat = 116 → ∀ out, G i out = bo.bind fun b => G (i + 1) (out ++ textL b)
 raw : ∀ c, f[i]? = some c → c.toNat ≠ 116 → ∀ out, G i out = if kk = 1 then G (i + 1) (out ++ s.data.toList) else none
structure RjW (w : World) (G : Nat → List UInt8 → Option (List UInt8)) (R : Option (List UInt8)) (i : Nat) (out : List UInt8) (wr : World) : Prop where
 bel : Below w.heap.size w wr
 go : G i out = R
 len : out.length ≤ 1 + i * 140000
end Go.Proofs.YtmgfcjpifkoahaaGreatDoor
namespace Go.Proofs.YtmgfcjpifkoahaaGreatDoor
open Go.RowKit Go.ChangeShapes Go.WideShapes Go.Sort
theorem dec_21 : decS [21] = .ok 21 [] := by kernel_rfl
theorem pay_21 : payT [21] = tList [tData ⟨#[21]⟩] := payT_list dec_21
structure Pay (w0 : World) (B g : Nat) (T : List Tm) (S : Nat → Prop) (w : World) : Prop where
 use : Use B w g T S
 max : MaxB B w
 bel : Below w0.heap.size w0 w
 base : w0.heap.size ≤ B
section
variable {w0 w w' : World} {B g : Nat} {T T' : List Tm} {S S' : Nat → Prop}
theorem Pay.new (hT : Tab w0) (hM : MaxL w0) (hb0 : Below w0.heap.size w0 w) (h : Ar w.heap.size w' g [] S) (hb : Below w.heap.size w w') : Pay w0 w.heap.size g [] S w' :=
 ⟨use_new2 hT hb0 h hb, ⟨w0, hM, hb0.size, hb0.trans (hb.mono hb0.size)⟩, hb0.trans (hb.mono hb0.size), hb0.size⟩
theorem Pay.below (h : Pay w0 B g T S w) (hb : Below w.heap.size w w') : Pay w0 B g T S w' :=
 ⟨h.use.below hb, h.max.below hb, h.bel.trans (hb.mono h.bel.size), h.base⟩
theorem Pay.grown (h : Pay w0 B g T S w) (hG : Grown S w S' w') (hA : Ar B w' g T' S') (hf : T'.length ≤ 1000000000) : Pay w0 B g T' S' w' :=
 ⟨h.use.grown hG hA hf, h.max.grown h.use hG, h.bel.trans ((hG.below h.use.base h.use.ar.sB).mono h.base), h.base⟩
theorem Pay.ar (h : Pay w0 B g T S w) : Ar B w g T S := h.use.ar
end
end Go.Proofs.YtmgfcjpifkoahaaGreatDoor
namespace Go.Proofs.YtmgfcjpifkoahaaGreatDoor
open Go.RowKit Go.ChangeShapes Go.WideShapes Go.Sort
structure PyS (w0 : World) (B0 B g : Nat) (T : List Tm) (S : Nat → Prop) (ms : List (Option Tm)) (v1 v2 : Value) (b7 : Nat) (W : World) : Prop where
 pay : Pay w0 B g T S W
 mdo : MdO B0 W T ms v1 v2 S
 blk : Blk W b7 37 #[v1, v2]
 nb : ¬ S b7
section
variable {B0 B g b7 : Nat} {w W W' : World} {T T' : List Tm} {S S' : Nat → Prop} {ms : List (Option Tm)} {v1 v2 : Value}
theorem PyS.below (h : PyS w B0 B g T S ms v1 v2 b7 W) (hb : Below W.heap.size W W') : PyS w B0 B g T S ms v1 v2 b7 W' :=
 ⟨h.pay.below hb, h.mdo.grown (Grown.of_below hb) (List.prefix_refl _), h.blk.below hb h.blk.lt, h.nb⟩
theorem PyS.grown (h : PyS w B0 B g T S ms v1 v2 b7 W) (hG : Grown S W S' W') (hA : Ar B W' g T' S') (hp : T <+: T') (hf : T'.length ≤ 1000000000) : PyS w B0 B g T' S' ms v1 v2 b7 W' :=
 ⟨h.pay.grown hG hA hf, h.mdo.grown hG hp, hG.outs.blk h.blk h.nb, hG.notin2 h.nb h.blk.lt⟩
end
end Go.Proofs.YtmgfcjpifkoahaaGreatDoor
namespace Go.Proofs.YtmgfcjpifkoahaaGreatDoor
open Go.RowKit Go.ChangeShapes Go.WideShapes Go.Sort
def DoneY (w0 : World) (B g : Nat) (T : List Tm) (S : Nat → Prop) (wb : World) (o : Option Tm) (m : Nat) (e : Ending) (w' : World) : Prop :=
 ∃ T' n S', e = .returned (.int .i64 n) ∧ Idn T' o n ∧ T <+: T' ∧ T'.length ≤ T.length + m ∧ Pay w0 B g T' S' w' ∧ Grown S wb S' w'
def BytY (w0 : World) (B g : Nat) (T : List Tm) (S : Nat → Prop) (wb : World) (o : Option (List UInt8)) (e : Ending) (w' : World) : Prop :=
 ∃ T' S', e = .returned (.tuple #[.string (bs (o.getD [])), .bool o.isSome]) ∧ T <+: T' ∧ T'.length ≤ T.length + 2000000 ∧ Pay w0 B g T' S' w' ∧ Grown S wb S' w'
section
variable {w0 wb : World} {B g : Nat} {T : List Tm} {S : Nat → Prop}
theorem DoneF.y (h : Pay w0 B g T S wb) {w w' : World} (hb : Below wb.heap.size wb w) {o : Option Tm} {m : Nat} {e : Ending} (hm : T.length + m ≤ 1000000000) (hd : DoneF B w g T S o m e w') : DoneY w0 B g T S wb o m e w' := by
 obtain ⟨T1, n1, S1, e1, h1, h2, h3, h4, h5⟩ := hd
 exact ⟨T1, n1, S1, e1, h1, h2, h3, (h.below hb).grown h5 h4 (by omega), (Grown.of_below hb).trans h5⟩
theorem bytes_pay (h : Pay w0 B g T S wb) {x : Option Tm} {n : Int} (hx : Idn T x n) (hT : T.length ≤ 600000000) (w : World) (hb : Below wb.heap.size wb w) : Calls Tryz.prog 10 #[.pointer (some ⟨g, 0, none⟩), .int .i64 n] w (BytY w0 B g T S wb (x.bind bytesT)) := by
 have H := pbytes_any (h.use.below hb) (h.max.below hb) n hT
 rw [hx.1] at H
 refine H.mono fun e w' hd => ?_
 obtain ⟨T1, S1, h1, h2, h3, h4, h5⟩ := hd
 exact ⟨T1, S1, h5, h1, h2, (h.below hb).grown h4 h3 (by omega), (Grown.of_below hb).trans h4⟩
theorem term_pay (h : Pay w0 B g T S wb) {s : ByteArray} (hs : s.size ≤ 32768) (hT : T.length ≤ 600000000) (w : World) (hb : Below wb.heap.size wb w) : Calls Tryz.prog 9 #[.pointer (some ⟨g, 0, none⟩), .string s] w (DoneY w0 B g T S wb (payT s.data.toList) 2000000) :=
 (pterm_any (h.use.below hb) (h.max.below hb) s hs (by omega)).mono fun _ _ hd => DoneF.y h hb (by omega) hd
end
end Go.Proofs.YtmgfcjpifkoahaaGreatDoor
