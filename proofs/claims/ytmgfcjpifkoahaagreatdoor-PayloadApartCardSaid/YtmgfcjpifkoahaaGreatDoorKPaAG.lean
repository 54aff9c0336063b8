/-
  Several of my texts in one: PaB, PaA.
-/
import Derived.Test.YtmgfcjpifkoahaaGreatDoorKPaLG
import Derived.Test.YtmgfcjpifkoahaaGreatDoorKEnc02
import Derived.Test.YtmgfcjpifkoahaaGreatDoorKPaXG
import Derived.Deep.RegionHeld
set_option linter.unusedVariables false
set_option linter.unusedSimpArgs false
namespace Go.Proofs.YtmgfcjpifkoahaaGreatDoor
open Go.RowKit Go.ChangeShapes Go.WideShapes Go.Sort
structure PyS (w0 : World) (B0 B g : Nat) (T : List Tm) (S : Nat → Prop) (ms : List (Option Tm)) (v1 v2 : Value) (b7 : Nat) (W : World) : Prop where
 pay : Pay w0 B g T S W
 mdo : MdO B0 W T ms v1 v2 S
 blk : Blk W b7 37 #[v1, v2]
 nb : ¬ S b7
section
variable {B0 B g b7 : Nat} {w W W' : World} {T T' : List Tm} {S S' : Nat → Prop} {ms : List (Option Tm)} {v1 v2 : Value}
theorem PyS.below (h : PyS w B0 B g T S ms v1 v2 b7 W) (hb : Below W.heap.size W W') : PyS w B0 B g T S ms v1 v2 b7 W' :=
 ⟨h.pay.below hb, h.mdo.grown (Grown.of_below hb) (List.prefix_refl _), h.blk.below hb h.blk.lt, h.nb⟩
theorem PyS.grown (h : PyS w B0 B g T S ms v1 v2 b7 W) (hG : Grown S W S' W') (hA : Ar B W' g T' S') (hp : T <+: T') (hf : T'.length ≤ 1000000000) : PyS w B0 B g T' S' ms v1 v2 b7 W' :=
 ⟨h.pay.grown hG hA hf, h.mdo.grown hG hp, hG.outs.blk h.blk h.nb, hG.notin2 h.nb h.blk.lt⟩
end
theorem pys_new {w w2 w4 : World} {B g c1 c2 n : Nat} {T4 : List Tm} {S S4 : Nat → Prop} {l : List Mk} {A1 A2 : Option Addr} (hP : Pay w B g [] S w2) (hG4 : Grown S w2 S4 w4) (hA4 : Ar B w4 g T4 S4) (hmd : MdO w2.heap.size w4 T4 (makes l) (.slice A1 n c1) (.slice A2 n c2) S4) (hT4 : T4.length ≤ 1000000) :
  PyS w w2.heap.size B g T4 S4 (makes l) (.slice A1 n c1) (.slice A2 n c2) w4.heap.size (w4.alloc (.cells #[.slice A1 n c1, .slice A2 n c2] 37)) := by
 have hb5 := bel_newN (w := w4) (.cells #[.slice A1 n c1, .slice A2 n c2] 37)
 refine ⟨(hP.grown hG4 hA4 (by omega)).below hb5, hmd.grown (Grown.of_below hb5) (List.prefix_refl _), Blk.new _ _ _, fun hs => ?_⟩
 have := hA4.sL _ hs
 omega
end Go.Proofs.YtmgfcjpifkoahaaGreatDoor
namespace Go.Proofs.YtmgfcjpifkoahaaGreatDoor
open Go.RowKit Go.ChangeShapes Go.WideShapes Go.Sort
def DoneY (w0 : World) (B g : Nat) (T : List Tm) (S : Nat → Prop) (wb : World) (o : Option Tm) (m : Nat) (e : Ending) (w' : World) : Prop :=
 ∃ T' n S', e = .returned (.int .i64 n) ∧ Idn T' o n ∧ T <+: T' ∧ T'.length ≤ T.length + m ∧ Pay w0 B g T' S' w' ∧ Grown S wb S' w'
def BytY (w0 : World) (B g : Nat) (T : List Tm) (S : Nat → Prop) (wb : World) (o : Option (List UInt8)) (e : Ending) (w' : World) : Prop :=
 ∃ T' S', e = .returned (.tuple #[.string (bs (o.getD [])), .bool o.isSome]) ∧ T <+: T' ∧ T'.length ≤ T.length + 2000000 ∧ Pay w0 B g T' S' w' ∧ Grown S wb S' w'
theorem cell_al {w : World} {o : Obj} {p : Addr} {v : Value} (h : w.cell? p = some v) : (w.alloc o).cell? p = some v := (World.cell?_alloc_some _ _ _ (by rw [h]; rfl)).trans h
theorem own_two {w : World} {t : TypeId} {x y : Value} : (w.alloc (.cells #[x, y] t)).ownsRow w.heap.size t 1 (.slice (some ⟨w.heap.size, 0, none⟩) 2 2) 2 [x, y] :=
 ⟨rfl, .inr ⟨_, 2, #[x, y], rfl, Nat.le_refl _, Blk.new w t #[x, y], Nat.le_refl _, by unfold maxLen; omega, rfl, rfl⟩⟩
section
variable {w0 wb : World} {B g : Nat} {T : List Tm} {S : Nat → Prop}
theorem DoneF.y (h : Pay w0 B g T S wb) {w w' : World} (hb : Below wb.heap.size wb w) {o : Option Tm} {m : Nat} {e : Ending} (hm : T.length + m ≤ 1000000000) (hd : DoneF B w g T S o m e w') : DoneY w0 B g T S wb o m e w' := by
 obtain ⟨T1, n1, S1, e1, h1, h2, h3, h4, h5⟩ := hd
 exact ⟨T1, n1, S1, e1, h1, h2, h3, (h.below hb).grown h5 h4 (by omega), (Grown.of_below hb).trans h5⟩
theorem data_pay (h : Pay w0 B g T S wb) {s : ByteArray} (hs : s.size ≤ 1000000) (hT : T.length ≤ 900000000) (w : World) (hb : Below wb.heap.size wb w) : Calls Tryz.prog 18 #[.pointer (some ⟨g, 0, none⟩), .string s] w (DoneY w0 B g T S wb (tData s) 1) :=
 (aData_any (h.use.below hb) hs).mono fun _ _ hd => DoneF.y h hb (by omega) hd.f
theorem list2_pay (h : Pay w0 B g T S wb) {x y : Option Tm} {n m : Int} (hx : Idn T x n) (hy : Idn T y m) (hT : T.length ≤ 900000000) (w : World) (hb : Below wb.heap.size wb w) : Calls Tryz.prog 17 #[.pointer (some ⟨g, 0, none⟩), .slice (some ⟨w.heap.size, 0, none⟩) 2 2] (w.alloc (.cells #[.int .i64 n, .int .i64 m] 25)) (DoneY w0 B g T S wb (tList [x, y]) 1) := by
 have hb2 := hb.trans ((bel_newN (w := w) (.cells #[.int .i64 n, .int .i64 m] 25)).mono hb.size)
 have H := aList_any (h.use.below hb2) (own_ids (ns := [n, m]) rfl own_two) (by simp)
 have he : [n, m].map (arg T) = [x, y] := (((idns_nil T).snoc hx).snoc hy).args
 rw [he] at H
 exact H.mono fun _ _ hd => DoneF.y h hb2 (by omega) hd.f
theorem bytes_pay (h : Pay w0 B g T S wb) {x : Option Tm} {n : Int} (hx : Idn T x n) (hT : T.length ≤ 600000000) (w : World) (hb : Below wb.heap.size wb w) : Calls Tryz.prog 10 #[.pointer (some ⟨g, 0, none⟩), .int .i64 n] w (BytY w0 B g T S wb (x.bind bytesT)) := by
 have H := pbytes_any (h.use.below hb) (h.max.below hb) n hT
 rw [hx.1] at H
 refine H.mono fun e w' hd => ?_
 obtain ⟨T1, S1, h1, h2, h3, h4, h5⟩ := hd
 exact ⟨T1, S1, h5, h1, h2, (h.below hb).grown h4 h3 (by omega), (Grown.of_below hb).trans h4⟩
theorem term_pay (h : Pay w0 B g T S wb) {s : ByteArray} (hs : s.size ≤ 32768) (hT : T.length ≤ 600000000) (w : World) (hb : Below wb.heap.size wb w) : Calls Tryz.prog 9 #[.pointer (some ⟨g, 0, none⟩), .string s] w (DoneY w0 B g T S wb (payT s.data.toList) 2000000) :=
 (pterm_any (h.use.below hb) (h.max.below hb) s hs (by omega)).mono fun _ _ hd => DoneF.y h hb (by omega) hd
end
section
variable {w : World}
set_option maxHeartbeats 8000000 in
set_option maxRecDepth 100000 in
theorem payApart_any (hT : Tab w) (hMx : MaxL w) {A : Option Addr} {c : Nat} {l : List Mk} (hl : Mks w.heap.size w A l) (hf : fewB l 20 = true) (hll : l.length ≤ 20) (hls : ∀ x ∈ l, x.s.size ≤ 1000000) (k : Nat) (hk : k < l.length) :
  Calls Tryz.prog 5 #[.slice A l.length c, .int .i64 k] w (fun e w' => e = .returned (.bool true) ∧ Below w.heap.size w w') := by
 have HF := hide (few_any (c := c) (hl.outs (Outs.of_below (R := fun _ => False) (Below.refl _ _)) (fun i h => h.elim)) (by omega) 20)
 rw [hf] at HF
 have HT := hide (And.intro hT hMx)
 have HL := hide hl
 have Hls := hide hls
 have hml := makes_len l
 have Hfine := hide (makes_fine hls)
 have hk0 : ¬ (k : Int) < 0 := by omega
 have hk1 : ¬ (l.length : Int) ≤ k := by omega
 clear hT hl hls hf hMx
 go_enter Tryz.func5, Tryz.ntmps5
 go_wp2_with (first
  | (go_at_call 13; refine HF.out.mono ?_; rintro e w1 ⟨rfl, rfl⟩)
  | fail)
 refine (new_any w1).mono ?_
 rintro e w2 ⟨g, S, rfl, hA1, hb2⟩
 have HP := hide (Pay.new HT.out.1 HT.out.2 (Below.refl _ _) hA1 hb2)
 have HM := hide (makes_any (c := c) HP.out.use (HL.out.outs (Outs.of_below (R := fun _ => False) hb2) (fun i h => h.elim)) (by omega) Hls.out (by simp; omega))
 clear hA1 hb2 HF
 go_wp2_with fail
 refine HM.out.mono ?_
 rintro e w4 ⟨T4, S4, v1, v2, rfl, hmd, hpre4, hT4, hA4, hG4⟩
 obtain ⟨A1, c1, hv1⟩ := own_sl hmd.ids.choose_spec.1
 obtain ⟨A2, c2, hv2⟩ := own_sl hmd.txs
 rw [hml] at hv1 hv2
 subst hv1 hv2
 have hT5 : T4.length ≤ 20 := by simp at hT4; omega
 have HE := hide (pys_new HP.out hG4 hA4 hmd (by omega))
 clear hmd hpre4 hT4 hA4 hG4 HM HP
 go_upto_region 5 with fail
 generalize w4.alloc (.cells #[.slice A1 l.length c1, .slice A2 l.length c2] 37) = w5 at HE ⊢
 generalize w4.heap.size = b7 at HE ⊢
 generalize w2.heap.size = B0 at HE ⊢
 have HAW := hide (fun (W : World) (hb : Below w1.heap.size w1 W) => awake09_any (HT.out.1.below hb) (HT.out.2.below hb))
 obtain ⟨o, ho⟩ : ∃ o, (makes l)[k]? = some o := ⟨_, List.getElem?_eq_getElem (by omega)⟩
 obtain ⟨g1, g2, m, rfl, rfl, n1, n2, l1, l2, k1, k2, hid⟩ := mdo_at HE.out.mdo hml ho
 have m0 : w5.cell? ⟨b7, 0, none⟩ = some (.slice (some ⟨g1, 0, none⟩) l.length c1) := HE.out.blk.cell 0
 have m1 : w5.cell? ⟨b7, 1, none⟩ = some (.slice (some ⟨g2, 0, none⟩) l.length c2) := HE.out.blk.cell 1
 have hkk : (k : Int) < l.length := by omega
 have lb := HE.out.blk.lt
 have nb := HE.out.nb
 have hbw := HE.out.pay.bel
 have HKd := hide (akind_any HE.out.pay.ar m)
 rw [hid.1] at HKd
 have HPy := hide HE.out.pay
 have Hid := hide hid
 clear HL HE hid
 cases o with
 | none =>
  have hxx : ((bs (txt none)).toList == []) = true := by rw [bs_toList]; rfl
  clear ho Hfine
  generalize bs (txt none) = xo at k2 hxx
  go_wp2_with (first
   | (go_at_call 7; refine (HAW.out _ hbw).mono ?_; rintro e w7 ⟨rfl, hb7⟩)
   | fail)
  go_ret
  exact ⟨rfl, hbw.trans (hb7.mono hbw.size)⟩
 | some t =>
  have hft : fine t := Hfine.out (some t) (List.mem_of_getElem? ho) t rfl
  have hxx : ((bs (txt (some t))).toList == []) = false := enc_toList_ne t
  have hsz : (bs (txt (some t))).size = (enc t).length := rfl
  clear ho Hfine
  by_cases hL : 20000 < (enc t).length
  ·have hLi : (20000 : Int) < ((bs (txt (some t))).size : Nat) := by omega
   generalize bs (txt (some t)) = xo at k2 hxx hLi
   clear hsz hL hft
   go_wp2_with (first
    | (go_at_call 7; refine (HAW.out _ hbw).mono ?_; rintro e w7 ⟨rfl, hb7⟩)
    | fail)
   go_ret
   exact ⟨rfl, hbw.trans (hb7.mono hbw.size)⟩
  ·have hLi : ¬ (20000 : Int) < ((bs (txt (some t))).size : Nat) := by omega
   have HKd2 := hide (show Calls Tryz.prog 16 #[.pointer (some ⟨g, 0, none⟩), .int .i64 m] w5 (fun e w' => e = .returned (.int .i64 (t.k : Int)) ∧ w5 = w') from HKd.out)
   clear HKd
   by_cases hk2 : t.k = 1
   ·have ek : ((t.k : Int) == 1) = true := by rw [hk2]; rfl
    generalize bs (txt (some t)) = xo at k2 hxx hLi
    clear hsz hL hft hk2
    go_wp2_with (first
     | (go_at_call 16; refine HKd2.out.mono ?_; rintro e w6 ⟨rfl, rfl⟩)
     | (go_at_call 7; refine (HAW.out _ hbw).mono ?_; rintro e w7 ⟨rfl, hb7⟩)
     | fail)
    go_ret
    exact ⟨rfl, hbw.trans (hb7.mono hbw.size)⟩
   ·have ek : ((t.k : Int) == 1) = false := by rw [beq_eq_false_iff_ne]; omega
    obtain ⟨r, hr1, hr2, hr3, hr4⟩ := right_30 hft hk2 (by omega)
    obtain ⟨u, hu1, hu2⟩ := split_30 hft (by omega)
    have HI := hide (fun u (hu : tList [tData ⟨#[30]⟩, tData (bs (enc t))] = some u) => inner_30 hft hk2 (by omega) hu)
    have Hr := hide (And.intro hr1 (And.intro hr2 (And.intro hr3 hr4)))
    have Hu := hide (And.intro hu1 hu2)
    have hzl : (enc t).length ≤ 20000 := by omega
    have hso : (30 :: textL (enc t)).length = (enc t).length + 5 := by rw [List.length_cons, textL_len]
    have Hin := hide (show (tList [tData ⟨#[30]⟩, tData (bs (txt (some t)))]).bind bytesT = none from by
     cases hu : tList [tData ⟨#[30]⟩, tData (bs (txt (some t)))] with
     | none => rfl
     | some u9 => exact HI.out u9 hu)
    have Hsp := hide (show ((tList [tData ⟨#[30]⟩, tData (bs (q4 (bs (txt (some t))).size) ++ bs (txt (some t)))]).bind bytesT).isSome = true from by
     rw [show bs (q4 (bs (txt (some t))).size) ++ bs (txt (some t)) = bs (q4 (enc t).length ++ enc t) from (bs_app _ _).symm, Hu.out.1]
     exact Hu.out.2)
    clear hr1 hr2 hr3 hr4 hu1 hu2 hL hft hk2 HI Hu
    generalize (30 :: textL (enc t)) = s0 at Hr hso
    generalize bs (txt (some t)) = xo at k2 hxx hLi hsz Hin Hsp
    have HD1 := hide (data_pay HPy.out (s := ⟨#[30]⟩) (by decide) (by omega))
    go_upto_region 7 with (first
     | (go_at_call 16; refine HKd2.out.mono ?_; rintro e w6 ⟨rfl, rfl⟩)
     | fail)
    clear hxx HKd2 ek
    have HC := hide (And.intro m0 (And.intro m1 (And.intro k1 k2)))
    go_region_held3 (fun W => W.cell? ⟨b7, 0, none⟩ = some (.slice (some ⟨g1, 0, none⟩) l.length c1) ∧ W.cell? ⟨g1, k, none⟩ = some (.int .i64 m))
     (first | exact ⟨m0, k1⟩ | exact ⟨cell_al m0, cell_al k1⟩)
     (first
      | (go_at_call 18; refine (HD1.out _ (by exact bel_by)).mono ?_; rintro e w6 ⟨T6, n6, S6, rfl, hid6, hp6, hl6, hP6, hG6⟩; replace m0 := hG6.outs.cell m0 nb; replace k1 := hG6.outs.cell k1 n1; have nbx := hG6.notin2 nb lb; have n1x := hG6.notin2 n1 l1; have HL1 := hide (list2_pay hP6 hid6 (Hid.out.pre hp6) (by omega)))
      | (go_at_call 17; refine (HL1.out _ (by exact bel_by)).mono ?_; rintro e w7 ⟨T7, n7, S7, rfl, hid7, hp7, hl7, hP7, hG7⟩; replace m0 := hG7.outs.cell m0 nbx; replace k1 := hG7.outs.cell k1 n1x; replace hG7 := hG6.trans hG7)
      | fail)
    rw [Hr.out.1] at hid7
    have HG7 := hide hG7
    have Hi7 := hide hid7
    have hl7 : T7.length ≤ T4.length + 2 := by omega
    have HB1 := hide (bytes_pay hP7 hid7 (by omega))
    rw [show (some r).bind bytesT = some s0 from Hr.out.2.2.1] at HB1
    clear m0 k1 m1 k2 hp6 hl6 hP6 hG6 hid6 hp7 hP7 hG7 hid7 HD1 HL1
    go_wp2_with fail
    refine (HB1.out _ (by exact bel_by)).mono ?_
    rintro e w8 ⟨T8, S8, rfl, hp8, hl8, hP8, hG8⟩
    simp only [Option.getD_some, Option.isSome_some]
    have HG8 := hide (HG7.out.trans hG8)
    have Hi8 := hide (Hi7.out.pre hp8)
    have HD2 := hide (data_pay hP8 (s := bs s0) (by show s0.length ≤ _; omega) (by omega))
    clear hp8 hP8 hG8 HB1 HG7 Hi7
    go_wp2_with fail
    refine (HD2.out _ (by exact bel_by)).mono ?_
    rintro e w9 ⟨T9, n9, S9, rfl, hid9, hp9, hl9, hP9, hG9⟩
    have HG9 := hide (HG8.out.trans hG9)
    have Hi9 := hide (Hi8.out.pre hp9)
    have HB2 := hide (bytes_pay hP9 hid9 (by omega))
    have eb2 : (tData (bs s0)).bind bytesT = none := by
     cases hu : tData (bs s0) with
     | none => rfl
     | some u => exact raw_30 Hr.out.2.2.2 Hr.out.2.1 hu (by omega)
    rw [eb2] at HB2
    clear hp9 hP9 hG9 hid9 HD2 HG8 Hi8 eb2
    go_wp2_with fail
    refine (HB2.out _ (by exact bel_by)).mono ?_
    rintro e w10 ⟨T10, S10, rfl, hp10, hl10, hP10, hG10⟩
    simp only [Option.getD_none, Option.isSome_none]
    have HG10 := hide (HG9.out.trans hG10)
    have Hi10 := hide (Hi9.out.pre hp10)
    have HD3 := hide (data_pay hP10 (s := ⟨#[30]⟩) (by decide) (by omega))
    have m1 := HG10.out.outs.cell HC.out.2.1 nb
    have k2 := HG10.out.outs.cell HC.out.2.2.2 n2
    have hs10 := HG10.out.size
    have HN10 := hide (And.intro (HG10.out.notin2 nb lb) (HG10.out.notin2 n2 l2))
    clear hp10 hP10 hG10 HB2 HG9 Hi9
    go_upto_region 10 with fail
    have n2' := HN10.out.2
    have nb' := HN10.out.1
    go_region_held3 (fun W => W.cell? ⟨b7, 1, none⟩ = some (.slice (some ⟨g2, 0, none⟩) l.length c2) ∧ W.cell? ⟨g2, k, none⟩ = some (.string xo))
     (first | exact ⟨m1, k2⟩ | exact ⟨cell_al m1, cell_al k2⟩)
     (first
      | (go_at_call 18; (with_reducible refine (HD3.out _ (by exact bel_by)).mono ?_); rintro e w11 ⟨T11, n11, S11, rfl, hid11, hp11, hl11, hP11, hG11⟩; replace m1 := hG11.outs.cell m1 nb'; replace k2 := hG11.outs.cell k2 n2'; have n2x := hG11.notin2 n2' (by omega); have nbx := hG11.notin2 nb' (by omega); have HD4 := hide (data_pay hP11 (s := xo) (by omega) (by omega)))
      | (go_at_call 18; (with_reducible refine (HD4.out _ (by exact bel_by)).mono ?_); rintro e w12 ⟨T12, n12, S12, rfl, hid12, hp12, hl12, hP12, hG12⟩; replace m1 := hG12.outs.cell m1 nbx; replace k2 := hG12.outs.cell k2 n2x; have n2y := hG12.notin2 n2x (by have := hG11.size; omega); have nby := hG12.notin2 nbx (by have := hG11.size; omega); have HL2 := hide (list2_pay hP12 (hid11.pre hp12) hid12 (by omega)))
      | (go_at_call 17; refine (HL2.out _ (by exact bel_by)).mono ?_; rintro e w13 ⟨T13, n13, S13, rfl, hid13, hp13, hl13, hP13, hG13⟩; replace m1 := hG13.outs.cell m1 nby; replace k2 := hG13.outs.cell k2 n2y; have n2z := hG13.notin2 n2y (by have := hG11.size; have := hG12.size; omega); have nbz := hG13.notin2 nby (by have := hG11.size; have := hG12.size; omega); have HB3 := bytes_pay hP13 hid13 (by omega); rw [Hin.out] at HB3; replace HB3 := hide HB3)
      | (go_at_call 10; refine (HB3.out _ (by exact bel_by)).mono ?_; rintro e w14 ⟨T14, S14, rfl, hp14, hl14, hP14, hG14⟩; replace m1 := hG14.outs.cell m1 nbz; replace k2 := hG14.outs.cell k2 n2z; simp only [Option.getD_none, Option.isSome_none])
      | fail)
    have HG14 := hide (hG11.trans (hG12.trans (hG13.trans hG14)))
    have n2v := HG14.out.notin2 n2' (by omega)
    have nbv := HG14.out.notin2 nb' (by omega)
    have lv := HG14.out.size
    have Hi14 := hide (Hi10.out.pre (hp11.trans (hp12.trans (hp13.trans hp14))))
    have HD5 := hide (data_pay hP14 (s := ⟨#[30]⟩) (by decide) (by omega))
    have hxs : xo.size ≤ 20000 := by omega
    obtain ⟨z, hz⟩ : ∃ z, z = bs (q4 xo.size) := ⟨_, rfl⟩
    have HU := hide (show ∀ W : World, Calls Tryz.prog 19 #[.int .u32 xo.size] W (fun e w' => e = .returned (.string z) ∧ Below W.heap.size W w') from fun W => by rw [hz]; exact wNum_any xo.size W (by omega))
    have wq : IntKind.u32.wrap (xo.size : Int) = xo.size := by rw [IntKind.wrap_u32]; omega
    have hzs : z.size = 4 := by rw [hz]; exact q4_len _
    have hsum : z.size + xo.size ≤ 9223372036854775807 := by omega
    have hsum2 : ¬ 9223372036854775807 < z.size + xo.size := by omega
    have hsum3 : decide (9223372036854775807 < z.size + xo.size) = false := decide_eq_false hsum2
    have Hq := hide (show (z ++ xo).size ≤ 1000000 from by rw [ByteArray.size_append]; omega)
    rw [← hz] at Hsp
    generalize hzx : z ++ xo = zx at Hq Hsp
    have Hzx := hide hzx
    clear hz hzs hzx hsz
    clear hP14 hG14 hP13 hG13 hP12 hG12 hP11 hG11 hid11 hid12 hid13 hp11 hp12 hp13 hp14 HB3 HL2 HD4 HD3 HN10 HG10 Hi10 n2' nb' n2x nbx n2y nby n2z nbz
    go_upto_region 11 with fail
    go_region_held3 (fun W => W.cell? ⟨b7, 1, none⟩ = some (.slice (some ⟨g2, 0, none⟩) l.length c2) ∧ W.cell? ⟨g2, k, none⟩ = some (.string xo))
     (first | exact ⟨m1, k2⟩ | exact ⟨cell_al m1, cell_al k2⟩)
     (first
      | (go_at_call 18; (with_reducible refine (HD5.out _ (by exact bel_by)).mono ?_); rintro e w15 ⟨T15, n15, S15, rfl, hid15, hp15, hl15, hP15, hG15⟩; replace m1 := hG15.outs.cell m1 nbv; replace k2 := hG15.outs.cell k2 n2v; have n2x := hG15.notin2 n2v (by omega); have nbx := hG15.notin2 nbv (by omega))
      | (go_at_call 19; refine (HU.out _).mono ?_; rintro e w16 ⟨rfl, hb16⟩; have m1o := m1; have k2o := k2; replace m1 := (hb16.cell (p := ⟨b7, 1, none⟩) (by show b7 < _; have := hG15.size; simp; omega)).trans m1; replace k2 := (hb16.cell (p := ⟨g2, k, none⟩) (by show g2 < _; have := hG15.size; simp; omega)).trans k2; have HD6 := hide (data_pay hP15 (s := zx) Hq.out (by omega)); rw [← Hzx.out] at HD6)
      | (go_at_call 18; (with_reducible refine (HD6.out _ (by exact bel_by)).mono ?_); rintro e w17 ⟨T17, n17, S17, rfl, hid17, hp17, hl17, hP17, hG17⟩; replace m1 := hG17.outs.cell m1o nbx; replace k2 := hG17.outs.cell k2o n2x; have n2y := hG17.notin2 n2x (by have := hG15.size; omega); have nby := hG17.notin2 nbx (by have := hG15.size; omega); have HL3 := hide (list2_pay hP17 (hid15.pre hp17) hid17 (by omega)))
      | (go_at_call 17; refine (HL3.out _ (by exact bel_by)).mono ?_; rintro e w18 ⟨T18, n18, S18, rfl, hid18, hp18, hl18, hP18, hG18⟩; replace m1 := hG18.outs.cell m1 nby; replace k2 := hG18.outs.cell k2 n2y; have n2z := hG18.notin2 n2y (by have := hG15.size; have := hG17.size; omega); have nbz := hG18.notin2 nby (by have := hG15.size; have := hG17.size; omega); have HB4 := hide (bytes_pay hP18 hid18 (by omega)))
      | (go_at_call 10; refine (HB4.out _ (by exact bel_by)).mono ?_; rintro e w19 ⟨T19, S19, rfl, hp19, hl19, hP19, hG19⟩; replace m1 := hG19.outs.cell m1 nbz; replace k2 := hG19.outs.cell k2 n2z; rw [Hzx.out, Hsp.out])
      | fail)
    have Hi19 := hide (Hi14.out.pre (hp15.trans (hp17.trans (hp18.trans hp19))))
    have hbw := hP19.bel
    have HT9 := hide (fun (W : World) (hb : Below w19.heap.size w19 W) => term_pay hP19 (s := bs s0) (by show s0.length ≤ _; omega) (by omega) W hb)
    rw [show payT (bs s0).data.toList = some r from Hr.out.2.2.2] at HT9
    clear hP19 hG19 hP18 hG18 hP17 hG17 hP15 hG15 hid15 hid17 hid18 hp15 hp17 hp18 hp19 HB4 HL3 HD6 HD5 HU m1 k2 Hi14 HG14 n2v nbv n2x nbx n2y nby n2z nbz Hsp Hin Hq wq hsum
    have HA := hide (HAW.out _ hbw)
    go_wp2_with fail
    refine HA.out.mono ?_
    rintro e w20 ⟨rfl, hb20⟩
    go_wp2_with fail
    refine (HT9.out _ hb20).mono ?_
    rintro e w21 ⟨T21, n21, S21, rfl, hid21, hp21, hl21, hP21, hG21⟩
    have hbw21 := hP21.bel
    obtain rfl : n21 = n7 := (hid21.eq_iff hP21.ar.ok (Hi19.out.pre hp21)).2 rfl
    clear hid21 hP21 hG21
    go_wp2_with fail
    go_ret
    exact ⟨by simp, hbw21⟩
theorem payApartLaw_any (hT : Tab w) (hMx : MaxL w) {A : Option Addr} {c : Nat} {l : List Mk} (hl : Mks w.heap.size w A l) (k : Int) :
  Calls Tryz.prog 5 #[.slice A l.length c, .int .i64 k] w (fun e w' => e = .returned (.bool true) ∧ Below w.heap.size w w') := by
 have HA := hide (awake09_any hT hMx)
 have HF := hide (few02_all (c := c) (hl.outs (Outs.of_below (R := fun _ => False) (Below.refl _ _)) (fun i h => h.elim)) 20 (by decide))
 cases hf : fewB l 20 with
 | true =>
  obtain ⟨h1, h2⟩ := few02_open hf
  by_cases hk0 : k < 0
  ·rw [hf] at HF
   have hk1 : decide (k < 0) = true := decide_eq_true hk0
   clear hl hf hT hMx h1 h2
   go_enter Tryz.func5, Tryz.ntmps5
   go_wp2_with (first
    | (go_at_call 13; refine HF.out.mono ?_; rintro e w1 ⟨rfl, rfl⟩)
    | (go_at_call 7; refine HA.out.mono ?_; rintro e w3 ⟨rfl, hb3⟩)
    | fail)
   go_ret
   exact ⟨rfl, hb3⟩
  ·obtain ⟨k, rfl⟩ := Int.eq_ofNat_of_zero_le (Int.not_lt.1 hk0)
   by_cases hkl : k < l.length
   ·exact payApart_any hT hMx hl hf (by omega) (fun y hy => by have := h2 y hy; omega) k hkl
   ·rw [hf] at HF
    have hk1 : decide ((k : Int) < 0) = false := decide_eq_false hk0
    have hk2 : decide ((l.length : Int) ≤ k) = true := decide_eq_true (by omega)
    clear hl hf hT hMx h1 h2
    go_enter Tryz.func5, Tryz.ntmps5
    go_wp2_with (first
     | (go_at_call 13; refine HF.out.mono ?_; rintro e w1 ⟨rfl, rfl⟩)
     | (go_at_call 7; refine HA.out.mono ?_; rintro e w3 ⟨rfl, hb3⟩)
     | fail)
    go_ret
    exact ⟨rfl, hb3⟩
 | false =>
  rw [hf] at HF
  clear hl hf hT hMx
  go_enter Tryz.func5, Tryz.ntmps5
  go_wp2_with (first
   | (go_at_call 13; refine HF.out.mono ?_; rintro e w1 ⟨rfl, rfl⟩)
   | (go_at_call 7; refine HA.out.mono ?_; rintro e w3 ⟨rfl, hb3⟩)
   | fail)
  go_ret
  exact ⟨rfl, hb3⟩
end
end Go.Proofs.YtmgfcjpifkoahaaGreatDoor
