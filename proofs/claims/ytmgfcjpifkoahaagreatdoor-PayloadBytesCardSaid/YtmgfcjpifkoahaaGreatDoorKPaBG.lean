/-
  Several of my texts in one: PayU, PaL, PaB.
-/
import Derived.Test.YtmgfcjpifkoahaaGreatDoorKPayTG
import Derived.Test.YtmgfcjpifkoahaaGreatDoorKPayRG
import Derived.Test.YtmgfcjpifkoahaaGreatDoorKEnc02G
set_option linter.unusedVariables false
set_option linter.unusedSimpArgs false
namespace Go.Proofs.YtmgfcjpifkoahaaGreatDoor
open Go.RowKit Go.ChangeShapes Go.WideShapes Go.Sort
theorem kid_fine {t u : Tm} (h : fine t) (hu : u ∈ t.l) : fine u := by
 obtain ⟨k, a, b, s, l⟩ := t
 have h1 := h.1
 unfold good at h1
 refine ⟨(goods_iff l).1 h1.2.2 u hu, ?_⟩
 have h3 := mem_enc_len (l := l) hu
 have h2 := h.2
 simp only [enc, List.length_append] at h2
 omega
theorem pay_txt {s : List UInt8} {t : Tm} (hs : s.length ≤ 32768) (ht : fine t) : txt (payT s) = enc t ↔ payT s = some t := by
 obtain ⟨u, h1, h2, _⟩ := pay_yes hs
 rw [h1]
 constructor
 ·intro h
  exact congrArg some (enc_one h2.1 ht.1 h)
 ·intro h
  cases h
  rfl
theorem neT {a b : ByteArray} (h : a ≠ b) : (a.toList == b.toList) = false := by
 rw [beq_eq_false_iff_ne, ByteArray.toList_eq, ByteArray.toList_eq]
 exact fun h9 => h (tl_injF h9)
theorem eqT {a b : ByteArray} (h : a = b) : (a.toList == b.toList) = true := by
 subst h
 simp
def TermC (s : ByteArray) (y : ByteArray) : Prop := ∀ W : World, Calls Tryz.prog 12 #[.string s] W (fun e w' => e = .returned (.string y) ∧ Below W.heap.size W w')
section
variable {w : World}
theorem rb_no {X : ByteArray} {kk : Int} (HK : KindC X kk) (e1 : (kk == 1) = false) (e2 : (kk == 10) = false) : Calls Tryz.prog 15 #[.string X] w (ByP none w) := by
 have HK := hide HK
 go_enter Tryz.func15, Tryz.ntmps15
 go_wp2_with (first
  | (go_at_call 36; refine (HK.out _).mono ?_; rintro e w5 ⟨rfl, rfl⟩)
  | fail)
 go_ret2
 exact byP_none (Below.refl _ _)
theorem rb_data {X s y : ByteArray} {kk : Int} (HK : KindC X kk) (e1 : (kk == 1) = true) (h5 : (5 : Int) ≤ X.size) (hx : X.extract 5 X.size = s) (HT : s.size ≤ 32768 → TermC s y) : Calls Tryz.prog 15 #[.string X] w (ByP (if s.size ≤ 32768 ∧ y = X then some s.data.toList else none) w) := by
 have HK := hide HK
 have e2 : (kk == 10) = false := by rw [beq_iff_eq] at e1; subst e1; rfl
 by_cases hL : s.size ≤ 32768
 ·have hLi : decide ((32768 : Int) < s.size) = false := decide_eq_false (by omega)
  have HT := hide (HT hL)
  by_cases hy : y = X
  ·rw [if_pos ⟨hL, hy⟩]
   have hne := eqT hy
   clear hL hy
   go_enter Tryz.func15, Tryz.ntmps15
   go_wp2_with (first
    | (go_at_call 36; refine (HK.out _).mono ?_; rintro e w5 ⟨rfl, rfl⟩)
    | (go_at_call 12; refine (HT.out _).mono ?_; rintro e w6 ⟨rfl, hb6⟩)
    | fail)
   go_ret2
   exact byP_someB hb6
  ·rw [if_neg (fun h9 => hy h9.2)]
   have hne := neT hy
   clear hL hy
   go_enter Tryz.func15, Tryz.ntmps15
   go_wp2_with (first
    | (go_at_call 36; refine (HK.out _).mono ?_; rintro e w5 ⟨rfl, rfl⟩)
    | (go_at_call 12; refine (HT.out _).mono ?_; rintro e w6 ⟨rfl, hb6⟩)
    | fail)
   go_ret2
   exact byP_none hb6
 ·rw [if_neg (fun h9 => hL h9.1)]
  have hLi : decide ((32768 : Int) < s.size) = true := decide_eq_true (by omega)
  clear hL HT
  go_enter Tryz.func15, Tryz.ntmps15
  go_wp2_with (first
   | (go_at_call 36; refine (HK.out _).mono ?_; rintro e w5 ⟨rfl, rfl⟩)
   | fail)
  go_ret2
  exact byP_none (Below.refl _ _)
theorem rb_list {X y : ByteArray} {kk x0 x1 x2 : Int} {xs : ByteArray} {n : Nat} {o : Option (List UInt8)} (HK : KindC X kk) (e2 : (kk == 10) = true)
  (HV : ∀ W, Calls Tryz.prog 38 #[.string X] W (fun e w' => ∃ A c, e = .returned (.agg #[.int .i64 x0, .int .i64 x1, .int .i64 x2, .string xs, .slice A n c]) ∧ (∀ W', Below w'.heap.size w' W' → Calls Tryz.prog 37 #[.slice A n c] W' (ByP o W')) ∧ Below W.heap.size W w'))
  (HT : ∀ s, o = some s → s.length ≤ 32768 → TermC (bs s) y) : Calls Tryz.prog 15 #[.string X] w (ByP (o.bind fun s => if s.length ≤ 32768 ∧ y = X then some s else none) w) := by
 have HK := hide HK
 have HV := hide HV
 have e1 : (kk == 1) = false := by rw [beq_iff_eq] at e2; subst e2; rfl
 cases o with
 | none =>
  clear HT
  go_enter Tryz.func15, Tryz.ntmps15
  go_wp2_with (first
   | (go_at_call 36; refine (HK.out _).mono ?_; rintro e w5 ⟨rfl, rfl⟩)
   | (go_at_call 38; refine (HV.out _).mono ?_; rintro e w6 ⟨A, c, rfl, hJ, hb6⟩; have HJ := hide hJ; clear hJ)
   | (go_at_call 37; refine (HJ.out _ (by exact bel_by)).mono ?_; rintro e w7 ⟨rfl, hb7⟩; simp only [Option.getD_none, Option.isSome_none])
   | fail)
  go_ret2
  exact byP_none (by exact bel_by)
 | some s =>
  rw [Option.bind_some]
  by_cases hL : s.length ≤ 32768
  ·have hLi : decide ((32768 : Int) < (s.length : Nat)) = false := decide_eq_false (by omega)
   have HT := hide (HT s rfl hL)
   by_cases hy : y = X
   ·rw [if_pos ⟨hL, hy⟩]
    have hne := eqT hy
    clear hL hy
    go_enter Tryz.func15, Tryz.ntmps15
    go_wp2_with (first
     | (go_at_call 36; refine (HK.out _).mono ?_; rintro e w5 ⟨rfl, rfl⟩)
     | (go_at_call 38; refine (HV.out _).mono ?_; rintro e w6 ⟨A, c, rfl, hJ, hb6⟩; have HJ := hide hJ; clear hJ)
     | (go_at_call 37; refine (HJ.out _ (by exact bel_by)).mono ?_; rintro e w7 ⟨rfl, hb7⟩; simp only [Option.getD_some, Option.isSome_some])
     | (go_at_call 12; refine (HT.out _).mono ?_; rintro e w8 ⟨rfl, hb8⟩)
     | fail)
    go_ret2
    exact byP_some (by exact bel_by)
   ·rw [if_neg (fun h9 => hy h9.2)]
    have hne := neT hy
    clear hL hy
    go_enter Tryz.func15, Tryz.ntmps15
    go_wp2_with (first
     | (go_at_call 36; refine (HK.out _).mono ?_; rintro e w5 ⟨rfl, rfl⟩)
     | (go_at_call 38; refine (HV.out _).mono ?_; rintro e w6 ⟨A, c, rfl, hJ, hb6⟩; have HJ := hide hJ; clear hJ)
     | (go_at_call 37; refine (HJ.out _ (by exact bel_by)).mono ?_; rintro e w7 ⟨rfl, hb7⟩; simp only [Option.getD_some, Option.isSome_some])
     | (go_at_call 12; refine (HT.out _).mono ?_; rintro e w8 ⟨rfl, hb8⟩)
     | fail)
    go_ret2
    exact byP_none (by exact bel_by)
  ·rw [if_neg (fun h9 => hL h9.1)]
   have hLi : decide ((32768 : Int) < (s.length : Nat)) = true := decide_eq_true (by omega)
   clear hL HT
   go_enter Tryz.func15, Tryz.ntmps15
   go_wp2_with (first
    | (go_at_call 36; refine (HK.out _).mono ?_; rintro e w5 ⟨rfl, rfl⟩)
    | (go_at_call 38; refine (HV.out _).mono ?_; rintro e w6 ⟨A, c, rfl, hJ, hb6⟩; have HJ := hide hJ; clear hJ)
    | (go_at_call 37; refine (HJ.out _ (by exact bel_by)).mono ?_; rintro e w7 ⟨rfl, hb7⟩; simp only [Option.getD_some, Option.isSome_some])
    | fail)
   go_ret2
   exact byP_none (by exact bel_by)
theorem rbytes09_any {o : Option Tm} (ho : fineO o) (w : World) : Calls Tryz.prog 15 #[.string (tx o)] w (ByP (o.bind bytesT) w) := by
 have HK : KindC (tx o) ((kindO o : Nat) : Int) := fun W => rKind_any ho W
 cases o with
 | none => exact rb_no HK rfl rfl
 | some t =>
  have hft := ho t rfl
  have eX : tx (some t) = bs (enc t) := rfl
  rw [eX] at HK ⊢
  show Calls Tryz.prog 15 #[.string (bs (enc t))] w (ByP (bytesT t) w)
  have key : ∀ s : List UInt8, s.length ≤ 32768 → (bs (txt (payT s)) = bs (enc t) ↔ payT s = some t) := fun s hs => by
   rw [← pay_txt hs hft]
   exact ⟨fun h9 => by have := congrArg (fun z : ByteArray => z.data.toList) h9; simpa [bs_data] using this, fun h9 => by rw [h9]⟩
  by_cases hk : t.k = 1
  ·obtain ⟨hx1, hx2⟩ := tx_cut hft hk
   have H := rb_data (w := w) (y := bs (txt (payT t.s.data.toList))) HK (by show ((t.k : Int) == 1) = true; rw [hk]; rfl) (by omega) hx1 (fun h9 W => rterm09_any (w := W) t.s h9)
   have hr := rawT_1 hk
   by_cases hc : t.s.size ≤ 32768 ∧ bs (txt (payT t.s.data.toList)) = bs (enc t)
   ·rw [if_pos hc] at H
    rw [bytesT_of hr (by rw [size_len]; exact hc.1) ((key _ (by rw [size_len]; exact hc.1)).1 hc.2)]
    exact H
   ·rw [if_neg hc] at H
    rw [bytesT_no hr (fun h9 => hc ⟨by have := h9.1; rw [size_len] at this; exact this, (key _ h9.1).2 h9.2⟩)]
    exact H
  ·by_cases hk2 : t.k = 10
   ·have hr := rawT_10 hk2
    have H := rb_list (w := w) (y := bs (txt (payT ((joinT t.l).getD [])))) (o := joinT t.l) HK (by show ((t.k : Int) == 10) = true; rw [hk2]; rfl)
     (fun W => (rview_txs hft W).mono fun e w' h9 => by
      obtain ⟨A, c, h1, h2, h3⟩ := h9
      exact ⟨A, c, h1, fun W' hb => rjoin09_any (h2.below hb) (fun u hu => kid_fine hft hu) (len_10 hft hk2), h3⟩)
     (fun s hs hl W => by rw [hs]; exact rterm09_any (w := W) (bs s) hl)
    cases hj : joinT t.l with
    | none =>
     rw [hj] at H hr
     rw [bytesT_none hr]
     exact H
    | some s =>
     rw [hj] at H hr
     rw [Option.bind_some, Option.getD_some] at H
     by_cases hc : s.length ≤ 32768 ∧ bs (txt (payT s)) = bs (enc t)
     ·rw [if_pos hc] at H
      rw [bytesT_of hr hc.1 ((key _ hc.1).1 hc.2)]
      exact H
     ·rw [if_neg hc] at H
      rw [bytesT_no hr (fun h9 => hc ⟨h9.1, (key _ h9.1).2 h9.2⟩)]
      exact H
   ·rw [bytesT_none (rawT_n hk hk2)]
    exact rb_no HK (by show ((t.k : Int) == 1) = false; rw [beq_eq_false_iff_ne]; omega) (by show ((t.k : Int) == 10) = false; rw [beq_eq_false_iff_ne]; omega)
end
end Go.Proofs.YtmgfcjpifkoahaaGreatDoor
namespace Go.Proofs.YtmgfcjpifkoahaaGreatDoor
open Go.RowKit Go.ChangeShapes Go.WideShapes Go.Sort
theorem payT_inj {p q : List UInt8} (hp : p.length ≤ 32768) (hq : q.length ≤ 32768) (h : payT p = payT q) : p = q := by
 obtain ⟨t, h1, _, h2⟩ := pay_yes hp
 obtain ⟨u, h3, _, h4⟩ := pay_yes hq
 rw [h1, h3] at h
 cases h
 rw [h2] at h4
 exact Option.some.inj h4
theorem dec_21 : decS [21] = .ok 21 [] := by kernel_rfl
theorem dec_255 : ∀ n l, decS [255] ≠ .ok n l := by
 intro n l h
 have h3 : decS [255] = .all 6 := by kernel_rfl
 rw [h3] at h
 cases h
theorem pay_21 : payT [21] = tList [tData ⟨#[21]⟩] := payT_list dec_21
theorem pay_255 : payT [255] = tData ⟨#[255]⟩ := payT_data dec_255
structure Pay (w0 : World) (B g : Nat) (T : List Tm) (S : Nat → Prop) (w : World) : Prop where
 use : Use B w g T S
 max : MaxB B w
 bel : Below w0.heap.size w0 w
 base : w0.heap.size ≤ B
section
variable {w0 w w' : World} {B g : Nat} {T T' : List Tm} {S S' : Nat → Prop}
theorem Pay.new (hT : Tab w0) (hM : MaxL w0) (hb0 : Below w0.heap.size w0 w) (h : Ar w.heap.size w' g [] S) (hb : Below w.heap.size w w') : Pay w0 w.heap.size g [] S w' :=
 ⟨use_new2 hT hb0 h hb, ⟨w0, hM, hb0.size, hb0.trans (hb.mono hb0.size)⟩, hb0.trans (hb.mono hb0.size), hb0.size⟩
theorem Pay.below (h : Pay w0 B g T S w) (hb : Below w.heap.size w w') : Pay w0 B g T S w' :=
 ⟨h.use.below hb, h.max.below hb, h.bel.trans (hb.mono h.bel.size), h.base⟩
theorem Pay.grown (h : Pay w0 B g T S w) (hG : Grown S w S' w') (hA : Ar B w' g T' S') (hf : T'.length ≤ 1000000000) : Pay w0 B g T' S' w' :=
 ⟨h.use.grown hG hA hf, h.max.grown h.use hG, h.bel.trans ((hG.below h.use.base h.use.ar.sB).mono h.base), h.base⟩
theorem Pay.ar (h : Pay w0 B g T S w) : Ar B w g T S := h.use.ar
end
section
variable {w : World}
set_option maxHeartbeats 1000000 in
theorem awake09_any (hT : Tab w) (hM : MaxL w) : Calls Tryz.prog 7 #[] w (fun e w' => e = .returned (.bool true) ∧ Below w.heap.size w w') := by
 have HN := hide (new_any w)
 have HT := hide (And.intro hT hM)
 clear hT hM
 go_enter Tryz.func7, Tryz.ntmps7
 go_wp2_with fail
 refine HN.out.mono ?_
 rintro e w1 ⟨g, S, rfl, hA, hb1⟩
 have HP := hide (Pay.new HT.out.1 HT.out.2 (Below.refl _ _) hA hb1)
 have H1 := hide (pterm_any HP.out.use HP.out.max ⟨#[21]⟩ (by decide) (by simp))
 clear hA hb1 HN HT
 go_wp2_with fail
 refine H1.out.mono ?_
 rintro e w2 ⟨T2, n2, S2, rfl, hid2, hp2, hl2, hA2, hG2⟩
 have HP2 := hide (HP.out.grown hG2 hA2 (by simp at hl2; omega))
 have Hi2 := hide (show Idn T2 (payT [21]) n2 from hid2)
 have hl2 : T2.length ≤ 2000000 := by simpa using hl2
 have H2 := hide (pterm_any HP2.out.use HP2.out.max ⟨#[255]⟩ (by decide) (by omega))
 clear hid2 hp2 hA2 hG2 H1 HP
 go_wp2_with fail
 refine H2.out.mono ?_
 rintro e w3 ⟨T3, n3, S3, rfl, hid3, hp3, hl3, hA3, hG3⟩
 have HP3 := hide (HP2.out.grown hG3 hA3 (by omega))
 have Hi3 := hide (show Idn T3 (payT [255]) n3 from hid3)
 have Hi2 := hide (Hi2.out.pre hp3)
 have H3 := hide (aData_any HP3.out.use (s := ⟨#[21]⟩) (by decide))
 clear hid3 hp3 hA3 hG3 H2 HP2
 go_wp2_with fail
 refine H3.out.mono ?_
 rintro e w4 ⟨T4, n4, S4, rfl, hpt4, hA4, hG4⟩
 have hl4 := hpt4.len
 have hid4 := hpt4.idn
 have hp4 := hpt4.pre
 have HP4 := hide (HP3.out.grown hG4 hA4 (by omega))
 have Hi4 := hide hid4
 have Hi3 := hide (Hi3.out.pre hp4)
 have Hi2 := hide (Hi2.out.pre hp4)
 have hb5 := bel_newN (w := w4) (.cells #[.int .i64 n4] 25)
 have H4 := hide (aList_any (HP4.out.use.below hb5) (own_ids (ns := [n4]) rfl (own_row1 (Nat.le_refl _))) (by simp))
 have Hb5 := hide hb5
 clear hpt4 hid4 hp4 hA4 hG4 H3 HP3 hb5
 go_wp2_with fail
 refine H4.out.mono ?_
 rintro e w5 ⟨T5, n5, S5, rfl, hpt5, hA5, hG5⟩
 have hl5 := hpt5.len
 have hid5 := hpt5.idn
 have hp5 := hpt5.pre
 have he5 : [n4].map (arg T4) = [tData ⟨#[21]⟩] := ((idns_nil T4).snoc Hi4.out).args
 rw [he5] at hid5
 have HP5 := hide ((HP4.out.below Hb5.out).grown hG5 hA5 (by omega))
 have e25 : n2 = n5 := ((Hi2.out.pre hp5).eq_iff hA5.ok hid5).2 pay_21
 subst e25
 have h55 : (n2 == n2) = true := by simp
 have Hi3 := hide (Hi3.out.pre hp5)
 have Hi2 := hide (Hi2.out.pre hp5)
 have H5 := hide (aData_any HP5.out.use (s := ⟨#[255]⟩) (by decide))
 clear hpt5 hid5 hp5 hA5 hG5 H4 HP4 Hi4 Hb5
 go_wp2_with fail
 refine H5.out.mono ?_
 rintro e w6 ⟨T6, n6, S6, rfl, hpt6, hA6, hG6⟩
 have hl6 := hpt6.len
 have hid6 := hpt6.idn
 have hp6 := hpt6.pre
 have e36 : n3 = n6 := ((Hi3.out.pre hp6).eq_iff hA6.ok hid6).2 pay_255
 subst e36
 have h66 : (n3 == n3) = true := by simp
 have n23 : (n2 != n3) = true := by
  rw [bne_iff_ne]
  intro h9
  have h8 := ((Hi2.out.pre hp6).eq_iff hA6.ok (Hi3.out.pre hp6)).1 h9
  have := payT_inj (by decide) (by decide) h8
  cases this
 have Hb := hide (HP5.out.grown hG6 hA6 (by omega)).bel
 clear hpt6 hid6 hp6 hA6 hG6 H5 HP5 Hi2 Hi3
 go_wp2_with fail
 go_ret
 exact ⟨by simp, Hb.out⟩
end
end Go.Proofs.YtmgfcjpifkoahaaGreatDoor
namespace Go.Proofs.YtmgfcjpifkoahaaGreatDoor
open Go.RowKit Go.ChangeShapes Go.WideShapes Go.Sort
structure PyS (w0 : World) (B0 B g : Nat) (T : List Tm) (S : Nat → Prop) (ms : List (Option Tm)) (v1 v2 : Value) (b7 : Nat) (W : World) : Prop where
 pay : Pay w0 B g T S W
 mdo : MdO B0 W T ms v1 v2 S
 blk : Blk W b7 37 #[v1, v2]
 nb : ¬ S b7
section
variable {B0 B g b7 : Nat} {w W W' : World} {T T' : List Tm} {S S' : Nat → Prop} {ms : List (Option Tm)} {v1 v2 : Value}
theorem PyS.below (h : PyS w B0 B g T S ms v1 v2 b7 W) (hb : Below W.heap.size W W') : PyS w B0 B g T S ms v1 v2 b7 W' :=
 ⟨h.pay.below hb, h.mdo.grown (Grown.of_below hb) (List.prefix_refl _), h.blk.below hb h.blk.lt, h.nb⟩
theorem PyS.grown (h : PyS w B0 B g T S ms v1 v2 b7 W) (hG : Grown S W S' W') (hA : Ar B W' g T' S') (hp : T <+: T') (hf : T'.length ≤ 1000000000) : PyS w B0 B g T' S' ms v1 v2 b7 W' :=
 ⟨h.pay.grown hG hA hf, h.mdo.grown hG hp, hG.outs.blk h.blk h.nb, hG.notin2 h.nb h.blk.lt⟩
end
theorem pys_new {w w2 w4 : World} {B g c1 c2 n : Nat} {T4 : List Tm} {S S4 : Nat → Prop} {l : List Mk} {A1 A2 : Option Addr} (hP : Pay w B g [] S w2) (hG4 : Grown S w2 S4 w4) (hA4 : Ar B w4 g T4 S4) (hmd : MdO w2.heap.size w4 T4 (makes l) (.slice A1 n c1) (.slice A2 n c2) S4) (hT4 : T4.length ≤ 1000000) :
  PyS w w2.heap.size B g T4 S4 (makes l) (.slice A1 n c1) (.slice A2 n c2) w4.heap.size (w4.alloc (.cells #[.slice A1 n c1, .slice A2 n c2] 37)) := by
 have hb5 := bel_newN (w := w4) (.cells #[.slice A1 n c1, .slice A2 n c2] 37)
 refine ⟨(hP.grown hG4 hA4 (by omega)).below hb5, hmd.grown (Grown.of_below hb5) (List.prefix_refl _), Blk.new _ _ _, fun hs => ?_⟩
 have := hA4.sL _ hs
 omega
def capP (i : Nat) : Nat := 40 + 4000000 * i
theorem capP_succ (i : Nat) : capP (i + 1) = capP i + 4000000 := by unfold capP; omega
theorem capP_lim {i : Nat} (h : i ≤ 40) : capP i ≤ 200000000 := by unfold capP; omega
theorem neS {a : ByteArray} : (a.toList != a.toList) = false := bne_self_eq_false _
section
variable {w : World}
set_option maxHeartbeats 4000000 in
set_option maxRecDepth 100000 in
theorem payBytes_any (hT : Tab w) (hMx : MaxL w) {A : Option Addr} {c : Nat} {l : List Mk} (hl : Mks w.heap.size w A l) (hf : fewB l 40 = true) (hll : l.length ≤ 40) (hls : ∀ x ∈ l, x.s.size ≤ 1000000) :
  Calls Tryz.prog 4 #[.slice A l.length c] w (fun e w' => e = .returned (.bool true) ∧ Below w.heap.size w w') := by
 have HF := hide (few_any (c := c) (hl.outs (Outs.of_below (R := fun _ => False) (Below.refl _ _)) (fun i h => h.elim)) (by omega) 40)
 rw [hf] at HF
 have HT := hide (And.intro hT hMx)
 have HL := hide hl
 have Hls := hide hls
 have hml := makes_len l
 have Hfine := hide (makes_fine hls)
 clear hT hl hls hf hMx
 go_enter Tryz.func4, Tryz.ntmps4
 go_wp2_with (first
  | (go_at_call 13; refine HF.out.mono ?_; rintro e w1 ⟨rfl, rfl⟩)
  | fail)
 refine (new_any w1).mono ?_
 rintro e w2 ⟨g, S, rfl, hA1, hb2⟩
 have HP := hide (Pay.new HT.out.1 HT.out.2 (Below.refl _ _) hA1 hb2)
 have HM := hide (makes_any (c := c) HP.out.use (HL.out.outs (Outs.of_below (R := fun _ => False) hb2) (fun i h => h.elim)) (by omega) Hls.out (by simp; omega))
 clear hA1 hb2 HF
 go_wp2_with fail
 refine HM.out.mono ?_
 rintro e w4 ⟨T4, S4, v1, v2, rfl, hmd, hpre4, hT4, hA4, hG4⟩
 obtain ⟨A1, c1, hv1⟩ := own_sl hmd.ids.choose_spec.1
 obtain ⟨A2, c2, hv2⟩ := own_sl hmd.txs
 rw [hml] at hv1 hv2
 subst hv1 hv2
 have hT5 : T4.length ≤ 40 := by simp at hT4; omega
 have HE := hide (pys_new HP.out hG4 hA4 hmd (by omega))
 clear hmd hpre4 hT4 hA4 hG4 HM HP
 go_upto_region 5 with fail
 generalize w4.alloc (.cells #[.slice A1 l.length c1, .slice A2 l.length c2] 37) = w5 at HE ⊢
 generalize w4.heap.size = b7 at HE ⊢
 generalize w2.heap.size = B0 at HE ⊢
 have HAW := hide (fun (W : World) (hb : Below w1.heap.size w1 W) => awake09_any (HT.out.1.below hb) (HT.out.2.below hb))
 go_wp2_with fail
 go_loopw [5] (fun vi wr => ∃ (i : Nat) (T : List Tm) (S' : Nat → Prop), vi = .int .i64 i ∧ i ≤ l.length ∧ Hid (PyS w1 B0 w1.heap.size g T S' (makes l) (.slice A1 l.length c1) (.slice A2 l.length c2) b7 wr) ∧ T.length ≤ capP i) (fun vi _ => l.length - (intOf vi).toNat)
 case atStart => exact ⟨0, T4, S4, rfl, Nat.zero_le _, HE, by unfold capP; omega⟩
 case round =>
  obtain ⟨i, T, S', rfl, hi, hI, hla⟩ := hrel
  have hcs := capP_succ i
  have hcl := capP_lim (i := i) (by omega)
  clear HE
  by_cases hlt : i < l.length
  ·have hii : (i : Int) < l.length := by omega
   obtain ⟨o, ho⟩ : ∃ o, (makes l)[i]? = some o := ⟨_, List.getElem?_eq_getElem (by omega)⟩
   obtain ⟨g1, g2, m, rfl, rfl, n1, n2, l1, l2, k1, k2, hid⟩ := mdo_at hI.out.mdo hml ho
   have m0 : wr.cell? ⟨b7, 0, none⟩ = some (.slice (some ⟨g1, 0, none⟩) l.length c1) := hI.out.blk.cell 0
   have m1 : wr.cell? ⟨b7, 1, none⟩ = some (.slice (some ⟨g2, 0, none⟩) l.length c2) := hI.out.blk.cell 1
   have lb := hI.out.blk.lt
   have nb := hI.out.nb
   have HBy := hide (pbytes_any hI.out.pay.use hI.out.pay.max m (by omega))
   rw [hid.1] at HBy
   have Hid1 := hide hid
   have hfo : fineO o := fun t ht => Hfine.out o (List.mem_of_getElem? ho) t ht
   have HRb := hide (fun (W : World) => rbytes09_any hfo W)
   rw [show tx o = bs (txt o) from rfl] at HRb
   have Hpo := hide (show ∀ s, o.bind bytesT = some s → s.length ≤ 32768 ∧ payT s = o from fun s hs => by
    cases o with
    | none => cases hs
    | some t => exact ⟨(bytesT_some hs).2.1, (bytesT_some hs).2.2⟩)
   clear hid HL ho hfo Hfine
   generalize bs (txt o) = xo at k2 HRb
   generalize o.bind bytesT = ob at HBy HRb Hpo
   go_wp2_with fail
   refine HBy.out.mono ?_
   rintro e w6 ⟨T6, S6, hp6, hl6, hA6, hG6, rfl⟩
   have HI6 := hide (hI.out.grown hG6 hA6 hp6 (by omega))
   have Hid6 := hide (Hid1.out.pre hp6)
   have m0 := hG6.outs.cell m0 nb
   have m1 := hG6.outs.cell m1 nb
   have k1 := hG6.outs.cell k1 n1
   have k2 := hG6.outs.cell k2 n2
   have hsz6 := hG6.size
   have nb := HI6.out.nb
   have n1 := hG6.notin2 n1 l1
   clear hA6 hG6 hp6 hI HBy Hid1
   go_wp2_with fail
   refine (HRb.out _).mono ?_
   rintro e w7 ⟨rfl, hb7⟩
   have HI7 := hide (HI6.out.below hb7)
   have m0 := (hb7.cell (p := ⟨b7, 0, none⟩) (by show b7 < _; omega)).trans m0
   have k1 := (hb7.cell (p := ⟨g1, i, none⟩) (by show g1 < _; omega)).trans k1
   clear m1 k2 HRb HI6 hb7
   cases ob with
   | none =>
    simp only [Option.getD_none, Option.isSome_none]
    have hxx : ((bs []).toList != (bs []).toList) = false := neS
    go_upto_region 10 with fail
    refine wp_region_quiet_below (by kernel_rfl) (by kernel_rfl) ?_
    repeat (first | go_big_quiet_skip | quiet_step (fail))
    refine wpQuiet_nil ?_
    intro _ hwq
    obtain ⟨⟨dq, osq⟩, hwqq⟩ := hwq
    subst hwqq
    have hbq := below_regrown w7 dq osq
    generalize grow (redrawn w7 dq) osq = wq at hbq ⊢
    go_wp2_with fail
    exact ⟨⟨i + 1, T6, S6, by go_num, by omega, hide (HI7.out.below hbq), by omega⟩, by simp [intOf]; omega⟩
   | some s =>
    simp only [Option.getD_some, Option.isSome_some]
    have hxx : ((bs s).toList != (bs s).toList) = false := neS
    obtain ⟨hs1, hs2⟩ := Hpo.out s rfl
    have HTm := hide (fun (W : World) (hb : Below w7.heap.size w7 W) => pterm_any (HI7.out.pay.use.below hb) (HI7.out.pay.max.below hb) (bs s) (by show s.length ≤ _; omega) (by omega))
    rw [show payT (bs s).data.toList = o from hs2] at HTm
    have hmm : (m != m) = false := by simp
    clear Hpo hs1 hs2
    go_upto_region 10 with fail
    go_region_held3 (fun W => W.cell? ⟨b7, 0, none⟩ = some (.slice (some ⟨g1, 0, none⟩) l.length c1) ∧ W.cell? ⟨g1, i, none⟩ = some (.int .i64 m))
     (exact ⟨m0, k1⟩)
     (first
      | (go_at_call 9; refine (HTm.out _ (by exact bel_by)).mono ?_; rintro e w8 ⟨T8, n8, S8, rfl, hid8, hp8, hl8, hA8, hG8⟩; replace m0 := hG8.outs.cell m0 nb; replace k1 := hG8.outs.cell k1 n1; obtain rfl : n8 = m := (hid8.eq_iff hA8.ok (Hid6.out.pre hp8)).2 rfl)
      | fail)
    all_goals go_wp2_with fail
    all_goals exact ⟨⟨i + 1, T8, S8, by go_num, by omega, hide ((HI7.out.below (W' := w7.drew) (by exact bel_by)).grown hG8 hA8 hp8 (by omega)), by omega⟩, by simp [intOf]; omega⟩
  ·obtain rfl : i = l.length := by omega
   have hii : ¬ (l.length : Int) < l.length := by omega
   have HI := hide hI.out
   have HBy := hide (pbytes_any hI.out.pay.use hI.out.pay.max (-1) (by omega))
   rw [show (arg T (-1)).bind bytesT = none from rfl] at HBy
   clear hI HL
   go_wp2_with fail
   refine HBy.out.mono ?_
   rintro e w6 ⟨T6, S6, hp6, hl6, hA6, hG6, rfl⟩
   have hbw := (HI.out.pay.grown hG6 hA6 (by omega)).bel
   simp only [Option.getD_none, Option.isSome_none]
   clear hA6 hG6 hp6 HBy
   go_wp2_with fail
   refine (HAW.out _ hbw).mono ?_
   rintro e w7 ⟨rfl, hb7⟩
   go_wp2_with fail
   go_ret
   exact ⟨by simp, hbw.trans (hb7.mono hbw.size)⟩
theorem payBytesLaw_any (hT : Tab w) (hMx : MaxL w) {A : Option Addr} {c : Nat} {l : List Mk} (hl : Mks w.heap.size w A l) :
  Calls Tryz.prog 4 #[.slice A l.length c] w (fun e w' => e = .returned (.bool true) ∧ Below w.heap.size w w') := by
 cases hf : fewB l 40 with
 | true =>
  obtain ⟨h1, h2⟩ := few02_open hf
  exact payBytes_any hT hMx hl hf (by omega) (fun y hy => by have := h2 y hy; omega)
 | false =>
  have HF := hide (few02_all (c := c) (hl.outs (Outs.of_below (R := fun _ => False) (Below.refl _ _)) (fun i h => h.elim)) 40 (by decide))
  rw [hf] at HF
  have HA := hide (awake09_any hT hMx)
  clear hl hf hT hMx
  go_enter Tryz.func4, Tryz.ntmps4
  go_wp2_with (first
   | (go_at_call 13; refine HF.out.mono ?_; rintro e w1 ⟨rfl, rfl⟩)
   | (go_at_call 7; refine HA.out.mono ?_; rintro e w3 ⟨rfl, hb3⟩)
   | fail)
  go_ret
  exact ⟨rfl, hb3⟩
end
end Go.Proofs.YtmgfcjpifkoahaaGreatDoor
