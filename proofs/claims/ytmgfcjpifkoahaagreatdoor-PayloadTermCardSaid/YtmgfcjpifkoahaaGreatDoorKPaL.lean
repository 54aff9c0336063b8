/-
  PayloadTerm's walk, and the page's example. Conditions: none but the listed variables.
-/
import Derived.Test.YtmgfcjpifkoahaaGreatDoorKPayTG
import Derived.Test.YtmgfcjpifkoahaaGreatDoorKPayN
import Derived.Test.YtmgfcjpifkoahaaGreatDoorKOpqG
set_option linter.unusedVariables false
set_option linter.unusedSimpArgs false
namespace Go.Proofs.YtmgfcjpifkoahaaGreatDoor
open Go.RowKit Go.ChangeShapes Go.WideShapes Go.Sort
theorem payT_inj {p q : List UInt8} (hp : p.length ≤ 32768) (hq : q.length ≤ 32768) (h : payT p = payT q) : p = q := by
 obtain ⟨t, h1, _, h2⟩ := pay_yes hp
 obtain ⟨u, h3, _, h4⟩ := pay_yes hq
 rw [h1, h3] at h
 cases h
 rw [h2] at h4
 exact Option.some.inj h4
theorem dec_21 : decS [21] = .ok 21 [] := by kernel_rfl
theorem dec_255 : ∀ n l, decS [255] ≠ .ok n l := by
 intro n l h
 have h3 : decS [255] = .all 6 := by kernel_rfl
 rw [h3] at h
 cases h
theorem pay_21 : payT [21] = tList [tData ⟨#[21]⟩] := payT_list dec_21
theorem pay_255 : payT [255] = tData ⟨#[255]⟩ := payT_data dec_255
structure Pay (w0 : World) (B g : Nat) (T : List Tm) (S : Nat → Prop) (w : World) : Prop where
 use : Use B w g T S
 max : MaxB B w
 bel : Below w0.heap.size w0 w
 base : w0.heap.size ≤ B
section
variable {w0 w w' : World} {B g : Nat} {T T' : List Tm} {S S' : Nat → Prop}
theorem Pay.new (hT : Tab w0) (hM : MaxL w0) (hb0 : Below w0.heap.size w0 w) (h : Ar w.heap.size w' g [] S) (hb : Below w.heap.size w w') : Pay w0 w.heap.size g [] S w' :=
 ⟨use_new2 hT hb0 h hb, ⟨w0, hM, hb0.size, hb0.trans (hb.mono hb0.size)⟩, hb0.trans (hb.mono hb0.size), hb0.size⟩
theorem Pay.below (h : Pay w0 B g T S w) (hb : Below w.heap.size w w') : Pay w0 B g T S w' :=
 ⟨h.use.below hb, h.max.below hb, h.bel.trans (hb.mono h.bel.size), h.base⟩
theorem Pay.grown (h : Pay w0 B g T S w) (hG : Grown S w S' w') (hA : Ar B w' g T' S') (hf : T'.length ≤ 1000000000) : Pay w0 B g T' S' w' :=
 ⟨h.use.grown hG hA hf, h.max.grown h.use hG, h.bel.trans ((hG.below h.use.base h.use.ar.sB).mono h.base), h.base⟩
theorem Pay.ar (h : Pay w0 B g T S w) : Ar B w g T S := h.use.ar
end
section
variable {w : World}
set_option maxHeartbeats 1000000 in
theorem awake09_any (hT : Tab w) (hM : MaxL w) : Calls Tryz.prog 7 #[] w (fun e w' => e = .returned (.bool true) ∧ Below w.heap.size w w') := by
 have HN := hide (new_any w)
 have HT := hide (And.intro hT hM)
 clear hT hM
 go_enter Tryz.func7, Tryz.ntmps7
 go_wp2_with fail
 refine HN.out.mono ?_
 rintro e w1 ⟨g, S, rfl, hA, hb1⟩
 have HP := hide (Pay.new HT.out.1 HT.out.2 (Below.refl _ _) hA hb1)
 have H1 := hide (pterm_any HP.out.use HP.out.max ⟨#[21]⟩ (by decide) (by simp))
 clear hA hb1 HN HT
 go_wp2_with fail
 refine H1.out.mono ?_
 rintro e w2 ⟨T2, n2, S2, rfl, hid2, hp2, hl2, hA2, hG2⟩
 have HP2 := hide (HP.out.grown hG2 hA2 (by simp at hl2; omega))
 have Hi2 := hide (show Idn T2 (payT [21]) n2 from hid2)
 have hl2 : T2.length ≤ 2000000 := by simpa using hl2
 have H2 := hide (pterm_any HP2.out.use HP2.out.max ⟨#[255]⟩ (by decide) (by omega))
 clear hid2 hp2 hA2 hG2 H1 HP
 go_wp2_with fail
 refine H2.out.mono ?_
 rintro e w3 ⟨T3, n3, S3, rfl, hid3, hp3, hl3, hA3, hG3⟩
 have HP3 := hide (HP2.out.grown hG3 hA3 (by omega))
 have Hi3 := hide (show Idn T3 (payT [255]) n3 from hid3)
 have Hi2 := hide (Hi2.out.pre hp3)
 have H3 := hide (aData_any HP3.out.use (s := ⟨#[21]⟩) (by decide))
 clear hid3 hp3 hA3 hG3 H2 HP2
 go_wp2_with fail
 refine H3.out.mono ?_
 rintro e w4 ⟨T4, n4, S4, rfl, hpt4, hA4, hG4⟩
 have hl4 := hpt4.len
 have hid4 := hpt4.idn
 have hp4 := hpt4.pre
 have HP4 := hide (HP3.out.grown hG4 hA4 (by omega))
 have Hi4 := hide hid4
 have Hi3 := hide (Hi3.out.pre hp4)
 have Hi2 := hide (Hi2.out.pre hp4)
 have hb5 := bel_newN (w := w4) (.cells #[.int .i64 n4] 25)
 have H4 := hide (aList_any (HP4.out.use.below hb5) (own_ids (ns := [n4]) rfl (own_row1 (Nat.le_refl _))) (by simp))
 have Hb5 := hide hb5
 clear hpt4 hid4 hp4 hA4 hG4 H3 HP3 hb5
 go_wp2_with fail
 refine H4.out.mono ?_
 rintro e w5 ⟨T5, n5, S5, rfl, hpt5, hA5, hG5⟩
 have hl5 := hpt5.len
 have hid5 := hpt5.idn
 have hp5 := hpt5.pre
 have he5 : [n4].map (arg T4) = [tData ⟨#[21]⟩] := ((idns_nil T4).snoc Hi4.out).args
 rw [he5] at hid5
 have HP5 := hide ((HP4.out.below Hb5.out).grown hG5 hA5 (by omega))
 have e25 : n2 = n5 := ((Hi2.out.pre hp5).eq_iff hA5.ok hid5).2 pay_21
 subst e25
 have h55 : (n2 == n2) = true := by simp
 have Hi3 := hide (Hi3.out.pre hp5)
 have Hi2 := hide (Hi2.out.pre hp5)
 have H5 := hide (aData_any HP5.out.use (s := ⟨#[255]⟩) (by decide))
 clear hpt5 hid5 hp5 hA5 hG5 H4 HP4 Hi4 Hb5
 go_wp2_with fail
 refine H5.out.mono ?_
 rintro e w6 ⟨T6, n6, S6, rfl, hpt6, hA6, hG6⟩
 have hl6 := hpt6.len
 have hid6 := hpt6.idn
 have hp6 := hpt6.pre
 have e36 : n3 = n6 := ((Hi3.out.pre hp6).eq_iff hA6.ok hid6).2 pay_255
 subst e36
 have h66 : (n3 == n3) = true := by simp
 have n23 : (n2 != n3) = true := by
  rw [bne_iff_ne]
  intro h9
  have h8 := ((Hi2.out.pre hp6).eq_iff hA6.ok (Hi3.out.pre hp6)).1 h9
  have := payT_inj (by decide) (by decide) h8
  cases this
 have Hb := hide (HP5.out.grown hG6 hA6 (by omega)).bel
 clear hpt6 hid6 hp6 hA6 hG6 H5 HP5 Hi2 Hi3
 go_wp2_with fail
 go_ret
 exact ⟨by simp, Hb.out⟩
set_option maxHeartbeats 1000000 in
theorem payTerm_any (hT : Tab w) (hM : MaxL w) (s : ByteArray) (hs : s.size ≤ maxLen) : Calls Tryz.prog 3 #[.string s] w (fun e w' => e = .returned (.bool true) ∧ Below w.heap.size w w') := by
 by_cases h2000 : 2000 < s.size
 ·have h2' : (2000 : Int) < s.size := by omega
  have HA := hide (awake09_any hT hM)
  clear hT hM hs
  go_enter Tryz.func3, Tryz.ntmps3
  go_wp2_with fail
  refine HA.out.mono ?_
  rintro e w1 ⟨rfl, hb1⟩
  go_wp2_with fail
  go_ret
  exact ⟨rfl, hb1⟩
 ·have h2' : ¬ (2000 : Int) < s.size := by omega
  have HN := hide (new_any w)
  have HT := hide (And.intro hT hM)
  have hsl : s.data.toList.length ≤ 32768 := by rw [size_len]; omega
  obtain ⟨t, ht1, ht2, ht3⟩ := pay_yes hsl
  have HA := hide (fun (W : World) (hb : Below w.heap.size w W) => awake09_any (hT.below hb) (hM.below hb))
  have HNi := hide (fun (W : World) (hb : Below w.heap.size w W) => pterm_nil (hT.below hb) (hM.below hb) s (by omega))
  have HR := hide (fun (W : World) => rterm09_any (w := W) s (by omega))
  rw [ht1] at HR
  have Ht := hide (And.intro ht1 (And.intro ht2 ht3))
  have hs9 : s.size ≤ 32768 := by omega
  clear hT hM hs h2000 hsl ht1 ht2 ht3
  go_enter Tryz.func3, Tryz.ntmps3
  go_wp2_with fail
  refine HN.out.mono ?_
  rintro e w1 ⟨g, S, rfl, hA, hb1⟩
  have HP := hide (Pay.new HT.out.1 HT.out.2 (Below.refl _ _) hA hb1)
  have H1 := hide (pterm_any HP.out.use HP.out.max s hs9 (by simp))
  rw [Ht.out.1] at H1
  clear hA hb1 HN HT
  go_wp2_with fail
  refine H1.out.mono ?_
  rintro e w2 ⟨T2, n2, S2, rfl, hid2, hp2, hl2, hA2, hG2⟩
  have hl2 : T2.length ≤ 2000000 := by simpa using hl2
  have HP2 := hide (HP.out.grown hG2 hA2 (by omega))
  have Hi2 := hide hid2
  have H2 := hide (pbytes_any HP2.out.use HP2.out.max n2 (by omega))
  have eb : (arg T2 n2).bind bytesT = some s.data.toList := by rw [Hi2.out.1]; exact Ht.out.2.2
  rw [eb] at H2
  clear hid2 hp2 hA2 hG2 H1 HP eb
  go_wp2_with fail
  refine H2.out.mono ?_
  rintro e w3 ⟨T3, S3, hp3, hl3, hA3, hG3, rfl⟩
  have HP3 := hide (HP2.out.grown hG3 hA3 (by omega))
  have hid3 := Hi2.out.pre hp3
  rw [show bs ((some s.data.toList).getD []) = s from rfl, show (some s.data.toList).isSome = true from rfl]
  have HA3 := hide (HA.out _ HP3.out.bel)
  have HE := hide (fun (W : World) (hb : Below w3.heap.size w3 W) => encode_any (HP3.out.ar.below hb) n2)
  rw [hid3.1] at HE
  clear hp3 hA3 hG3 hid3 H2 HP2 Hi2
  generalize hx : txt (some t) = x at HE HR
  have hxx : ((bs x).toList == (bs x).toList) = true := by simp
  have hss : (s.toList == s.toList) = true := by simp
  go_wp2_with fail
  refine HA3.out.mono ?_
  rintro e w4 ⟨rfl, hb4⟩
  go_wp2_with fail
  refine (HE.out _ hb4).mono ?_
  rintro e w5 ⟨rfl, hb5⟩
  go_wp2_with fail
  refine (HR.out _).mono ?_
  rintro e w6 ⟨rfl, hb6⟩
  have hb36 := hb4.trans ((hb5.trans (hb6.mono hb5.size)).mono hb4.size)
  have hbw6 := HP3.out.bel.trans (hb36.mono HP3.out.bel.size)
  go_wp2_with fail
  refine (HNi.out _ hbw6).mono ?_
  rintro e w7 ⟨rfl, hb7⟩
  go_wp2_with fail
  go_ret
  exact ⟨by simp, hbw6.trans (hb7.mono hbw6.size)⟩
end
end Go.Proofs.YtmgfcjpifkoahaaGreatDoor
