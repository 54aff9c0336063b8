/-
  SignApart's walk. Conditions: few makes, fitting numbers; the library's table and handle are as they were laid.
-/
import Derived.Test.YtephdodkijanmaaGreatDoorSignQ
import Derived.Test.YtephdodkijanmaaGreatDoorFew22
import Derived.Test.YtephdodkijanmaaGreatDoorSign
import Derived.Test.YtephdodkijanmaaGreatDoorAwake22
import Derived.Test.YtephdodkijanmaaGreatDoorApt02
set_option linter.unusedVariables false
set_option linter.unusedSimpArgs false
namespace Go.Proofs.YtephdodkijanmaaGreatDoor
open Go.RowKit Go.ChangeShapes Go.WideShapes Go.Sort
section
variable {w : World}
def ask2V (x y : AskP) : Value := .agg #[.int .i64 x.ses, .string x.user, .string x.svc, .string x.alg, .int .i64 x.who, .int .i64 y.ses, .string y.user, .string y.svc, .string y.alg, .int .i64 y.who]
theorem ask10 {w : World} {b : Nat} {t : TypeId} {x y : AskP} (h : Blk w b t #[.int .i64 x.ses, .string x.user, .string x.svc, .string x.alg, .int .i64 x.who, .int .i64 y.ses, .string y.user, .string y.svc, .string y.alg, .int .i64 y.who]) : w.cell? ⟨b, 0, none⟩ = some (.int .i64 x.ses) ∧ w.cell? ⟨b, 1, none⟩ = some (.string x.user) ∧ w.cell? ⟨b, 2, none⟩ = some (.string x.svc) ∧ w.cell? ⟨b, 3, none⟩ = some (.string x.alg) ∧ w.cell? ⟨b, 4, none⟩ = some (.int .i64 x.who) ∧ w.cell? ⟨b, 5, none⟩ = some (.int .i64 y.ses) ∧ w.cell? ⟨b, 6, none⟩ = some (.string y.user) ∧ w.cell? ⟨b, 7, none⟩ = some (.string y.svc) ∧ w.cell? ⟨b, 8, none⟩ = some (.string y.alg) ∧ w.cell? ⟨b, 9, none⟩ = some (.int .i64 y.who) :=
  ⟨h.cell 0, h.cell 1, h.cell 2, h.cell 3, h.cell 4, h.cell 5, h.cell 6, h.cell 7, h.cell 8, h.cell 9⟩
theorem ask34 {w : World} {b : Nat} {t : TypeId} {x y : AskP} (h : Blk w b t #[.int .i64 x.ses, .string x.user, .string x.svc, .string x.alg, .int .i64 x.who, .int .i64 y.ses, .string y.user, .string y.svc, .string y.alg, .int .i64 y.who]) : w.cell? ⟨b, 3, none⟩ = some (.string x.alg) ∧ w.cell? ⟨b, 4, none⟩ = some (.int .i64 x.who) := ⟨h.cell 3, h.cell 4⟩
theorem Mks.mono {lo lo2 : Nat} {w : World} {A : Option Addr} {l : List Mk} (h : Mks lo w A l) (hle : lo ≤ lo2) : Mks lo2 w A l :=
  ⟨fun i x hx => by obtain ⟨ad, e, h1, h2⟩ := h.at_ i x hx; exact ⟨ad, e, Nat.lt_of_lt_of_le h1 hle, h2⟩⟩
theorem sapt_fin {T : List Tm} (hok : AOK T) {n m : Int} {o s : Option Tm} {alg2 user service alg : ByteArray} {who2 who : Int} {tp : Tm} (hi : Idn T (tSign alg2 (tKey who2) (tHash o)) n) (hj : Idn T (userO s user service alg who) m) (h : userO s user service alg who = some tp) : ¬ n = m :=
  fun h9 => host_user h (((hi.eq_iff hok hj).1 h9).trans h) rfl
theorem bool_no {r : Bool} {P : Prop} (h : r = true ↔ P) (hn : ¬ P) : r = false := by
  cases r with
  | false => rfl
  | true => exact absurd (h.1 rfl) hn
theorem bool_yes {r : Bool} {P : Prop} (h : r = true ↔ P) (hp : P) : r = true := h.2 hp
theorem bool_of (P : Prop) : ∃ r : Bool, r = true ↔ P := by
  by_cases h : P
  · exact ⟨true, by simp [h]⟩
  · exact ⟨false, by simp [h]⟩
theorem str_no {a b : ByteArray} (h : (a.toList == b.toList) = false) : a ≠ b := by
  rintro rfl
  simp at h
theorem str_yes {a b : ByteArray} (h : (a.toList == b.toList) = true) : a = b := by
  have h2 : a.toList = b.toList := by simpa using h
  rw [ByteArray.toList_eq, ByteArray.toList_eq] at h2
  exact toList_inj h2
set_option maxHeartbeats 16000000 in
set_option maxRecDepth 100000 in
theorem sapt_any (hT : Tab w) (hH : Hand w) {A : Option Addr} {c : Nat} {l : List Mk} (hl : Mks w.heap.size w A l) (hf : fewB l 20 = true) (hll : l.length ≤ 20) (hls : ∀ x ∈ l, x.s.size ≤ 1000000) (x y : AskP) (hx : fewA x = true) (hy : fewA y = true) (t : Int) :
    Calls Tryz.prog 3 #[.slice A l.length c, ask2V x y, .int .i64 t] w (fun e w' => e = .returned (.bool true) ∧ Below w.heap.size w w') := by
  unfold ask2V
  obtain ⟨W0, hW0⟩ : ∃ W0, W0 = w.alloc (.cells #[.int .i64 x.ses, .string x.user, .string x.svc, .string x.alg, .int .i64 x.who, .int .i64 y.ses, .string y.user, .string y.svc, .string y.alg, .int .i64 y.who] 25) := ⟨_, rfl⟩
  have hbW : Below w.heap.size w W0 := by rw [hW0]; exact (Below.refl _ _).alloc (Nat.le_refl _) _
  have hM : Blk W0 w.heap.size 25 #[.int .i64 x.ses, .string x.user, .string x.svc, .string x.alg, .int .i64 x.who, .int .i64 y.ses, .string y.user, .string y.svc, .string y.alg, .int .i64 y.who] := by rw [hW0]; exact Blk.new w _ _
  have HF := hide (few_any (c := c) (hl.outs (Outs.of_below (R := fun _ => False) hbW) (fun i h => h.elim)) (by omega) 20)
  rw [hf] at HF
  have hx2 := hx
  have hy2 := hy
  simp only [fewA, Bool.and_eq_true, decide_eq_true_eq] at hx2 hy2
  have HX := hide (fun W => few22_any x W (by omega) (by omega) (by omega))
  have HY := hide (fun W => few22_any y W (by omega) (by omega) (by omega))
  rw [hx] at HX
  rw [hy] at HY
  have HT := hide hT
  have HHd := hide hH
  have HL := hide hl
  have Hls := hide hls
  have HM := hide hM
  have HS2 := hide (And.intro hx2 hy2)
  have hml := makes_len l
  have Hfine := hide (makes_fine hls)
  clear hT hH hl hls hf hx hy hx2 hy2 hM
  go_enter Tryz.func3, Tryz.ntmps3
  go_upto_region 1 with fail
  rw [← hW0]
  clear hW0
  obtain ⟨q0, q1, q2, q3, q4, q5, q6, q7, q8, q9⟩ := ask10 HM.out
  go_wp2_with (first
    | (go_at_call 6; refine HF.out.mono ?_; rintro e w1 ⟨rfl, rfl⟩)
    | fail)
  refine (HX.out w1).mono ?_
  rintro e w2 ⟨rfl, hb2⟩
  have hM2 := HM.out.below hb2 HM.out.lt
  have hbw2 := hbW.trans (hb2.mono hbW.size)
  clear q0 q1 q2 q3 q4 q5 q6 q7 q8 q9
  obtain ⟨q0, q1, q2, q3, q4, q5, q6, q7, q8, q9⟩ := ask10 hM2
  go_wp2_with fail
  refine (HY.out w2).mono ?_
  rintro e w3 ⟨rfl, hb3⟩
  have hM3 := hM2.below hb3 hM2.lt
  have hbw3 := hbw2.trans (hb3.mono hbw2.size)
  clear q0 q1 q2 q3 q4 q5 q6 q7 q8 q9 hM2 HX HY HF HM
  obtain ⟨q0, q1, q2, q3, q4, q5, q6, q7, q8, q9⟩ := ask10 hM3
  go_wp2_with fail
  clear q0 q1 q2 q3 q4 q5 q6 q7 q8 q9
  refine (new_any w3).mono ?_
  rintro e w4 ⟨g, S, rfl, hA1, hb4⟩
  have hU : Use w3.heap.size w4 g [] S := use_new2 (HT.out.below hbw3) (Below.refl _ _) hA1 hb4
  have hMk := hide (makes_any (c := c) hU ((HL.out.outs (Outs.of_below (R := fun _ => False) (hbw3.trans (hb4.mono hbw3.size))) (fun i h => h.elim)).mono hbw3.size) (by omega) Hls.out (by simp; omega))
  have HU := hide hU
  have HM3 := hide hM3
  clear hU hA1 HL hM3
  go_wp2_with fail
  refine hMk.out.mono ?_
  rintro e w5 ⟨T4, S4, v1, v2, rfl, hmd, hpre4, hT4, hA4, hG4⟩
  obtain ⟨A1, c1, hv1⟩ := own_sl hmd.ids.choose_spec.1
  obtain ⟨A2, c2, hv2⟩ := own_sl hmd.txs
  rw [hml] at hv1 hv2
  subst hv1 hv2
  have hT5 : T4.length ≤ 20 := by simp at hT4; omega
  have HE := hide (aps_new HU.out hb4 hmd hA4 hG4 (by omega))
  clear hmd hpre4 hT4 hA4 hG4 hb4 hMk HU
  go_upto_region 5 with fail
  have hsz3 := HM3.out.lt
  generalize w5.alloc (.cells #[.slice A1 l.length c1, .slice A2 l.length c2] 34) = w6 at HE ⊢
  generalize w5.heap.size = b7 at HE ⊢
  generalize w4.heap.size = B0 at HE ⊢
  obtain ⟨q0, q1, q2, q3, q4, q5, q6, q7, q8, q9⟩ := ask10 (HM3.out.below HE.out.fr.bel HM3.out.lt)
  have HPx := hide (pick_any HE.out.mdo.md x.ses (by omega))
  have hq := HE.out.blk
  have m0 : w6.cell? ⟨b7, 0, none⟩ = some (.slice A1 l.length c1) := hq.cell 0
  have m1 : w6.cell? ⟨b7, 1, none⟩ = some (.slice A2 l.length c2) := hq.cell 1
  clear hq
  go_wp2_with fail
  refine HPx.out.mono ?_
  rintro e w7 ⟨ns, rfl, hid7, hb7⟩
  have HI7 := hide hid7
  have HE7 := hide (HE.out.below hb7)
  clear q0 q1 q2 q3 q4 q5 q6 q7 q8 q9 m0 m1 HPx HE hb7 hid7
  obtain ⟨q0, q1, q2, q3, q4, q5, q6, q7, q8, q9⟩ := ask10 (HM3.out.below HE7.out.fr.bel HM3.out.lt)
  have HPy := hide (pick_any HE7.out.mdo.md y.ses (by omega))
  have hq := HE7.out.blk
  have m0 : w7.cell? ⟨b7, 0, none⟩ = some (.slice A1 l.length c1) := hq.cell 0
  have m1 : w7.cell? ⟨b7, 1, none⟩ = some (.slice A2 l.length c2) := hq.cell 1
  clear hq
  go_wp2_with fail
  refine HPy.out.mono ?_
  rintro e w8 ⟨nu, rfl, hid8, hb8⟩
  have HI8 := hide hid8
  have HE8 := hide (HE7.out.below hb8)
  clear q0 q1 q2 q3 q4 q5 q6 q7 q8 q9 m0 m1 HPy HE7 hb8 hid8
  have HPt := hide (pick_any HE8.out.mdo.md t (by omega))
  have hq := HE8.out.blk
  have m0 : w8.cell? ⟨b7, 0, none⟩ = some (.slice A1 l.length c1) := hq.cell 0
  have m1 : w8.cell? ⟨b7, 1, none⟩ = some (.slice A2 l.length c2) := hq.cell 1
  clear hq
  go_wp2_with fail
  refine HPt.out.mono ?_
  rintro e w9 ⟨nh, rfl, hid9, hb9⟩
  have HI9 := hide hid9
  have HE9 := hide (HE8.out.below hb9)
  clear m0 m1 HPt HE8 hb9 hid9
  obtain ⟨q0, q1, q2, q3, q4, q5, q6, q7, q8, q9⟩ := ask10 (HM3.out.below HE9.out.fr.bel HM3.out.lt)
  have hS := HS2.out
  have HUx := hide (user_any HE9.out.fr.use HI7.out (user := x.user) (service := x.svc) (alg := x.alg) (by omega) (by omega) (by omega) x.who (by omega))
  clear hS
  generalize pickO (makes l) x.ses = ox at HI7 HUx
  generalize pickO (makes l) y.ses = oy at HI8
  generalize pickO (makes l) t = ot at HI9
  go_wp2_with fail
  refine HUx.out.mono ?_
  rintro e w10 ⟨T10, n10, S10, rfl, hi10, hp10, hl10, hA10, hG10⟩
  have HE10 := hide (HE9.out.grown hG10 hA10 hp10 (by omega))
  have hS := HS2.out
  have HUy := hide (user_any HE10.out.fr.use (HI8.out.pre hp10) (user := y.user) (service := y.svc) (alg := y.alg) (by omega) (by omega) (by omega) y.who (by omega))
  have Hi10 := hide hi10
  have Hp10 := hide hp10
  clear hS q0 q1 q2 q3 q4 q5 q6 q7 q8 q9 HUx HE9 hi10 hp10 hA10 hG10
  obtain ⟨q0, q1, q2, q3, q4, q5, q6, q7, q8, q9⟩ := ask10 (HM3.out.below HE10.out.fr.bel HM3.out.lt)
  go_wp2_with fail
  refine HUy.out.mono ?_
  rintro e w11 ⟨T11, n11, S11, rfl, hi11, hp11, hl11, hA11, hG11⟩
  have HE11 := hide (HE10.out.grown hG11 hA11 hp11 (by omega))
  have Hi11 := hide hi11
  have Hp11 := hide hp11
  clear q0 q1 q2 q3 q4 q5 q6 q7 q8 q9 HUy HE10 hi11 hp11 hA11 hG11
  obtain ⟨q0, q1, q2, q3, q4, q5, q6, q7, q8, q9⟩ := ask10 (HM3.out.below HE11.out.fr.bel HM3.out.lt)
  have HAW := hide (fun (W : World) (hb : Below w3.heap.size w3 W) => awake22_any (HT.out.below (hbw3.trans (hb.mono hbw3.size))) (HHd.out.below (hbw3.trans (hb.mono hbw3.size))))
  have hpre := Hp10.out.trans Hp11.out
  have hok := HE11.out.fr.use.ar.ok
  have e1 := (Hi10.out.pre Hp11.out).none_iff
  have e2 := Hi11.out.none_iff
  have e3 := (Hi10.out.pre Hp11.out).eq_iff hok Hi11.out
  have e4 := (HI7.out.pre hpre).eq_iff hok (HI8.out.pre hpre)
  have hbw := HE11.out.fr.bel
  have HIt := hide (HI9.out.pre hpre)
  have Hi12 := hide (Hi10.out.pre Hp11.out)
  have Hl11 := hide (Nat.le_trans hl11 (Nat.add_le_add_right hl10 11))
  clear hpre hok Hp10 Hp11 Hi10 Hi11 HI7 HI8 HI9 hl10 hl11
  by_cases c1 : n10 = -1
  · subst c1
    clear e1 e2 e3 e4
    go_wp2_with fail
    refine (HAW.out _ hbw).mono ?_
    rintro e w12 ⟨rfl, hb12⟩
    go_wp2_with fail
    go_ret
    exact ⟨rfl, hbw3.trans ((hbw.trans (hb12.mono hbw.size)).mono hbw3.size)⟩
  · by_cases c2 : n11 = -1
    · subst c2
      clear e1 e2 e3 e4
      go_wp2_with fail
      refine (HAW.out _ hbw).mono ?_
      rintro e w12 ⟨rfl, hb12⟩
      go_wp2_with fail
      go_ret
      exact ⟨rfl, hbw3.trans ((hbw.trans (hb12.mono hbw.size)).mono hbw3.size)⟩
    · obtain ⟨tp, htp⟩ := Option.ne_none_iff_exists'.1 (fun h => c1 (e1.2 h))
      obtain ⟨tq, htq⟩ := Option.ne_none_iff_exists'.1 (fun h => c2 (e2.2 h))
      have hnm : n10 = n11 ↔ ns = nu ∧ x.user = y.user ∧ x.svc = y.svc ∧ x.alg = y.alg ∧ x.who = y.who := by
        rw [e3, e4, htp, htq, Option.some.injEq]
        exact user_apart htp htq
      obtain ⟨r, hr⟩ : ∃ r : Bool, r = true ↔ (ns = nu ∧ x.user = y.user ∧ x.svc = y.svc ∧ x.alg = y.alg ∧ x.who = y.who) := bool_of _
      have Hr := hide hr
      have Hnm := hide (hnm.trans hr.symm)
      have Htp := hide htp
      clear e1 e2 e3 e4 hnm hr htp htq
      go_upto_region 12 with fail
      go_cut [17] (fun v wd => v = .bool r ∧ wd = w11)
      case first =>
        as_aux_lemma =>
          clear HE11 HAW Hi12 HIt Hnm Htp
          by_cases t0 : ns = nu
          · subst t0
            cases t1 : (x.user.toList == y.user.toList)
            · go_wp2_with fail
              all_goals go_meet
              all_goals exact ⟨by rw [bool_no Hr.out (fun h => str_no t1 h.2.1)], rfl⟩
            · cases t2 : (x.svc.toList == y.svc.toList)
              · go_wp2_with fail
                all_goals go_meet
                all_goals exact ⟨by rw [bool_no Hr.out (fun h => str_no t2 h.2.2.1)], rfl⟩
              · cases t3 : (x.alg.toList == y.alg.toList)
                · go_wp2_with fail
                  all_goals go_meet
                  all_goals exact ⟨by rw [bool_no Hr.out (fun h => str_no t3 h.2.2.2.1)], rfl⟩
                · cases t4 : (x.who == y.who)
                  · go_wp2_with fail
                    all_goals go_meet
                    all_goals exact ⟨by rw [bool_no Hr.out (fun h => by rw [h.2.2.2.2] at t4; simp at t4)], rfl⟩
                  · go_wp2_with fail
                    all_goals go_meet
                    all_goals exact ⟨by rw [bool_yes Hr.out ⟨by simp, str_yes t1, str_yes t2, str_yes t3, by simpa using t4⟩], rfl⟩
          · go_wp2_with fail
            all_goals go_meet
            all_goals exact ⟨by rw [bool_no Hr.out (fun h => t0 h.1)], rfl⟩
      case rest =>
        obtain ⟨wx, rfl⟩ : ∃ wx : World, wx = wc := ⟨wc, rfl⟩
        obtain ⟨rfl, rfl⟩ := hcut
        have hrr : r = true ∧ n10 = n11 ∨ r = false ∧ ¬ n10 = n11 := by
          have := Hnm.out
          cases r <;> simp_all
        have hZ := HS2.out
        have HHs := hide (fun (W : World) (T' : List Tm) (S' : Nat → Prop) (hU : Use w3.heap.size W g T' S') (hi : Idn T' ot nh) => (show Calls Tryz.prog 14 #[.pointer (some ⟨g, 0, none⟩), .int .i64 nh] W (Done w3.heap.size W g T' S' (tHash ot)) from hi.1 ▸ aHash_any hU nh))
        have HHo := hide (fun (W : World) (T' : List Tm) (S' : Nat → Prop) (n : Int) (hU : Use w3.heap.size W g T' S') (hi : Idn T' (tHash ot) n) (hT' : T'.length ≤ 1000) => host_any hU (alg := x.alg) (by omega) x.who hi (by omega))
        clear hZ Hr Hnm q0 q1 q2 q3 q4 q5 q6 q7 q8 q9
        have Hc1 := hide c1
        clear c1 c2
        rcases hrr with ⟨rfl, rfl⟩ | ⟨rfl, hne⟩
        · go_upto_region 13 with fail
          have hdr : Below wx.heap.size wx wx.drew := (Below.refl _ _).drew
          have hE := HE11.out.below hdr
          have hl := Hl11.out
          have hi0 := HIt.out
          have hi1 := Hi12.out
          clear HE11 HIt Hi12 Hl11
          go_region_held3 (fun W => W.cell? ⟨w.heap.size, 3, none⟩ = some (.string x.alg) ∧ W.cell? ⟨w.heap.size, 4, none⟩ = some (.int .i64 x.who))
            (exact ask34 (HM3.out.below hE.fr.bel HM3.out.lt))
            (first
              | (go_at_call 8; (with_reducible refine (HAW.out _ hE.fr.bel).mono ?_); (rintro e x1 ⟨rfl, hb1⟩); (have hE2 := hE.below hb1); clear hE; (have hE := hE2); clear hE2)
              | (go_at_call 14; (with_reducible refine (HHs.out _ _ _ hE.fr.use hi0).mono ?_); (rintro e x2 ⟨T12, n12, S12, rfl, hp12, hA12, hG12⟩); (have hE2 := hE.grown hG12 hA12 hp12.pre (by have := hp12.len; omega)); clear hE; (have hE := hE2); clear hE2; (have hl12 := hp12.len); (have hi2 := hi1.pre hp12.pre))
              | (go_at_call 13; (with_reducible refine (HHo.out _ _ _ _ hE.fr.use hp12.idn (by omega)).mono ?_); (rintro e x3 ⟨T13, n13, S13, rfl, hi13, hp13, hl13, hA13, hG13⟩); (have hE2 := hE.grown hG13 hA13 hp13 (by omega)); clear hE; (have hE := hE2); clear hE2)
              | fail)
          all_goals (have hfin := sapt_fin hE.fr.use.ar.ok hi13 (hi2.pre hp13) Htp.out)
          all_goals (have hfin2 : (n13 != n10) = true := by simpa using hfin)
          all_goals (have hbf := hE.fr.bel)
          all_goals clear hE hi0 hi1 hi2 hi13 hp12 hp13 hA12 hA13 hG12 hG13
          all_goals go_wp2_with fail
          all_goals go_ret
          all_goals exact ⟨by simp [hfin], hbw3.trans (hbf.mono hbw3.size)⟩
        · go_upto_region 13 with fail
          have hne2 : (n10 == n11) = false := by simpa using hne
          have hdr : Below wx.heap.size wx wx.drew := (Below.refl _ _).drew
          have hE := HE11.out.below hdr
          have hl := Hl11.out
          have hi0 := HIt.out
          have hi1 := Hi12.out
          clear HE11 HIt Hi12 Hl11
          go_region_held3 (fun W => W.cell? ⟨w.heap.size, 3, none⟩ = some (.string x.alg) ∧ W.cell? ⟨w.heap.size, 4, none⟩ = some (.int .i64 x.who))
            (exact ask34 (HM3.out.below hE.fr.bel HM3.out.lt))
            (first
              | (go_at_call 8; (with_reducible refine (HAW.out _ hE.fr.bel).mono ?_); (rintro e x1 ⟨rfl, hb1⟩); (have hE2 := hE.below hb1); clear hE; (have hE := hE2); clear hE2)
              | (go_at_call 14; (with_reducible refine (HHs.out _ _ _ hE.fr.use hi0).mono ?_); (rintro e x2 ⟨T12, n12, S12, rfl, hp12, hA12, hG12⟩); (have hE2 := hE.grown hG12 hA12 hp12.pre (by have := hp12.len; omega)); clear hE; (have hE := hE2); clear hE2; (have hl12 := hp12.len); (have hi2 := hi1.pre hp12.pre))
              | (go_at_call 13; (with_reducible refine (HHo.out _ _ _ _ hE.fr.use hp12.idn (by omega)).mono ?_); (rintro e x3 ⟨T13, n13, S13, rfl, hi13, hp13, hl13, hA13, hG13⟩); (have hE2 := hE.grown hG13 hA13 hp13 (by omega)); clear hE; (have hE := hE2); clear hE2)
              | fail)
          all_goals (have hfin := sapt_fin hE.fr.use.ar.ok hi13 (hi2.pre hp13) Htp.out)
          all_goals (have hfin2 : (n13 != n10) = true := by simpa using hfin)
          all_goals (have hbf := hE.fr.bel)
          all_goals clear hE hi0 hi1 hi2 hi13 hp12 hp13 hA12 hA13 hG12 hG13
          all_goals go_wp2_with fail
          all_goals go_ret
          all_goals exact ⟨by simp [hfin], hbw3.trans (hbf.mono hbw3.size)⟩
end
end Go.Proofs.YtephdodkijanmaaGreatDoor
