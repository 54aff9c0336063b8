/-
  SignOwner's walk. Conditions: few makes, fitting numbers; the library's table and handle are as they were laid.
-/
import Derived.Test.YtfjegckomjpkdaaGreatDoorOwnerR
import Derived.Test.YtfjegckomjpkdaaGreatDoorAwake22
import Derived.Test.YtfjegckomjpkdaaGreatDoorApt02
set_option linter.unusedVariables false
set_option linter.unusedSimpArgs false
namespace Go.Proofs.YtfjegckomjpkdaaGreatDoor
open Go.RowKit Go.ChangeShapes Go.WideShapes Go.Sort
section
variable {w : World}
set_option maxHeartbeats 4000000 in
set_option maxRecDepth 100000 in
theorem sowner_any (hT : Tab w) (hH : Hand w) {A : Option Addr} {c : Nat} {l : List Mk} (hl : Mks w.heap.size w A l) (hf : fewB l 20 = true) (hll : l.length ≤ 20) (hls : ∀ x ∈ l, x.s.size ≤ 1000000) (t who : Int) :
    Calls Tryz.prog 6 #[.slice A l.length c, .int .i64 t, .int .i64 who] w (fun e w' => e = .returned (.bool true) ∧ Below w.heap.size w w') := by
  have HF := hide (few_any (c := c) (hl.outs (Outs.of_below (R := fun _ => False) (Below.refl _ _)) (fun i h => h.elim)) (by omega) 20)
  rw [hf] at HF
  have HT := hide hT
  have HHd := hide hH
  have HL := hide hl
  have Hls := hide hls
  have hml := makes_len l
  have Hfine := hide (makes_fine hls)
  clear hT hH hl hls hf
  go_enter Tryz.func6, Tryz.ntmps6
  go_wp2_with (first
    | (go_at_call 11; refine HF.out.mono ?_; rintro e w1 ⟨rfl, rfl⟩)
    | fail)
  refine (new_any w1).mono ?_
  rintro e w3 ⟨g, S, rfl, hA1, hb3⟩
  have hU : Use w1.heap.size w3 g [] S := use_new2 HT.out (Below.refl _ _) hA1 hb3
  have HM := hide (makes_any (c := c) hU (HL.out.outs (Outs.of_below (R := fun _ => False) hb3) (fun i h => h.elim)) (by omega) Hls.out (by simp; omega))
  have HU := hide hU
  clear hU hA1 HF HL
  go_wp2_with fail
  refine HM.out.mono ?_
  rintro e w4 ⟨T4, S4, v1, v2, rfl, hmd, hpre4, hT4, hA4, hG4⟩
  obtain ⟨A1, c1, hv1⟩ := own_sl hmd.ids.choose_spec.1
  obtain ⟨A2, c2, hv2⟩ := own_sl hmd.txs
  rw [hml] at hv1 hv2
  subst hv1 hv2
  have hT5 : T4.length ≤ 20 := by simp at hT4; omega
  have HE := hide (aps_new HU.out hb3 hmd hA4 hG4 (by omega))
  clear hmd hpre4 hT4 hA4 hG4 hb3 HM HU
  go_upto_region 5 with fail
  generalize w4.alloc (.cells #[.slice A1 l.length c1, .slice A2 l.length c2] 31) = w5 at HE ⊢
  generalize w4.heap.size = b7 at HE ⊢
  generalize w3.heap.size = B0 at HE ⊢
  have HPk := hide (pick_any HE.out.mdo.md t (by omega))
  have hq := HE.out.blk
  have m0 : w5.cell? ⟨b7, 0, none⟩ = some (.slice A1 l.length c1) := hq.cell 0
  have m1 : w5.cell? ⟨b7, 1, none⟩ = some (.slice A2 l.length c2) := hq.cell 1
  clear hq
  go_wp2_with fail
  refine HPk.out.mono ?_
  rintro e w6 ⟨nk, rfl, hidk, hb6⟩
  have hE6 := HE.out.below hb6
  have ho := pickO_fine Hfine.out t
  have HOw := hide (owner_any hE6.fr.use.ar hidk)
  have HRo := hide (fun W => rOwner_any ho W)
  have HE6 := hide hE6
  have hbw6 := hE6.fr.bel
  clear m0 m1 HPk HE hb6 hE6 ho hidk
  generalize pickO (makes l) t = o at HOw HRo ⊢
  go_wp2_with fail
  refine HOw.out.mono ?_
  rintro e w7 ⟨rfl, hb7⟩
  go_wp2_with fail
  refine (HRo.out _).mono ?_
  rintro e w8 ⟨rfl, hb8⟩
  have hb68 := hb7.trans (hb8.mono hb7.size)
  have hE8 := HE6.out.below hb68
  have x1 : (((whoO o : Nat) : Int) != ((whoO o : Nat) : Int)) = false := bne_self_eq_false _
  have x2 : (isPb o != isPb o) = false := bne_self_eq_false _
  have HK := hide (aKey_any hE8.fr.use who)
  have HE8 := hide hE8
  have HAW := hide (fun (W : World) (hb : Below w1.heap.size w1 W) => awake22_any (HT.out.below hb) (HHd.out.below hb))
  clear HE6 HOw HRo hb7 hb8 hE8
  generalize whoO o = q at x1 ⊢
  generalize isPb o = r at x2 ⊢
  go_wp2_with fail
  refine HK.out.mono ?_
  rintro e w9 ⟨T9, n9, S9, rfl, hp9, hA9, hG9⟩
  have hl9 := hp9.len
  have hE9 := HE8.out.grown hG9 hA9 hp9.pre (by omega)
  have HP := hide (aPub_any hE9.fr.use n9)
  rw [hp9.idn.1] at HP
  have HE9 := hide hE9
  clear hA9 hG9 hp9 hE9 HK HE8
  go_wp2_with fail
  refine HP.out.mono ?_
  rintro e w10 ⟨T10, n10, S10, rfl, hp10, hA10, hG10⟩
  have hl10 := hp10.len
  have hE10 := HE9.out.grown hG10 hA10 hp10.pre (by omega)
  have HO2 := hide (owner_any hE10.fr.use.ar hp10.idn)
  have hbw := hE10.fr.bel
  clear hA10 hG10 hp10 hE10 HP HE9
  by_cases hw : 0 ≤ who ∧ who ≤ 2147483647
  · obtain ⟨k, rfl⟩ := Int.eq_ofNat_of_zero_le hw.1
    have hk : k ≤ 2147483647 := by omega
    have e1 : tPub (tKey (k : Int)) = some (.mk 4 0 0 eB [.mk 3 k 0 eB []]) := by
      have h9 : tKey (k : Int) = some (.mk 3 k 0 eB []) := by
        unfold tKey okN
        rw [if_pos (by simp; omega)]
        rfl
      rw [h9]
      rfl
    rw [e1] at HO2
    have e2 : whoO (some (.mk 4 0 0 eB [.mk 3 k 0 eB []])) = k := rfl
    have e3 : isPb (some (.mk 4 0 0 eB [.mk 3 k 0 eB []])) = true := rfl
    rw [e2, e3] at HO2
    have i1 : ¬ (k : Int) < 0 := by omega
    have i2 : ¬ (2147483647 : Int) < k := by omega
    clear e1 e2 e3 hw
    go_wp2_with fail
    refine HO2.out.mono ?_
    rintro e w11 ⟨rfl, hb11⟩
    have hbw11 := hbw.trans (hb11.mono hbw.size)
    go_wp2_with fail
    refine (HAW.out _ hbw11).mono ?_
    rintro e w12 ⟨rfl, hb12⟩
    go_wp2_with fail
    go_ret
    exact ⟨by simp, hbw11.trans (hb12.mono hbw11.size)⟩
  · have e1 : tPub (tKey who) = none := by
      have h9 : tKey who = none := by
        unfold tKey okN
        rw [if_neg (by simp; omega)]
      rw [h9]
      rfl
    rw [e1] at HO2
    have e2 : whoO none = 0 := rfl
    have e3 : isPb none = false := rfl
    rw [e2, e3] at HO2
    have hor : who < 0 ∨ ¬ who < 0 ∧ (2147483647 : Int) < who := by omega
    clear e1 e2 e3 hw
    rcases hor with i1 | ⟨i1, i2⟩
    · go_wp2_with fail
      refine HO2.out.mono ?_
      rintro e w11 ⟨rfl, hb11⟩
      have hbw11 := hbw.trans (hb11.mono hbw.size)
      go_wp2_with fail
      refine (HAW.out _ hbw11).mono ?_
      rintro e w12 ⟨rfl, hb12⟩
      go_wp2_with fail
      go_ret
      exact ⟨by simp, hbw11.trans (hb12.mono hbw11.size)⟩
    · go_wp2_with fail
      refine HO2.out.mono ?_
      rintro e w11 ⟨rfl, hb11⟩
      have hbw11 := hbw.trans (hb11.mono hbw.size)
      go_wp2_with fail
      refine (HAW.out _ hbw11).mono ?_
      rintro e w12 ⟨rfl, hb12⟩
      go_wp2_with fail
      go_ret
      exact ⟨by simp, hbw11.trans (hb12.mono hbw11.size)⟩
end
end Go.Proofs.YtfjegckomjpkdaaGreatDoor
