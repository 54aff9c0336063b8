/-
  The law CodeDecodes: which bytes are a term's, and which of them are opaque. Conditions: none but the listed variables.
-/
import Derived.Test.YtfjegckomjpkdaaDoorOpq
import Derived.Test.YtfjegckomjpkdaaDoorCard
set_option linter.unusedVariables false
set_option linter.unusedSimpArgs false
namespace Go.Proofs.YtfjegckomjpkdaaDoor
open Go.ChangeShapes Go.WideShapes Go.ChangeAt Go.RowKit Go.Sort
open Go.ChangeMaps (open_string shut_string)
section
variable {w : World}
set_option maxHeartbeats 4000000 in
set_option maxRecDepth 100000 in
theorem decodes_any (hT : Tab w) (s : ByteArray) (hm : s.size ≤ maxLen) : Calls Tryd.prog 3 #[.string s] w (fun e w' => e = .returned (.bool true) ∧ Below w.heap.size w w') := by
  unfold maxLen at hm
  have HAW := hide (fun (W : World) (hb : Below w.heap.size w W) => awake02_any (hT.below hb))
  by_cases h6 : (600 : Int) < s.size
  · clear hT
    go_enter Tryd.func3, Tryd.ntmps3
    go_wp2_with fail
    refine (HAW.out _ (Below.refl _ _)).mono ?_
    rintro e w1 ⟨rfl, hb1⟩
    go_wp2_with fail
    go_ret
    exact ⟨rfl, hb1⟩
  · have hs : s.size ≤ 131072 := by omega
    have HN := hide (new_any w)
    have HT := hide hT
    have HO := hide (fun (W : World) (hb : Below w.heap.size w W) => opq_any (hT.below hb) s hs)
    have HRO := hide (fun (W : World) => ropq_any s hs W)
    have HR := hide (fun (W : World) => right_any s hs W)
    have HDN := hide (fun (W : World) => decode_nil s W)
    have HK := hide (fun t ht he W => rkind_of s (t := t) ht he hs W)
    clear hT
    go_enter Tryd.func3, Tryd.ntmps3
    go_wp2_with fail
    refine HN.out.mono ?_
    rintro e w1 ⟨g, S, rfl, hA, hb1⟩
    have hU : Use w.heap.size w1 g [] S := use_new2 HT.out (Below.refl _ _) hA hb1
    have HD := hide (decode_any hU hs (by simp))
    clear hU hA HN
    go_wp2_with fail
    refine HD.out.mono ?_
    rintro e w2 ⟨T2, S2, n, k, o, rfl, hid, ho, hA2, hG2, _, _⟩
    have hsB := hA2.sB
    have hb2 : Below w.heap.size w w2 := hb1.trans (hG2.below hb1.size (fun i hi => hsB i (hG2.sub i hi)))
    have HA2 := hide hA2
    clear hA2 hG2 hsB HD hb1
    go_wp2_with fail
    refine (HDN.out _).mono ?_
    rintro e w3 ⟨rfl, rfl⟩
    go_wp2_with fail
    refine (HO.out _ hb2).mono ?_
    rintro e w4 ⟨r4, rfl, hr4, hb4⟩
    go_wp2_with fail
    refine (HRO.out _).mono ?_
    rintro e w5 ⟨r5, rfl, hr5, hb5⟩
    have e45 : r4 = r5 := by rw [Bool.eq_iff_iff, hr4, hr5]
    subst e45
    have hb5' : Below w3.heap.size w3 w5 := hb4.trans (hb5.mono hb4.size)
    clear hr4 hr5
    have hrr : (r4 != r4) = false := bne_self_eq_false _
    go_wp2_with fail
    refine (HR.out _).mono ?_
    rintro e w6 ⟨r6, rfl, hr6, hb6⟩
    have hb26 : Below w3.heap.size w3 w6 := hb5'.trans (hb6.mono hb5'.size)
    have hb06 := hb2.trans (hb26.mono hb2.size)
    rcases ho with ⟨t, rfl, ht, he, rfl⟩ | ⟨rfl, rfl, hno⟩
    · obtain rfl : r6 = true := hr6.2 ⟨t, ht, he⟩
      have He := hide he
      have Hid2 := hide hid
      clear he hid hr6
      go_wp2_with fail
      refine (HAW.out _ hb06).mono ?_
      rintro e w7 ⟨rfl, hb7⟩
      have hb37 := hb26.trans (hb7.mono hb26.size)
      have HE := hide (encode_any (HA2.out.below hb37) n)
      rw [Hid2.out.1] at HE
      go_wp2_with fail
      refine HE.out.mono ?_
      rintro e w8 ⟨rfl, hb8⟩
      rw [show bs (txt (some t)) = s from by show bs (enc t) = s; rw [← He.out]; rfl]
      have hb38 := hb37.trans (hb8.mono hb37.size)
      have HKa := hide (akind_any (HA2.out.below hb38) n)
      rw [Hid2.out.1] at HKa
      go_wp2_with fail
      refine HKa.out.mono ?_
      rintro e w9 ⟨rfl, rfl⟩
      go_wp2_with fail
      refine (HK.out t ht He.out _).mono ?_
      rintro e w10 ⟨rfl, rfl⟩
      go_wp2_with fail
      go_ret
      exact ⟨by simp, hb2.trans (hb38.mono hb2.size)⟩
    · obtain rfl : r6 = false := by
        cases r6 with
        | false => rfl
        | true =>
          obtain ⟨t, ht, he⟩ := hr6.1 rfl
          exact absurd he (hno t ht)
      obtain rfl := hid.2 rfl
      clear hid hr6 hno
      go_wp2_with fail
      refine (HAW.out _ hb06).mono ?_
      rintro e w7 ⟨rfl, hb7⟩
      go_wp2_with fail
      go_ret
      exact ⟨rfl, hb06.trans (hb7.mono hb06.size)⟩
end

set_option maxRecDepth 100000 in
theorem lifted_CodeDecodes (os : Os) (started : os.Started) (H : Type) (enc : TypeId × Value → H) :
    ReturnsInHanded {} Tryd.checked os 3 .any (fun w args => (Rows.codeDecodesSpec.pre enc Tryd.prog Tryd.f3 [] false w args ∧ laidMetH Tryd.prog Rows.codeDecodesRow.laid w) ∧ sizedMet enc Tryd.prog Tryd.f3 (OpenSpec.ofChange Rows.codeDecodesSpec) false w args)
      (Rows.codeDecodesSpec.post enc Tryd.prog Tryd.f3 false true false false) := by
  refine returnsInHanded_of_change_and (C := Tryd.checked) (X := fun w _ => laidMetH Tryd.prog Rows.codeDecodesRow.laid w) (fun _ _ _ hh h => h.of_heap hh) own started (by kernel_rfl) Tryd.func3
    (ChangeSpec.witness_shaped (enc := enc) (C := Tryd.checked) (os := os) (X := fun w _ => laidMetH Tryd.prog Rows.codeDecodesRow.laid w) false (World.laidAll Tryd.prog os Rows.codeDecodesRow.laid) #[.string ByteArray.empty] 8 (World.laidAll_os _ _ _)
      (World.shaped_of_ZipB (by kernel_rfl) (by kernel_rfl)) (by kernel_rfl) (by kernel_rfl) (by kernel_rfl)
      (by rw [MakeChecks.laidMetH_plain _ _ _ (by kernel_rfl)]; exact laidMet_laidAll _ (by kernel_rfl) (by kernel_rfl))) ?_
  intro W base args ds gs before hval0 hW _ _ hL _
  have hval : ∀ (j : Nat) t v, Tryd.f3.params[j]? = some t → args[j]? = some v → Value.okWide Tryd.prog W .any base t v := hval0
  have hW' := hW
  obtain ⟨p, q, hA0, hV, rfl, hfz, hnd⟩ := hW
  have hA : DataW.TrodAll enc Tryd.prog W 0 (fun _ => true) true Tryd.f3.params.toList args.toList ds p := hA0
  rw [Tryd.params3] at hA hval
  obtain ⟨v0, vs0, d0, ds0, p0, q0, hargs, rfl, rfl, h0, r0⟩ := trodAll_cons hA
  obtain ⟨rfl, rfl, rfl⟩ := trodAll_nil r0
  obtain rfl : args = #[v0] := by cases args; simp_all
  obtain ⟨s0, rfl, _, _, w0⟩ := open_string Tryd.underlying9 (hval 0 9 v0 rfl rfl) h0
  rw [MakeChecks.laidMetH_plain _ _ _ (by kernel_rfl)] at hL
  have hT := tab_of_laid hL
  refine (decodes_any hT s0 w0).mono fun e W' ⟨he, bel⟩ => ?_
  subst he
  exact ⟨_, rfl, law_post 4 laidOut (by kernel_rfl) rfl Tryd.underlying4 rfl hW' (fun ds' hl _ => by match ds', hl with | [x0], _ => rfl) bel⟩

theorem over_CodeDecodes : Rows.codeDecodesRow.holds Tryd.pinned (OpenSpec.ofChange Rows.codeDecodesSpec) :=
  OpenClaim.holds_of_wide 3 Tryd.f3 rfl rfl rfl rfl rfl rfl rfl ⟨rfl, rfl, rfl, rfl, rfl⟩ rfl rfl rfl rfl rfl (by kernel_rfl) Tryd.func3 (by kernel_rfl)
    (of_decide_eq_true (by kernel_rfl)) (by unfold Func.isWrapper; first | (rw [if_pos (by decide +kernel)]; kernel_rfl) | (rw [if_neg (by decide +kernel)]; exact ⟨rfl, rfl⟩))
    (fun os started H enc _ => lifted_CodeDecodes os started H enc)

theorem stand_CodeDecodes : ∀ (j : Nat) (t : TypeId), Tryd.f3.params[j]? = some t → Tryd.prog.wantsStandIn t = false := fun j t ht => by
  have hall : (Tryd.f3.params.toList.all fun u => !Tryd.prog.wantsStandIn u) = true := by kernel_rfl
  have hm : t ∈ Tryd.f3.params.toList := Array.mem_toList_iff.2 (Array.mem_of_getElem? ht)
  simpa using List.all_eq_true.1 hall t hm
/-- The given statement. -/
theorem codeDecodes_holds : Rows.CodeDecodesCardSaid :=
  show Claim7.holds Tryd.pinned (.plain (OpenSpec.ofChange Rows.codeDecodesSpec)) Rows.codeDecodesCard from
  Claim7.holds_tied_plain_at .later [] _ true _ false over_CodeDecodes (fun _ h => by cases h) (by kernel_rfl) (fun _ h => by cases h) codeDecodes_row_tie rfl ⟨rfl, rfl⟩ (by kernel_rfl) rfl
    (fun f fn hf hfn => by
      obtain rfl : f = 3 := Option.some.inj ((show Tryd.prog.funcNamed Rows.codeDecodesRow.func = some 3 by kernel_rfl).symm.trans hf) |>.symm
      obtain rfl : fn = Tryd.f3 := (Option.some.inj (Tryd.func3.symm.trans hfn)).symm
      exact ⟨by kernel_rfl, stand_CodeDecodes⟩)
    (by kernel_rfl)

end Go.Proofs.YtfjegckomjpkdaaDoor
