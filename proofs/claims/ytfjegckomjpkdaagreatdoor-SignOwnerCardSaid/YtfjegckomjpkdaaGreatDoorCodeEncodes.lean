/-
  The law CodeEncodes: the bytes of any term, decoded as it was, in its arena and in another one. Conditions: none but the listed variables.
-/
import Derived.Test.YtfjegckomjpkdaaGreatDoorEnc02
import Derived.Test.YtfjegckomjpkdaaGreatDoorCard
set_option linter.unusedVariables false
set_option linter.unusedSimpArgs false
namespace Go.Proofs.YtfjegckomjpkdaaGreatDoor
open Go.ChangeShapes Go.WideShapes Go.ChangeAt Go.RowKit Go.Sort
open Go.ChangeMaps (open_string shut_string)
section
variable {w : World}
theorem few02_long {A : Option Addr} {c n : Nat} (k : Int) (h : k < (n : Int)) : Calls Tryz.prog 11 #[.slice A n c, .int .i64 k] w (fun e w' => e = .returned (.bool false) ∧ w' = w) := by
  go_enter Tryz.func11, Tryz.ntmps11
  go_wp2
  go_ret
  exact ⟨rfl, rfl⟩
theorem few02_all {B : Nat} {A : Option Addr} {c : Nat} {l : List Mk} (hl : Mks B w A l) (k : Int) (hk : k ≤ 1000000) : Calls Tryz.prog 11 #[.slice A l.length c, .int .i64 k] w (fun e w' => e = .returned (.bool (fewB l k)) ∧ w' = w) := by
  by_cases h : k < (l.length : Int)
  · rw [fewB_long h]
    exact few02_long k h
  · exact few_any hl (by omega) k
set_option maxHeartbeats 1000000 in
set_option maxRecDepth 100000 in
theorem encodesLaw_any (hT : Tab w) {A : Option Addr} {c : Nat} {l : List Mk} (hl : Mks w.heap.size w A l) (k : Int) (hw : (Lit.int .u32 k).wf = true) :
    Calls Tryz.prog 3 #[.slice A l.length c, .int .u32 k] w (fun e w' => e = .returned (.bool true) ∧ Below w.heap.size w w') := by
  obtain ⟨k, rfl, hk⟩ := wf_u32 hw
  cases hf : fewB l 30 with
  | true =>
    obtain ⟨h1, h2⟩ := few02_open hf
    exact encodes_any hT hl hf (by omega) (fun y hy => by have := h2 y hy; omega) k hk
  | false =>
    have HF := hide (few02_all (c := c) (hl.outs (Outs.of_below (R := fun _ => False) (Below.refl _ _)) (fun i h => h.elim)) 30 (by decide))
    rw [hf] at HF
    have HA := hide (awake02_any hT)
    clear hl hf hT
    go_enter Tryz.func3, Tryz.ntmps3
    go_wp2_with (first
      | (go_at_call 11; refine HF.out.mono ?_; rintro e w1 ⟨rfl, rfl⟩)
      | (go_at_call 12; refine HA.out.mono ?_; rintro e w3 ⟨rfl, hb3⟩)
      | fail)
    go_ret
    exact ⟨rfl, hb3⟩
end

set_option maxRecDepth 100000 in
theorem lifted_CodeEncodes (os : Os) (started : os.Started) (H : Type) (enc : TypeId × Value → H) :
    ReturnsInHanded {} Tryz.checked os 3 .any (fun w args => (Rows.codeEncodesSpec.pre enc Tryz.prog Tryz.f3 [] false w args ∧ laidMetH Tryz.prog Rows.codeEncodesRow.laid w) ∧ sizedMet enc Tryz.prog Tryz.f3 (OpenSpec.ofChange Rows.codeEncodesSpec) false w args)
      (Rows.codeEncodesSpec.post enc Tryz.prog Tryz.f3 false true false false) := by
  refine returnsInHanded_of_change_and (C := Tryz.checked) (X := fun w _ => laidMetH Tryz.prog Rows.codeEncodesRow.laid w) (fun _ _ _ hh h => h.of_heap hh) own started (by kernel_rfl) Tryz.func3
    (ChangeSpec.witness_shaped (enc := enc) (C := Tryz.checked) (os := os) (X := fun w _ => laidMetH Tryz.prog Rows.codeEncodesRow.laid w) false (World.laidAll Tryz.prog os Rows.codeEncodesRow.laid) #[.slice none 0 0, .int .u32 0] 8 (World.laidAll_os _ _ _)
      (World.shaped_of_ZipB (by kernel_rfl) (by kernel_rfl)) (by kernel_rfl) (by kernel_rfl) (by kernel_rfl)
      (by rw [MakeChecks.laidMetH_plain _ _ _ (by kernel_rfl)]; exact laidMet_laidAll _ (by kernel_rfl) (by kernel_rfl))) ?_
  intro W base args ds gs before hval0 hW _ _ hL _
  have hval : ∀ (j : Nat) t v, Tryz.f3.params[j]? = some t → args[j]? = some v → Value.okWide Tryz.prog W .any base t v := hval0
  have hW' := hW
  obtain ⟨p, q, hA0, hV, rfl, hfz, hnd⟩ := hW
  have hA : DataW.TrodAll enc Tryz.prog W 0 (fun _ => true) true Tryz.f3.params.toList args.toList ds p := hA0
  rw [Tryz.params3] at hA hval
  obtain ⟨v0, vs0, d0, ds0, p0, q0, hargs, rfl, rfl, h0, r0⟩ := trodAll_cons hA
  obtain ⟨v1, vs1, d1, ds1, p1, q1, rfl, rfl, rfl, h1, r1⟩ := trodAll_cons r0
  obtain ⟨rfl, rfl, rfl⟩ := trodAll_nil r1
  obtain rfl : args = #[v0, v1] := by cases args; simp_all
  obtain ⟨A0, c0, l0, rfl, hl0, hm0⟩ := open_makes (open_slice 6 (l := mkS) Tryz.underlying22 (by kernel_rfl) (hval 0 22 v0 rfl rfl) h0)
  obtain ⟨n1, rfl, _, _, w1⟩ := open_int Tryz.underlying23 (hval 1 23 v1 rfl rfl) h1
  rw [MakeChecks.laidMetH_plain _ _ _ (by kernel_rfl)] at hL
  have hT := tab_of_laid hL
  refine (encodesLaw_any hT hm0 n1 w1).mono fun e W' ⟨he, bel⟩ => ?_
  subst he
  exact ⟨_, rfl, law_post 4 laidOut (by kernel_rfl) rfl Tryz.underlying4 rfl hW' (fun ds' hl _ => by match ds', hl with | [x0, x1], _ => rfl) bel⟩

theorem over_CodeEncodes : Rows.codeEncodesRow.holds Tryz.pinned (OpenSpec.ofChange Rows.codeEncodesSpec) :=
  OpenClaim.holds_of_wide 3 Tryz.f3 rfl rfl rfl rfl rfl rfl rfl ⟨rfl, rfl, rfl, rfl, rfl⟩ rfl rfl rfl rfl rfl (by kernel_rfl) Tryz.func3 (by kernel_rfl)
    (of_decide_eq_true (by kernel_rfl)) (by unfold Func.isWrapper; first | (rw [if_pos (by decide +kernel)]; kernel_rfl) | (rw [if_neg (by decide +kernel)]; exact ⟨rfl, rfl⟩))
    (fun os started H enc _ => lifted_CodeEncodes os started H enc)

theorem stand_CodeEncodes : ∀ (j : Nat) (t : TypeId), Tryz.f3.params[j]? = some t → Tryz.prog.wantsStandIn t = false := fun j t ht => by
  have hall : (Tryz.f3.params.toList.all fun u => !Tryz.prog.wantsStandIn u) = true := by kernel_rfl
  have hm : t ∈ Tryz.f3.params.toList := Array.mem_toList_iff.2 (Array.mem_of_getElem? ht)
  simpa using List.all_eq_true.1 hall t hm
/-- The given statement. -/
theorem codeEncodes_holds : Rows.CodeEncodesCardSaid :=
  show Claim7.holds Tryz.pinned (.plain (OpenSpec.ofChange Rows.codeEncodesSpec)) Rows.codeEncodesCard from
  Claim7.holds_tied_plain_at .later [] _ true _ true over_CodeEncodes (fun _ h => by cases h) (by kernel_rfl) (fun _ h => by cases h) codeEncodes_row_tie rfl ⟨rfl, rfl⟩ (by kernel_rfl) rfl
    (fun f fn hf hfn => by
      obtain rfl : f = 3 := Option.some.inj ((show Tryz.prog.funcNamed Rows.codeEncodesRow.func = some 3 by kernel_rfl).symm.trans hf) |>.symm
      obtain rfl : fn = Tryz.f3 := (Option.some.inj (Tryz.func3.symm.trans hfn)).symm
      exact ⟨by kernel_rfl, stand_CodeEncodes⟩)
    (by kernel_rfl)

end Go.Proofs.YtfjegckomjpkdaaGreatDoor
