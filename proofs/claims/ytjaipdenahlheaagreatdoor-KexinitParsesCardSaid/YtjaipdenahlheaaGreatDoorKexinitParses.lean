/-
  The law KexinitParses: what any payload of up to 2,000 bytes says, built as just this one; or why it says nothing. Conditions: none but the listed variables.
-/
import Derived.Test.YtjaipdenahlheaaGreatDoorKxW
import Derived.Test.YtjaipdenahlheaaGreatDoorCardS
import Derived.Test.YtjaipdenahlheaaGreatDoorHand
set_option linter.unusedVariables false
set_option linter.unusedSimpArgs false
namespace Go.Proofs.YtjaipdenahlheaaGreatDoor
open Go.ChangeShapes Go.WideShapes Go.ChangeAt Go.RowKit Go.Sort
open Go.ChangeMaps (open_string shut_string)

set_option maxRecDepth 100000 in
theorem lifted_KexinitParses (os : Os) (started : os.Started) (H : Type) (enc : TypeId × Value → H) :
    ReturnsInHanded {} Tryz.checked os 5 .any (fun w args => (Rows.kexinitParsesSpec.pre enc Tryz.prog Tryz.f5 [] false w args ∧ laidMetH Tryz.prog Rows.kexinitParsesRow.laid w) ∧ sizedMet enc Tryz.prog Tryz.f5 (OpenSpec.ofChange Rows.kexinitParsesSpec) false w args)
      (Rows.kexinitParsesSpec.post enc Tryz.prog Tryz.f5 false true false false) := by
  refine handed_shaped (C := Tryz.checked) (X := fun w _ => laidMetH Tryz.prog Rows.kexinitParsesRow.laid w) (fun _ _ _ hh h => h.of_heap hh) own started (by kernel_rfl) Tryz.func5
    (ChangeSpec.witness_shaped (enc := enc) (C := Tryz.checked) (os := os) (X := fun w _ => laidMetH Tryz.prog Rows.kexinitParsesRow.laid w) false (handWorld os) #[.string ByteArray.empty] 8 (handWorld_os os)
      (handWorld_shaped os) (by kernel_rfl) (by kernel_rfl) (by kernel_rfl)
      (laidMetH_hand os _)) ?_
  intro W base args ds gs before hval0 hW hL hsh
  have hval : ∀ (j : Nat) t v, Tryz.f5.params[j]? = some t → args[j]? = some v → Value.okWide Tryz.prog W .any base t v := hval0
  have hW' := hW
  obtain ⟨p, q, hA0, hV, rfl, hfz, hnd⟩ := hW
  have hA : DataW.TrodAll enc Tryz.prog W 0 (fun _ => true) true Tryz.f5.params.toList args.toList ds p := hA0
  rw [Tryz.params5] at hA hval
  obtain ⟨v0, vs0, d0, ds0, p0, q0, hargs, rfl, rfl, h0, r0⟩ := trodAll_cons hA
  obtain ⟨rfl, rfl, rfl⟩ := trodAll_nil r0
  obtain rfl : args = #[v0] := by cases args; simp_all
  obtain ⟨s0, rfl, _, _, w0⟩ := open_string Tryz.underlying9 (hval 0 9 v0 rfl rfl) h0
  have hS := hand_split hL
  have hE := hand_of_met hS.2
  have hM := maxL_of hsh
  refine (kexinitParses_any hE hM s0 w0).mono fun e W' ⟨he, bel⟩ => ?_
  subst he
  exact ⟨_, rfl, law_post 4 laidOut (by kernel_rfl) rfl Tryz.underlying4 rfl hW' (fun ds' hl _ => by match ds', hl with | [x0], _ => rfl) bel⟩

theorem over_KexinitParses : Rows.kexinitParsesRow.holds Tryz.pinned (OpenSpec.ofChange Rows.kexinitParsesSpec) :=
  OpenClaim.holds_of_wide 5 Tryz.f5 rfl rfl rfl rfl rfl rfl rfl ⟨rfl, rfl, rfl, rfl, rfl⟩ rfl rfl rfl rfl rfl (by kernel_rfl) Tryz.func5 (by kernel_rfl)
    (of_decide_eq_true (by kernel_rfl)) (by unfold Func.isWrapper; first | (rw [if_pos (by decide +kernel)]; kernel_rfl) | (rw [if_neg (by decide +kernel)]; exact ⟨rfl, rfl⟩))
    (fun os started H enc _ => lifted_KexinitParses os started H enc)

theorem stand_KexinitParses : ∀ (j : Nat) (t : TypeId), Tryz.f5.params[j]? = some t → Tryz.prog.wantsStandIn t = false := fun j t ht => by
  have hall : (Tryz.f5.params.toList.all fun u => !Tryz.prog.wantsStandIn u) = true := by kernel_rfl
  have hm : t ∈ Tryz.f5.params.toList := Array.mem_toList_iff.2 (Array.mem_of_getElem? ht)
  simpa using List.all_eq_true.1 hall t hm
/-- The given statement. -/
theorem kexinitParses_holds : Rows.KexinitParsesCardSaid :=
  show Claim7.holds Tryz.pinned (.plain (OpenSpec.ofChange Rows.kexinitParsesSpec)) Rows.kexinitParsesCard from
  Claim7.holds_tied_plain_at .later [] _ true _ true over_KexinitParses (fun _ h => by cases h) (by kernel_rfl) (fun _ h => by cases h) kexinitParses_row_tie rfl ⟨rfl, rfl⟩ (by kernel_rfl) rfl
    (fun f fn hf hfn => by
      obtain rfl : f = 5 := Option.some.inj ((show Tryz.prog.funcNamed Rows.kexinitParsesRow.func = some 5 by kernel_rfl).symm.trans hf) |>.symm
      obtain rfl : fn = Tryz.f5 := (Option.some.inj (Tryz.func5.symm.trans hfn)).symm
      exact ⟨by kernel_rfl, stand_KexinitParses⟩)
    (by kernel_rfl)

end Go.Proofs.YtjaipdenahlheaaGreatDoor
