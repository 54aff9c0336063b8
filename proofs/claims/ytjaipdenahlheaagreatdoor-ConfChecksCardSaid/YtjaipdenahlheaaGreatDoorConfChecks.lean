/-
  The law ConfChecks: which confs may be, or what is wrong first, and within what; and their versions (up to 20 names, grants and keys in each list, of up to 100 bytes, and texts of up to 300). Conditions: none but the listed variables.
-/
import Derived.Test.YtjaipdenahlheaaGreatDoorCfO
import Derived.Test.YtjaipdenahlheaaGreatDoorCardC
import Derived.Test.YtjaipdenahlheaaGreatDoorHand
set_option linter.unusedVariables false
set_option linter.unusedSimpArgs false
namespace Go.Proofs.YtjaipdenahlheaaGreatDoor
open Go.ChangeShapes Go.WideShapes Go.ChangeAt Go.RowKit Go.Sort
open Go.ChangeMaps (open_string shut_string)

set_option maxRecDepth 100000 in
theorem lifted_ConfChecks (os : Os) (started : os.Started) (H : Type) (enc : TypeId × Value → H) :
    ReturnsInHanded {} Tryz.checked os 3 .any (fun w args => (Rows.confChecksSpec.pre enc Tryz.prog Tryz.f3 [] false w args ∧ laidMetH Tryz.prog Rows.confChecksRow.laid w) ∧ sizedMet enc Tryz.prog Tryz.f3 (OpenSpec.ofChange Rows.confChecksSpec) false w args)
      (Rows.confChecksSpec.post enc Tryz.prog Tryz.f3 false true false false) := by
  refine returnsInHanded_of_change_and (C := Tryz.checked) (X := fun w _ => laidMetH Tryz.prog Rows.confChecksRow.laid w) (fun _ _ _ hh h => h.of_heap hh) own started (by kernel_rfl) Tryz.func3
    (ChangeSpec.witness_shaped (enc := enc) (C := Tryz.checked) (os := os) (X := fun w _ => laidMetH Tryz.prog Rows.confChecksRow.laid w) false (handWorld os) #[.agg #[.bool false, .string ByteArray.empty, .string ByteArray.empty, .slice none 0 0, .slice none 0 0, .slice none 0 0, .slice none 0 0, .slice none 0 0, .slice none 0 0, .slice none 0 0, .slice none 0 0, .slice none 0 0, .int .i64 0, .slice none 0 0, .int .i64 0, .int .i64 0, .string ByteArray.empty, .slice none 0 0, .bool false, .bool false, .int .u32 0, .int .u32 0, .int .u32 0]] 8 (handWorld_os os)
      (handWorld_shaped os) (by kernel_rfl) (by kernel_rfl) (by kernel_rfl)
      (laidMetH_hand os _)) ?_
  intro W base args ds gs before hval0 hW _ _ hL _
  have hval : ∀ (j : Nat) t v, Tryz.f3.params[j]? = some t → args[j]? = some v → Value.okWide Tryz.prog W .any base t v := hval0
  have hW' := hW
  obtain ⟨p, q, hA0, hV, rfl, hfz, hnd⟩ := hW
  have hA : DataW.TrodAll enc Tryz.prog W 0 (fun _ => true) true Tryz.f3.params.toList args.toList ds p := hA0
  rw [Tryz.params3] at hA hval
  obtain ⟨v0, vs0, d0, ds0, p0, q0, hargs, rfl, rfl, h0, r0⟩ := trodAll_cons hA
  obtain ⟨rfl, rfl, rfl⟩ := trodAll_nil r0
  obtain rfl : args = #[v0] := by cases args; simp_all
  obtain ⟨cs0, rfl, ho0⟩ := open_struct 9 (l := confS) Tryz.underlying30 (by kernel_rfl) (hval 0 30 v0 rfl rfl) h0
  obtain ⟨sv0, ex0, ge0, sw0, cm0, us0, own0, lim0, peer0, qa0, qb0, qc0, cA0, cn0, cc0, cA1, cn1, cc1, cA2, cn2, cc2, cA3, cn3, cc3, cA4, cn4, cc4, cA5, cn5, cc5, cA6, cn6, cc6, cA7, cn7, cc7, cA8, cc8, cA9, cc9, cA10, cc10, cls0, cal0, cgr0, cky0, rfl, hC0, hqa0, hqb0, hqc0⟩ := open_conf ho0
  have hS := hand_split hL
  have hE := hand_of_met hS.2
  have hMe := meth_of (Lib.laidMet.reads hS.1 (by unfold dataL; simp))
  have hWo := word_of (Lib.laidMet.reads hS.1 (by unfold dataL; simp))
  refine (confChecks_any hMe hWo hE hC0 hqa0 hqb0 hqc0).mono fun e W' ⟨he, bel⟩ => ?_
  subst he
  exact ⟨_, rfl, law_post 4 laidOut (by kernel_rfl) rfl Tryz.underlying4 rfl hW' (fun ds' hl _ => by match ds', hl with | [x0], _ => rfl) bel⟩

theorem over_ConfChecks : Rows.confChecksRow.holds Tryz.pinned (OpenSpec.ofChange Rows.confChecksSpec) :=
  OpenClaim.holds_of_wide 3 Tryz.f3 rfl rfl rfl rfl rfl rfl rfl ⟨rfl, rfl, rfl, rfl, rfl⟩ rfl rfl rfl rfl rfl (by kernel_rfl) Tryz.func3 (by kernel_rfl)
    (of_decide_eq_true (by kernel_rfl)) (by unfold Func.isWrapper; first | (rw [if_pos (by decide +kernel)]; kernel_rfl) | (rw [if_neg (by decide +kernel)]; exact ⟨rfl, rfl⟩))
    (fun os started H enc _ => lifted_ConfChecks os started H enc)

theorem stand_ConfChecks : ∀ (j : Nat) (t : TypeId), Tryz.f3.params[j]? = some t → Tryz.prog.wantsStandIn t = false := fun j t ht => by
  have hall : (Tryz.f3.params.toList.all fun u => !Tryz.prog.wantsStandIn u) = true := by kernel_rfl
  have hm : t ∈ Tryz.f3.params.toList := Array.mem_toList_iff.2 (Array.mem_of_getElem? ht)
  simpa using List.all_eq_true.1 hall t hm
/-- The given statement. -/
theorem confChecks_holds : Rows.ConfChecksCardSaid :=
  show Claim7.holds Tryz.pinned (.plain (OpenSpec.ofChange Rows.confChecksSpec)) Rows.confChecksCard from
  Claim7.holds_tied_plain_at .later [] _ true _ true over_ConfChecks (fun _ h => by cases h) (by kernel_rfl) (fun _ h => by cases h) confChecks_row_tie rfl ⟨rfl, rfl⟩ (by kernel_rfl) rfl
    (fun f fn hf hfn => by
      obtain rfl : f = 3 := Option.some.inj ((show Tryz.prog.funcNamed Rows.confChecksRow.func = some 3 by kernel_rfl).symm.trans hf) |>.symm
      obtain rfl : fn = Tryz.f3 := (Option.some.inj (Tryz.func3.symm.trans hfn)).symm
      exact ⟨by kernel_rfl, stand_ConfChecks⟩)
    (by kernel_rfl)

end Go.Proofs.YtjaipdenahlheaaGreatDoor
