/-
  The law CodeApart: no term's bytes are the beginning of another one's. Conditions: none but the listed variables.
-/
import Derived.Test.YtfjegckomjpkdaaGreatDoorApt02
import Derived.Test.YtfjegckomjpkdaaGreatDoorCodeEncodes
set_option linter.unusedVariables false
set_option linter.unusedSimpArgs false
namespace Go.Proofs.YtfjegckomjpkdaaGreatDoor
open Go.ChangeShapes Go.WideShapes Go.ChangeAt Go.RowKit Go.Sort
open Go.ChangeMaps (open_string shut_string)
section
variable {w : World}
set_option maxHeartbeats 2000000 in
set_option maxRecDepth 100000 in
/-- Where one of the tests ahead fails. -/
theorem aparts_early (hT : Tab w) {A : Option Addr} {c : Nat} {l : List Mk} (hl : Mks w.heap.size w A l) (kk : Int) (more : ByteArray) (hm : more.size ≤ maxLen)
    (hc : fewB l 20 = false ∨ (fewB l 20 = true ∧ (more.size : Int) < 1) ∨ (fewB l 20 = true ∧ ¬ (more.size : Int) < 1 ∧ (100 : Int) < more.size) ∨ (fewB l 20 = true ∧ ¬ (more.size : Int) < 1 ∧ ¬ (100 : Int) < more.size ∧ kk < 0) ∨ (fewB l 20 = true ∧ ¬ (more.size : Int) < 1 ∧ ¬ (100 : Int) < more.size ∧ ¬ kk < 0 ∧ (l.length : Int) ≤ kk)) :
    Calls Tryz.prog 4 #[.slice A l.length c, .int .i64 kk, .string more] w (fun e w' => e = .returned (.bool true) ∧ Below w.heap.size w w') := by
  unfold maxLen at hm
  have HF := hide (few02_all (c := c) (hl.outs (Outs.of_below (R := fun _ => False) (Below.refl _ _)) (fun i h => h.elim)) 20 (by decide))
  have HA := hide (awake02_any hT)
  clear hl hT
  rcases hc with h1 | ⟨h1, h2⟩ | ⟨h1, h2, h3⟩ | ⟨h1, h2, h3, h4⟩ | ⟨h1, h2, h3, h4, h5⟩
  all_goals rw [h1] at HF
  all_goals clear h1
  all_goals go_enter Tryz.func4, Tryz.ntmps4
  all_goals go_wp2_with (first
    | (go_at_call 11; refine HF.out.mono ?_; rintro e w1 ⟨rfl, rfl⟩)
    | (go_at_call 12; refine HA.out.mono ?_; rintro e w3 ⟨rfl, hb3⟩)
    | fail)
  all_goals go_ret
  all_goals exact ⟨rfl, hb3⟩
theorem apartsLaw_any (hT : Tab w) {A : Option Addr} {c : Nat} {l : List Mk} (hl : Mks w.heap.size w A l) (kk : Int) (more : ByteArray) (hm : more.size ≤ maxLen) :
    Calls Tryz.prog 4 #[.slice A l.length c, .int .i64 kk, .string more] w (fun e w' => e = .returned (.bool true) ∧ Below w.heap.size w w') := by
  cases hf : fewB l 20 with
  | false => exact aparts_early hT hl kk more hm (.inl hf)
  | true =>
    by_cases h2 : (more.size : Int) < 1
    · exact aparts_early hT hl kk more hm (.inr (.inl ⟨hf, h2⟩))
    · by_cases h3 : (100 : Int) < more.size
      · exact aparts_early hT hl kk more hm (.inr (.inr (.inl ⟨hf, h2, h3⟩)))
      · by_cases h4 : kk < 0
        · exact aparts_early hT hl kk more hm (.inr (.inr (.inr (.inl ⟨hf, h2, h3, h4⟩))))
        · by_cases h5 : (l.length : Int) ≤ kk
          · exact aparts_early hT hl kk more hm (.inr (.inr (.inr (.inr ⟨hf, h2, h3, h4, h5⟩))))
          · obtain ⟨h6, h7⟩ := few02_open hf
            obtain ⟨k, rfl⟩ : ∃ k : Nat, kk = k := ⟨kk.toNat, by omega⟩
            exact aparts_any hT hl hf (by omega) (fun y hy => by have := h7 y hy; omega) k (by omega) more (by omega) (by omega)
end

set_option maxRecDepth 100000 in
theorem lifted_CodeApart (os : Os) (started : os.Started) (H : Type) (enc : TypeId × Value → H) :
    ReturnsInHanded {} Tryz.checked os 4 .any (fun w args => (Rows.codeApartSpec.pre enc Tryz.prog Tryz.f4 [] false w args ∧ laidMetH Tryz.prog Rows.codeApartRow.laid w) ∧ sizedMet enc Tryz.prog Tryz.f4 (OpenSpec.ofChange Rows.codeApartSpec) false w args)
      (Rows.codeApartSpec.post enc Tryz.prog Tryz.f4 false true false false) := by
  refine returnsInHanded_of_change_and (C := Tryz.checked) (X := fun w _ => laidMetH Tryz.prog Rows.codeApartRow.laid w) (fun _ _ _ hh h => h.of_heap hh) own started (by kernel_rfl) Tryz.func4
    (ChangeSpec.witness_shaped (enc := enc) (C := Tryz.checked) (os := os) (X := fun w _ => laidMetH Tryz.prog Rows.codeApartRow.laid w) false (World.laidAll Tryz.prog os Rows.codeApartRow.laid) #[.slice none 0 0, .int .i64 0, .string ByteArray.empty] 8 (World.laidAll_os _ _ _)
      (World.shaped_of_ZipB (by kernel_rfl) (by kernel_rfl)) (by kernel_rfl) (by kernel_rfl) (by kernel_rfl)
      (by rw [MakeChecks.laidMetH_plain _ _ _ (by kernel_rfl)]; exact laidMet_laidAll _ (by kernel_rfl) (by kernel_rfl))) ?_
  intro W base args ds gs before hval0 hW _ _ hL _
  have hval : ∀ (j : Nat) t v, Tryz.f4.params[j]? = some t → args[j]? = some v → Value.okWide Tryz.prog W .any base t v := hval0
  have hW' := hW
  obtain ⟨p, q, hA0, hV, rfl, hfz, hnd⟩ := hW
  have hA : DataW.TrodAll enc Tryz.prog W 0 (fun _ => true) true Tryz.f4.params.toList args.toList ds p := hA0
  rw [Tryz.params4] at hA hval
  obtain ⟨v0, vs0, d0, ds0, p0, q0, hargs, rfl, rfl, h0, r0⟩ := trodAll_cons hA
  obtain ⟨v1, vs1, d1, ds1, p1, q1, rfl, rfl, rfl, h1, r1⟩ := trodAll_cons r0
  obtain ⟨v2, vs2, d2, ds2, p2, q2, rfl, rfl, rfl, h2, r2⟩ := trodAll_cons r1
  obtain ⟨rfl, rfl, rfl⟩ := trodAll_nil r2
  obtain rfl : args = #[v0, v1, v2] := by cases args; simp_all
  obtain ⟨A0, c0, l0, rfl, hl0, hm0⟩ := open_makes (open_slice 6 (l := mkS) Tryz.underlying22 (by kernel_rfl) (hval 0 22 v0 rfl rfl) h0)
  obtain ⟨n1, rfl, _, _, w1⟩ := open_int Tryz.underlying3 (hval 1 3 v1 rfl rfl) h1
  obtain ⟨s2, rfl, _, _, w2⟩ := open_string Tryz.underlying9 (hval 2 9 v2 rfl rfl) h2
  rw [MakeChecks.laidMetH_plain _ _ _ (by kernel_rfl)] at hL
  have hT := tab_of_laid hL
  refine (apartsLaw_any hT hm0 n1 s2 w2).mono fun e W' ⟨he, bel⟩ => ?_
  subst he
  exact ⟨_, rfl, law_post 4 laidOut (by kernel_rfl) rfl Tryz.underlying4 rfl hW' (fun ds' hl _ => by match ds', hl with | [x0, x1, x2], _ => rfl) bel⟩

theorem over_CodeApart : Rows.codeApartRow.holds Tryz.pinned (OpenSpec.ofChange Rows.codeApartSpec) :=
  OpenClaim.holds_of_wide 4 Tryz.f4 rfl rfl rfl rfl rfl rfl rfl ⟨rfl, rfl, rfl, rfl, rfl⟩ rfl rfl rfl rfl rfl (by kernel_rfl) Tryz.func4 (by kernel_rfl)
    (of_decide_eq_true (by kernel_rfl)) (by unfold Func.isWrapper; first | (rw [if_pos (by decide +kernel)]; kernel_rfl) | (rw [if_neg (by decide +kernel)]; exact ⟨rfl, rfl⟩))
    (fun os started H enc _ => lifted_CodeApart os started H enc)

theorem stand_CodeApart : ∀ (j : Nat) (t : TypeId), Tryz.f4.params[j]? = some t → Tryz.prog.wantsStandIn t = false := fun j t ht => by
  have hall : (Tryz.f4.params.toList.all fun u => !Tryz.prog.wantsStandIn u) = true := by kernel_rfl
  have hm : t ∈ Tryz.f4.params.toList := Array.mem_toList_iff.2 (Array.mem_of_getElem? ht)
  simpa using List.all_eq_true.1 hall t hm
/-- The given statement. -/
theorem codeApart_holds : Rows.CodeApartCardSaid :=
  show Claim7.holds Tryz.pinned (.plain (OpenSpec.ofChange Rows.codeApartSpec)) Rows.codeApartCard from
  Claim7.holds_tied_plain_at .later [] _ true _ true over_CodeApart (fun _ h => by cases h) (by kernel_rfl) (fun _ h => by cases h) codeApart_row_tie rfl ⟨rfl, rfl⟩ (by kernel_rfl) rfl
    (fun f fn hf hfn => by
      obtain rfl : f = 4 := Option.some.inj ((show Tryz.prog.funcNamed Rows.codeApartRow.func = some 4 by kernel_rfl).symm.trans hf) |>.symm
      obtain rfl : fn = Tryz.f4 := (Option.some.inj (Tryz.func4.symm.trans hfn)).symm
      exact ⟨by kernel_rfl, stand_CodeApart⟩)
    (by kernel_rfl)

end Go.Proofs.YtfjegckomjpkdaaGreatDoor
