/-
  The law SchemaApart: no two forms of a number have as many values, and each is found by how many it has. Conditions: none.
-/
import Derived.Test.YtcblomlmabhgeaaSchemaFit
import Derived.Test.YtcblomlmabhgeaaLaw
namespace Go.Proofs.Ytcblomlmabhgeaa
open Go.ChangeShapes Go.WideShapes Go.ChangeAt Go.RowKit
open Go.ChangeMaps (open_string shut_string)

theorem awake06 (w : World) : Calls Try.prog 12 #[] w fun e w' => e = .returned (.bool true) ∧ Below w.heap.size w w' := by
  have hf : fit 31 2 = (⟨#[109, 109]⟩, true) := by decide
  have Hf := hide hf
  clear hf
  go_enter Try.func12, Try.ntmps12
  go_wp2_with (go_at_call 11; refine (fit_any _ _ _).mono ?_; rw [Hf.out]; rintro e w1 ⟨rfl, hb⟩)
  go_ret
  exact ⟨rfl, hb⟩

set_option maxHeartbeats 400000 in
theorem schemaApart_any (n : Int) (w : World) :
    Calls Try.prog 3 #[.int .i64 n] w fun e w' => e = .returned (.bool true) ∧ Below w.heap.size w w' := by
  have hl := forms_len n
  go_enter Try.func3, Try.ntmps3
  go_wp2_with (go_at_call 10; refine (forms_any _ _).mono ?_; rintro e w1 ⟨v, rfl, ⟨A, c, rfl, hr⟩, hb⟩)
  go_loopw [4] (fun i wr => ∃ k : Nat, k ≤ (forms n).length ∧ i = .int .i64 k ∧ Below w.heap.size w wr ∧ Sl w.heap.size wr 1 A (forms n).length ((forms n).map Value.string)) (fun i _ => (forms n).length - (intOf i).toNat)
  case atStart => exact ⟨0, Nat.zero_le _, rfl, hb, hr⟩
  case round =>
    obtain ⟨i, hk, rfl, hbr, hrr⟩ := hrel
    by_cases hlt : i < (forms n).length
    · obtain ⟨ad, rfl, hlo, hc⟩ := hrr.str hlt
      have Hf := hide (fit_own n hlt)
      have Hn := hide (fun k (hk : k < i) => forms_ne n hk hlt)
      generalize hs : (forms n)[i] = s at hc Hf Hn
      have Hs := hide hs
      clear hs
      go_wp2_with (go_at_call 11; refine (fit_any _ _ _).mono ?_; rw [Hf.out]; rintro e w2 ⟨rfl, hb2⟩; have hc2 := cellAdd hb2 hlo hc)
      go_loopw [7] (fun j wv => ∃ k : Nat, k ≤ i ∧ j = .int .i64 k ∧ Below wr.heap.size wr wv) (fun j _ => i - (intOf j).toNat)
      case atStart => exact ⟨0, Nat.zero_le _, rfl, hb2⟩
      case round =>
        obtain ⟨k, hki, rfl, hbv⟩ := hrel
        by_cases hkl : k < i
        · have hcv := cellAdd hbv hlo hc
          obtain ⟨ad', hA', hlo', hck⟩ := hrr.str (Nat.lt_trans hkl hlt)
          cases hA'
          have hckv := cellAdd hbv hlo' hck
          have hne := Hn.out k hkl
          generalize (forms n)[k] = s' at hck hckv hne
          go_wp2
          go_quiet (fail)
          go_wp2
          go_roundw
          case rel => exact ⟨k + 1, by omega, by go_num, below_drewN hbv _⟩
          case measure => simp [intOf]; omega
        · go_wp2
          go_roundw
          case rel => exact ⟨i + 1, hlt, by go_num, hbr.trans (hbv.mono hbr.size), hrr.below hbv⟩
          case measure => simp [intOf]; omega
    · go_wp2_with (go_at_call 12; refine (awake06 _).mono ?_; rintro e w2 ⟨rfl, hb2⟩)
      go_ret
      exact ⟨rfl, hbr.trans (hb2.mono hbr.size)⟩

set_option maxRecDepth 100000 in
theorem lifted_SchemaApart (os : Os) (started : os.Started) (H : Type) (enc : TypeId × Value → H) :
    ReturnsInHanded {} Try.checked os 3 .any (Rows.schemaApartSpec.pre6 enc Try.prog Try.f3 Rows.schemaApartRow.domain false) (Rows.schemaApartSpec.post enc Try.prog Try.f3 false true false false) := by
  refine returnsInHanded_of_change_shaped (C := Try.checked) own started (by kernel_rfl) Try.func3
    (ChangeSpec.witness6 (enc := enc) (C := Try.checked) false ⟨#[], #[.int .i64 0], []⟩ 8 (by kernel_rfl) (by kernel_rfl) (by kernel_rfl) (by kernel_rfl)) ?_
  intro W base args ds gs before hval0 hW hcnd hsz hsh _
  have hval : ∀ (j : Nat) t v, Try.f3.params[j]? = some t → args[j]? = some v → Value.okWide Try.prog W .any base t v := hval0
  have hW' := hW
  obtain ⟨p, q, hA0, hV, rfl, hfz, hnd⟩ := hW
  have hA : DataW.TrodAll enc Try.prog W 0 (fun _ => true) true Try.f3.params.toList args.toList ds p := hA0
  rw [Try.params3] at hA hval
  obtain ⟨v0, vs0, d0, ds0, p0, q0, hargs, rfl, rfl, h0, r0⟩ := trodAll_cons hA
  obtain ⟨rfl, rfl, rfl⟩ := trodAll_nil r0
  obtain rfl : args = #[v0] := by cases args; simp_all
  obtain ⟨a0, rfl, _, _, w0⟩ := open_int Try.underlying3 (hval 0 3 v0 rfl rfl) h0
  refine (schemaApart_any a0 W).mono fun e W' ⟨he, bel⟩ => ?_
  subst he
  exact ⟨_, rfl, law_post 4 laidOut (by kernel_rfl) rfl Try.underlying4 rfl hW' (fun ds' hl _ => by match ds', hl with | [x0], _ => rfl) bel⟩

theorem over_SchemaApart : Rows.schemaApartRow.holds Try.pinned (OpenSpec.ofChange Rows.schemaApartSpec) :=
  OpenClaim.holds_of_wide 3 Try.f3 rfl rfl rfl rfl rfl rfl rfl ⟨rfl, rfl, rfl, rfl, rfl⟩ rfl rfl rfl rfl rfl (by kernel_rfl) Try.func3 (by kernel_rfl)
    (of_decide_eq_true (by kernel_rfl)) (by unfold Func.isWrapper; first | (rw [if_pos (by decide +kernel)]; kernel_rfl) | (rw [if_neg (by decide +kernel)]; exact ⟨rfl, rfl⟩))
    (fun os started H enc _ => lifted_SchemaApart os started H enc)

/-- The given statement. -/
theorem schemaApart_holds : Rows.SchemaApartSaid := over_SchemaApart

#print axioms schemaApart_holds
end Go.Proofs.Ytcblomlmabhgeaa
