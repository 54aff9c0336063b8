/-
  The law OrderJudges: the verdict on any message, in any phase, to client or server, in the first exchange or in others, is the reference's. Conditions: none.
-/
import Derived.Test.YtcblomlmabhgeaaOrderLaw
import Derived.Test.YtcblomlmabhgeaaLaw
namespace Go.Proofs.Ytcblomlmabhgeaa
open Go.ChangeShapes Go.WideShapes Go.ChangeAt Go.RowKit
open Go.ChangeMaps (open_string shut_string)

theorem awake23 (w : World) : Calls Try.prog 13 #[] w fun e w' => e = .returned (.bool true) ∧ Below w.heap.size w w' := by
  have H1 := hide (show judge 2 true true 2 = 0 by decide)
  have H2 := hide (show judge 2 false true 2 = 2 by decide)
  have H3 := hide (show judge 2 true true 30 = 1 by decide)
  go_enter Try.func13, Try.ntmps13
  go_wp2_with (go_at_call 14; refine (judge_any _ _ _ _ _).mono ?_; rintro e w1 ⟨rfl, hb⟩; first | rw [H1.out] | rw [H2.out] | rw [H3.out])
  go_ret
  refine ⟨rfl, ?_⟩
  (repeat (first | exact Below.refl _ _ | refine below_drewN ?_ _ | refine Below.drew ?_ | refine Below.alloc ?_ (by first | omega | (simp; done) | (simp; omega)) _ | refine Below.setCell ?_ (by first | omega | (simp; done) | (simp; omega)) _ | refine bel_trans ?_ (by assumption) | refine Below.trans ?_ (Below.mono (by assumption) (by first | omega | (simp; done) | (simp; omega)))))
set_option maxHeartbeats 400000 in
theorem orderJudges_any (p n : Int) (f s : Bool) (w : World) :
    Calls Try.prog 4 #[.int .i64 p, .int .i64 n, .agg #[.bool f, .bool s]] w fun e w' => e = .returned (.bool true) ∧ Below w.heap.size w w' := by
  have Hj := hide (judge_eq p n f s)
  go_enter Try.func4, Try.ntmps4
  go_wp2
  go_quiet (fail)
  go_wp2_with (first
    | (go_at_call 13; refine (awake23 _).mono ?_; rintro e w1 ⟨rfl, hb1⟩)
    | (go_at_call 14; refine (judge_any _ _ _ _ _).mono ?_; rintro e w2 ⟨rfl, hb2⟩; rw [Hj.out])
    | (go_at_call 15; refine (rjudge_any _ _ _ _ _).mono ?_; rintro e w3 ⟨rfl, hb3⟩))
  go_ret
  refine ⟨rfl, ?_⟩
  (repeat (first | exact Below.refl _ _ | refine below_drewN ?_ _ | refine Below.drew ?_ | refine Below.alloc ?_ (by first | omega | (simp; done) | (simp; omega)) _ | refine Below.setCell ?_ (by first | omega | (simp; done) | (simp; omega)) _ | refine bel_trans ?_ (by assumption) | refine Below.trans ?_ (Below.mono (by assumption) (by first | omega | (simp; done) | (simp; omega)))))

set_option maxRecDepth 100000 in
theorem lifted_OrderJudges (os : Os) (started : os.Started) (H : Type) (enc : TypeId × Value → H) :
    ReturnsInHanded {} Try.checked os 4 .any (Rows.orderJudgesSpec.pre6 enc Try.prog Try.f4 Rows.orderJudgesRow.domain false) (Rows.orderJudgesSpec.post enc Try.prog Try.f4 false true false false) := by
  refine returnsInHanded_of_change_shaped (C := Try.checked) own started (by kernel_rfl) Try.func4
    (ChangeSpec.witness6 (enc := enc) (C := Try.checked) false ⟨#[], #[.int .i64 0, .int .i64 0, .agg #[.bool false, .bool false]], []⟩ 8 (by kernel_rfl) (by kernel_rfl) (by kernel_rfl) (by kernel_rfl)) ?_
  intro W base args ds gs before hval0 hW hcnd hsz hsh _
  have hval : ∀ (j : Nat) t v, Try.f4.params[j]? = some t → args[j]? = some v → Value.okWide Try.prog W .any base t v := hval0
  have hW' := hW
  obtain ⟨p, q, hA0, hV, rfl, hfz, hnd⟩ := hW
  have hA : DataW.TrodAll enc Try.prog W 0 (fun _ => true) true Try.f4.params.toList args.toList ds p := hA0
  rw [Try.params4] at hA hval
  obtain ⟨v0, vs0, d0, ds0, p0, q0, hargs, rfl, rfl, h0, r0⟩ := trodAll_cons hA
  obtain ⟨v1, vs1, d1, ds1, p1, q1, rfl, rfl, rfl, h1, r1⟩ := trodAll_cons r0
  obtain ⟨v2, vs2, d2, ds2, p2, q2, rfl, rfl, rfl, h2, r2⟩ := trodAll_cons r1
  obtain ⟨rfl, rfl, rfl⟩ := trodAll_nil r2
  obtain rfl : args = #[v0, v1, v2] := by cases args; simp_all
  obtain ⟨a0, rfl, _, _, w0⟩ := open_int Try.underlying3 (hval 0 3 v0 rfl rfl) h0
  obtain ⟨a1, rfl, _, _, w1⟩ := open_int Try.underlying3 (hval 1 3 v1 rfl rfl) h1
  obtain ⟨l2, hl2, hv2⟩ := open_arr_bool Try.underlying28 Try.underlying4 (by kernel_rfl) (by kernel_rfl) (hval 2 28 v2 rfl rfl) h2
  match l2, hl2 with
  | [b0, b1], _ =>
  simp only [List.map_cons, List.map_nil] at hv2
  subst hv2
  refine (orderJudges_any a0 a1 b0 b1 W).mono fun e W' ⟨he, bel⟩ => ?_
  subst he
  exact ⟨_, rfl, law_post 4 laidOut (by kernel_rfl) rfl Try.underlying4 rfl hW' (fun ds' hl _ => by match ds', hl with | [x0, x1, x2], _ => rfl) bel⟩

theorem over_OrderJudges : Rows.orderJudgesRow.holds Try.pinned (OpenSpec.ofChange Rows.orderJudgesSpec) :=
  OpenClaim.holds_of_wide 4 Try.f4 rfl rfl rfl rfl rfl rfl rfl ⟨rfl, rfl, rfl, rfl, rfl⟩ rfl rfl rfl rfl rfl (by kernel_rfl) Try.func4 (by kernel_rfl)
    (of_decide_eq_true (by kernel_rfl)) (by unfold Func.isWrapper; first | (rw [if_pos (by decide +kernel)]; kernel_rfl) | (rw [if_neg (by decide +kernel)]; exact ⟨rfl, rfl⟩))
    (fun os started H enc _ => lifted_OrderJudges os started H enc)

/-- The given statement. -/
theorem orderJudges_holds : Rows.OrderJudgesSaid := over_OrderJudges

#print axioms orderJudges_holds
end Go.Proofs.Ytcblomlmabhgeaa
