/-
  The laws OrderStrict and OrderSides: in the first exchange nothing is let go; outside exchanges no message but 20 is taken by both sides. Conditions: none.
-/
import Derived.Test.YtcblomlmabhgeaaOrderJudges
namespace Go.Proofs.Ytcblomlmabhgeaa
open Go.ChangeShapes Go.WideShapes Go.ChangeAt Go.RowKit
open Go.ChangeMaps (open_string shut_string)

theorem judge_first (p o n : Int) (s : Bool) (hp : p ≠ 4) (ho : o ≠ 4) : judge p true (!s) n = judge p true s n ∧
    (judge p true s n = 0 ∨ (judge p true s n = 4 ∧ n = 1) ∨ (judge p true s n = 1 ∧ 20 ≤ n ∧ n ≤ 49 ∧ (judge o true s n = 1 → p = o))) := by
  have hw : ∀ q, within q true n = 1 ∨ within q true n = 0 := by
    intro q
    unfold within
    split
    · exact .inl rfl
    · simp
  have hj : ∀ q, q ≠ 4 → ∀ t, judge q true t n = (if n < 0 ∨ 255 < n then 0 else if q = 1 ∨ q = 2 ∨ q = 3 then (if n = 1 then 4 else within q true n) else 0) := by
    intro q hq t
    unfold judge
    rw [if_neg hq]
  have hin : ∀ q, within q true n = 1 → (q = 1 ∧ n = 20) ∨ (q = 2 ∧ 30 ≤ n ∧ n ≤ 49) ∨ (q = 3 ∧ n = 21) := by
    intro q h
    unfold within ofKex at h
    split at h
    · rename_i hc
      simpa using hc
    · split at h <;> omega
  refine ⟨by rw [hj p hp, hj p hp], ?_⟩
  rw [hj p hp, hj o ho]
  by_cases h1 : n < 0 ∨ 255 < n
  · simp [h1]
  rw [if_neg h1]
  by_cases h2 : p = 1 ∨ p = 2 ∨ p = 3
  · rw [if_pos h2]
    by_cases h3 : n = 1
    · simp [h3]
    · rw [if_neg h3, if_neg h1, if_neg h3]
      rcases hw p with h4 | h4
      · have h5 := hin p h4
        refine .inr (.inr ⟨h4, by omega, by omega, fun h6 => ?_⟩)
        by_cases h7 : o = 1 ∨ o = 2 ∨ o = 3
        · rw [if_pos h7] at h6
          have h8 := hin o h6
          omega
        · rw [if_neg h7] at h6
          cases h6
      · exact .inl h4
  · rw [if_neg h2]
    exact .inl rfl
set_option maxHeartbeats 1000000 in
theorem orderStrict_any (p o n : Int) (s : Bool) (w : World) :
    Calls Try.prog 5 #[.agg #[.int .i64 p, .int .i64 o, .int .i64 n], .bool s] w fun e w' => e = .returned (.bool true) ∧ Below w.heap.size w w' := by
  by_cases hp : p = 4
  · go_enter Try.func5, Try.ntmps5
    go_wp2
    go_quiet (fail)
    go_wp2_with (go_at_call 13; refine (awake23 _).mono ?_; rintro e w1 ⟨rfl, hb1⟩)
    go_ret
    refine ⟨rfl, ?_⟩
    (repeat (first | exact Below.refl _ _ | refine below_drewN ?_ _ | refine Below.drew ?_ | refine Below.alloc ?_ (by first | omega | (simp; done) | (simp; omega)) _ | refine Below.setCell ?_ (by first | omega | (simp; done) | (simp; omega)) _ | refine bel_trans ?_ (by assumption) | refine Below.trans ?_ (Below.mono (by assumption) (by first | omega | (simp; done) | (simp; omega)))))
  by_cases ho : o = 4
  · go_enter Try.func5, Try.ntmps5
    go_wp2
    go_quiet (fail)
    go_wp2_with (go_at_call 13; refine (awake23 _).mono ?_; rintro e w1 ⟨rfl, hb1⟩)
    go_ret
    refine ⟨rfl, ?_⟩
    (repeat (first | exact Below.refl _ _ | refine below_drewN ?_ _ | refine Below.drew ?_ | refine Below.alloc ?_ (by first | omega | (simp; done) | (simp; omega)) _ | refine Below.setCell ?_ (by first | omega | (simp; done) | (simp; omega)) _ | refine bel_trans ?_ (by assumption) | refine Below.trans ?_ (Below.mono (by assumption) (by first | omega | (simp; done) | (simp; omega)))))
  obtain ⟨hs, hc⟩ := judge_first p o n s hp ho
  have Hs := hide hs
  clear hs
  rcases hc with hv | ⟨hv, hn⟩ | ⟨hv, hn1, hn2, hpo⟩
  · have Hv := hide hv
    clear hv
    go_enter Try.func5, Try.ntmps5
    go_wp2
    go_quiet (fail)
    go_wp2_with (first
      | (go_at_call 13; refine (awake23 _).mono ?_; rintro e w1 ⟨rfl, hb1⟩)
      | (go_at_call 14; refine (judge_any _ _ _ _ _).mono ?_; rintro e w2 ⟨rfl, hb2⟩; first | rw [Hs.out, Hv.out] | rw [Hv.out] | skip))
    go_ret
    refine ⟨rfl, ?_⟩
    (repeat (first | exact Below.refl _ _ | refine below_drewN ?_ _ | refine Below.drew ?_ | refine Below.alloc ?_ (by first | omega | (simp; done) | (simp; omega)) _ | refine Below.setCell ?_ (by first | omega | (simp; done) | (simp; omega)) _ | refine bel_trans ?_ (by assumption) | refine Below.trans ?_ (Below.mono (by assumption) (by first | omega | (simp; done) | (simp; omega)))))
  · have Hv := hide hv
    clear hv
    subst hn
    go_enter Try.func5, Try.ntmps5
    go_wp2
    go_quiet (fail)
    go_wp2_with (first
      | (go_at_call 13; refine (awake23 _).mono ?_; rintro e w1 ⟨rfl, hb1⟩)
      | (go_at_call 14; refine (judge_any _ _ _ _ _).mono ?_; rintro e w2 ⟨rfl, hb2⟩; first | rw [Hs.out, Hv.out] | rw [Hv.out] | skip))
    go_ret
    refine ⟨rfl, ?_⟩
    (repeat (first | exact Below.refl _ _ | refine below_drewN ?_ _ | refine Below.drew ?_ | refine Below.alloc ?_ (by first | omega | (simp; done) | (simp; omega)) _ | refine Below.setCell ?_ (by first | omega | (simp; done) | (simp; omega)) _ | refine bel_trans ?_ (by assumption) | refine Below.trans ?_ (Below.mono (by assumption) (by first | omega | (simp; done) | (simp; omega)))))
  · have Hv := hide hv
    have Hpo := hide hpo
    clear hv hpo
    go_enter Try.func5, Try.ntmps5
    go_wp2
    go_quiet (fail)
    go_wp2_with (first
      | (go_at_call 13; refine (awake23 _).mono ?_; rintro e w1 ⟨rfl, hb1⟩)
      | (go_at_call 14; refine (judge_any _ _ _ _ _).mono ?_; rintro e w2 ⟨rfl, hb2⟩; first | rw [Hs.out, Hv.out] | rw [Hv.out] | skip))
    all_goals first
      | (exfalso; have h1 := Hpo.out (by assumption); simp_all; done)
      | (go_ret; refine ⟨rfl, ?_⟩; (repeat (first | exact Below.refl _ _ | refine below_drewN ?_ _ | refine Below.drew ?_ | refine Below.alloc ?_ (by first | omega | (simp; done) | (simp; omega)) _ | refine Below.setCell ?_ (by first | omega | (simp; done) | (simp; omega)) _ | refine bel_trans ?_ (by assumption) | refine Below.trans ?_ (Below.mono (by assumption) (by first | omega | (simp; done) | (simp; omega))))))

set_option maxRecDepth 100000 in
theorem lifted_OrderStrict (os : Os) (started : os.Started) (H : Type) (enc : TypeId × Value → H) :
    ReturnsInHanded {} Try.checked os 5 .any (Rows.orderStrictSpec.pre6 enc Try.prog Try.f5 Rows.orderStrictRow.domain false) (Rows.orderStrictSpec.post enc Try.prog Try.f5 false true false false) := by
  refine returnsInHanded_of_change_shaped (C := Try.checked) own started (by kernel_rfl) Try.func5
    (ChangeSpec.witness6 (enc := enc) (C := Try.checked) false ⟨#[], #[.agg #[.int .i64 0, .int .i64 0, .int .i64 0], .bool false], []⟩ 8 (by kernel_rfl) (by kernel_rfl) (by kernel_rfl) (by kernel_rfl)) ?_
  intro W base args ds gs before hval0 hW hcnd hsz hsh _
  have hval : ∀ (j : Nat) t v, Try.f5.params[j]? = some t → args[j]? = some v → Value.okWide Try.prog W .any base t v := hval0
  have hW' := hW
  obtain ⟨p, q, hA0, hV, rfl, hfz, hnd⟩ := hW
  have hA : DataW.TrodAll enc Try.prog W 0 (fun _ => true) true Try.f5.params.toList args.toList ds p := hA0
  rw [Try.params5] at hA hval
  obtain ⟨v0, vs0, d0, ds0, p0, q0, hargs, rfl, rfl, h0, r0⟩ := trodAll_cons hA
  obtain ⟨v1, vs1, d1, ds1, p1, q1, rfl, rfl, rfl, h1, r1⟩ := trodAll_cons r0
  obtain ⟨rfl, rfl, rfl⟩ := trodAll_nil r1
  obtain rfl : args = #[v0, v1] := by cases args; simp_all
  obtain ⟨l0, hl0, hv0, w0⟩ := open_arr_int Try.underlying31 Try.underlying3 (by kernel_rfl) (by kernel_rfl) (hval 0 31 v0 rfl rfl) h0
  match l0, hl0 with
  | [a0, a1, a2], _ =>
  simp only [List.map_cons, List.map_nil] at hv0
  subst hv0
  obtain ⟨s, rfl, _, _⟩ := open_bool Try.underlying4 (hval 1 4 v1 rfl rfl) h1
  refine (orderStrict_any a0 a1 a2 s W).mono fun e W' ⟨he, bel⟩ => ?_
  subst he
  exact ⟨_, rfl, law_post 4 laidOut (by kernel_rfl) rfl Try.underlying4 rfl hW' (fun ds' hl _ => by match ds', hl with | [x0, x1], _ => rfl) bel⟩

theorem over_OrderStrict : Rows.orderStrictRow.holds Try.pinned (OpenSpec.ofChange Rows.orderStrictSpec) :=
  OpenClaim.holds_of_wide 5 Try.f5 rfl rfl rfl rfl rfl rfl rfl ⟨rfl, rfl, rfl, rfl, rfl⟩ rfl rfl rfl rfl rfl (by kernel_rfl) Try.func5 (by kernel_rfl)
    (of_decide_eq_true (by kernel_rfl)) (by unfold Func.isWrapper; first | (rw [if_pos (by decide +kernel)]; kernel_rfl) | (rw [if_neg (by decide +kernel)]; exact ⟨rfl, rfl⟩))
    (fun os started H enc _ => lifted_OrderStrict os started H enc)

/-- The given statement. -/
theorem orderStrict_holds : Rows.OrderStrictSaid := over_OrderStrict

#print axioms orderStrict_holds
end Go.Proofs.Ytcblomlmabhgeaa
