/-
  The law OrderSides: outside exchanges no message but 20 is taken by both sides. Conditions: none.
-/
import Derived.Test.YtcblomlmabhgeaaOrderJudges
namespace Go.Proofs.Ytcblomlmabhgeaa
open Go.ChangeShapes Go.WideShapes Go.ChangeAt Go.RowKit
open Go.ChangeMaps (open_string shut_string)

def sides (n c s : Int) : Prop := (n = 20 ∧ c = 1 ∧ s = 1) ∨ (n = 1 ∧ c = 4 ∧ s = 4) ∨ (n ≠ 20 ∧ n ≠ 1 ∧ ((c = 2 ∧ s = 2) ∨ (c = 0 ∧ s = 1) ∨ (c = 1 ∧ s = 0) ∨ (c = 1 ∧ s = 2) ∨ (c = 0 ∧ s = 0) ∨ (c = 3 ∧ s = 3)))
instance (n c s : Int) : Decidable (sides n c s) := by unfold sides; infer_instance
theorem sides_all : ∀ (n : Int) (f : Bool), sides n (judge 4 f false n) (judge 4 f true n) := by
  refine num_cases (fun n => ∀ f : Bool, sides n (judge 4 f false n) (judge 4 f true n)) (by decide +kernel) (by decide +kernel) (by decide +kernel) (by decide +kernel) (by decide +kernel) (by decide +kernel) (by decide +kernel) (by decide +kernel) (by decide +kernel) (by decide +kernel) (by decide +kernel) (by decide +kernel) (by decide +kernel) (by decide +kernel) (by decide +kernel) (by decide +kernel) (by decide +kernel) (by decide +kernel) (by decide +kernel) ?_
  intro n h1 h2 h3 h4 h5 h6 h7 h20 h21 h30 h31 h32 h33 h34 h50 h51 h52 h53 h60 f
  rw [judge_eq, judge_eq]
  have hw : ¬ 0 < (word n).size := by rw [word_none n h1 h2 h3 h4 h5 h6 h7 h20 h21 h30 h31 h32 h33 h34 h50 h51 h52 h53 h60]; decide
  have e : ∀ s, rjudge 4 f s n = if n < 0 ∨ 255 < n then 0 else if 30 ≤ n ∧ n ≤ 49 then 0 else 3 := by
    intro s
    unfold rjudge
    by_cases h1' : n < 0 ∨ 255 < n
    · rw [if_pos (by omega : (4 : Int) < 1 ∨ (4 : Int) < 4 ∨ n < 0 ∨ 255 < n), if_pos h1']
    · have h3' : ¬ (n ∈ [(2 : Int), 3, 4] ∨ n = 7 ∧ s = true) := by simp; omega
      have h5' : n ∉ (if s then [(20 : Int), 5, 50] else [20, 6, 7, 51, 52, 53, 60]) := by cases s <;> simp <;> omega
      rw [if_neg (by omega : ¬ ((4 : Int) < 1 ∨ (4 : Int) < 4 ∨ n < 0 ∨ 255 < n)), if_neg h1', if_neg h1, if_neg (by omega : ¬ (4 : Int) < 4), if_neg h3', if_neg h5']
      by_cases h6' : 30 ≤ n ∧ n ≤ 49
      · rw [if_pos (Or.inr h6'), if_pos h6']
      · rw [if_neg (fun h => h.elim hw h6'), if_neg h6']
  rw [e, e]
  unfold sides
  refine Or.inr (Or.inr ⟨h20, h1, ?_⟩)
  split
  · simp
  · split <;> simp
theorem orderSides_at (n c s : Int) (f : Bool) (w : World) (Hc : Hid (judge 4 f false n = c)) (Hs : Hid (judge 4 f true n = s)) (hd : sides n c s) :
    Calls Try.prog 6 #[.int .i64 n, .bool f] w fun e w' => e = .returned (.bool true) ∧ Below w.heap.size w w' := by
  rcases hd with ⟨rfl, rfl, rfl⟩ | ⟨rfl, rfl, rfl⟩ | ⟨h20, h1, h⟩
  · go_enter Try.func6, Try.ntmps6
    go_wp2_with (first
      | (go_at_call 13; refine (awake23 _).mono ?_; rintro e w1 ⟨rfl, hb1⟩)
      | (go_at_call 14; refine (judge_any _ _ _ _ _).mono ?_; rintro e w2 ⟨rfl, hb2⟩; first | rw [Hc.out] | rw [Hs.out]))
    go_ret
    refine ⟨rfl, ?_⟩
    (repeat (first | exact Below.refl _ _ | refine below_drewN ?_ _ | refine Below.drew ?_ | refine Below.alloc ?_ (by first | omega | (simp; done) | (simp; omega)) _ | refine Below.setCell ?_ (by first | omega | (simp; done) | (simp; omega)) _ | refine bel_trans ?_ (by assumption) | refine Below.trans ?_ (Below.mono (by assumption) (by first | omega | (simp; done) | (simp; omega)))))
  · go_enter Try.func6, Try.ntmps6
    go_wp2_with (first
      | (go_at_call 13; refine (awake23 _).mono ?_; rintro e w1 ⟨rfl, hb1⟩)
      | (go_at_call 14; refine (judge_any _ _ _ _ _).mono ?_; rintro e w2 ⟨rfl, hb2⟩; first | rw [Hc.out] | rw [Hs.out]))
    go_ret
    refine ⟨rfl, ?_⟩
    (repeat (first | exact Below.refl _ _ | refine below_drewN ?_ _ | refine Below.drew ?_ | refine Below.alloc ?_ (by first | omega | (simp; done) | (simp; omega)) _ | refine Below.setCell ?_ (by first | omega | (simp; done) | (simp; omega)) _ | refine bel_trans ?_ (by assumption) | refine Below.trans ?_ (Below.mono (by assumption) (by first | omega | (simp; done) | (simp; omega)))))
  · have e20 : (n == 20) = false := by simp [h20]
    have e1 : (n == 1) = false := by simp [h1]
    clear h20 h1
    rcases h with ⟨rfl, rfl⟩ | ⟨rfl, rfl⟩ | ⟨rfl, rfl⟩ | ⟨rfl, rfl⟩ | ⟨rfl, rfl⟩ | ⟨rfl, rfl⟩
    all_goals
      go_enter Try.func6, Try.ntmps6
      go_wp2_with (first
        | (go_at_call 13; refine (awake23 _).mono ?_; rintro e w1 ⟨rfl, hb1⟩)
        | (go_at_call 14; refine (judge_any _ _ _ _ _).mono ?_; rintro e w2 ⟨rfl, hb2⟩; first | rw [Hc.out] | rw [Hs.out]))
      go_ret
      refine ⟨rfl, ?_⟩
      (repeat (first | exact Below.refl _ _ | refine below_drewN ?_ _ | refine Below.drew ?_ | refine Below.alloc ?_ (by first | omega | (simp; done) | (simp; omega)) _ | refine Below.setCell ?_ (by first | omega | (simp; done) | (simp; omega)) _ | refine bel_trans ?_ (by assumption) | refine Below.trans ?_ (Below.mono (by assumption) (by first | omega | (simp; done) | (simp; omega)))))
theorem orderSides_any (n : Int) (f : Bool) (w : World) :
    Calls Try.prog 6 #[.int .i64 n, .bool f] w fun e w' => e = .returned (.bool true) ∧ Below w.heap.size w w' :=
  orderSides_at n _ _ f w rfl rfl (sides_all n f)

set_option maxRecDepth 100000 in
theorem lifted_OrderSides (os : Os) (started : os.Started) (H : Type) (enc : TypeId × Value → H) :
    ReturnsInHanded {} Try.checked os 6 .any (Rows.orderSidesSpec.pre6 enc Try.prog Try.f6 Rows.orderSidesRow.domain false) (Rows.orderSidesSpec.post enc Try.prog Try.f6 false true false false) := by
  refine returnsInHanded_of_change_shaped (C := Try.checked) own started (by kernel_rfl) Try.func6
    (ChangeSpec.witness6 (enc := enc) (C := Try.checked) false ⟨#[], #[.int .i64 0, .bool false], []⟩ 8 (by kernel_rfl) (by kernel_rfl) (by kernel_rfl) (by kernel_rfl)) ?_
  intro W base args ds gs before hval0 hW hcnd hsz hsh _
  have hval : ∀ (j : Nat) t v, Try.f6.params[j]? = some t → args[j]? = some v → Value.okWide Try.prog W .any base t v := hval0
  have hW' := hW
  obtain ⟨p, q, hA0, hV, rfl, hfz, hnd⟩ := hW
  have hA : DataW.TrodAll enc Try.prog W 0 (fun _ => true) true Try.f6.params.toList args.toList ds p := hA0
  rw [Try.params6] at hA hval
  obtain ⟨v0, vs0, d0, ds0, p0, q0, hargs, rfl, rfl, h0, r0⟩ := trodAll_cons hA
  obtain ⟨v1, vs1, d1, ds1, p1, q1, rfl, rfl, rfl, h1, r1⟩ := trodAll_cons r0
  obtain ⟨rfl, rfl, rfl⟩ := trodAll_nil r1
  obtain rfl : args = #[v0, v1] := by cases args; simp_all
  obtain ⟨a0, rfl, _, _, w0⟩ := open_int Try.underlying3 (hval 0 3 v0 rfl rfl) h0
  obtain ⟨s, rfl, _, _⟩ := open_bool Try.underlying4 (hval 1 4 v1 rfl rfl) h1
  refine (orderSides_any a0 s W).mono fun e W' ⟨he, bel⟩ => ?_
  subst he
  exact ⟨_, rfl, law_post 4 laidOut (by kernel_rfl) rfl Try.underlying4 rfl hW' (fun ds' hl _ => by match ds', hl with | [x0, x1], _ => rfl) bel⟩

theorem over_OrderSides : Rows.orderSidesRow.holds Try.pinned (OpenSpec.ofChange Rows.orderSidesSpec) :=
  OpenClaim.holds_of_wide 6 Try.f6 rfl rfl rfl rfl rfl rfl rfl ⟨rfl, rfl, rfl, rfl, rfl⟩ rfl rfl rfl rfl rfl (by kernel_rfl) Try.func6 (by kernel_rfl)
    (of_decide_eq_true (by kernel_rfl)) (by unfold Func.isWrapper; first | (rw [if_pos (by decide +kernel)]; kernel_rfl) | (rw [if_neg (by decide +kernel)]; exact ⟨rfl, rfl⟩))
    (fun os started H enc _ => lifted_OrderSides os started H enc)

/-- The given statement. -/
theorem orderSides_holds : Rows.OrderSidesSaid := over_OrderSides

#print axioms orderSides_holds
end Go.Proofs.Ytcblomlmabhgeaa
