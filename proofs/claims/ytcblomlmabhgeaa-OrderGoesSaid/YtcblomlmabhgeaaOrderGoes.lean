/-
  The law OrderGoes: which messages may go, and the words of phases and verdicts. Conditions: none.
-/
import Derived.Test.YtcblomlmabhgeaaOrderJudges
namespace Go.Proofs.Ytcblomlmabhgeaa
open Go.ChangeShapes Go.WideShapes Go.ChangeAt Go.RowKit
open Go.ChangeMaps (open_string shut_string)

set_option maxHeartbeats 1000000 in
theorem rmay_any (x : Bool) (n : Int) (w : World) : Calls Try.prog 26 #[.bool x, .int .i64 n] w fun e w' => e = .returned (.bool (may x n)) ∧ w = w' := by
  go_enter Try.func26, Try.ntmps26
  go_wp2
  all_goals (go_ret; refine ⟨ret_bool ?_, rfl⟩; unfold may ofKex)
  all_goals (first | (simp_all; done) | (simp_all; omega) | (rw [Bool.eq_iff_iff]; simp_all; done) | (rw [Bool.eq_iff_iff]; simp_all; omega))
def wordAt (l : List ByteArray) (n : Int) : ByteArray := if n < 0 ∨ (l.length : Int) ≤ n then ⟨#[]⟩ else l.getD n.toNat ⟨#[]⟩
theorem wordAt_any {lo : Nat} {v : Value} {l : List ByteArray} (n : Int) (w : World) (h : Strs lo w v l) (_hl : l.length ≤ 9223372036854775807) :
    Calls Try.prog 28 #[v, .int .i64 n] w fun e w' => e = .returned (.string (wordAt l n)) ∧ w = w' := by
  obtain ⟨A, c, rfl, hr⟩ := h
  by_cases h0 : n < 0
  · go_enter Try.func28, Try.ntmps28
    go_wp2
    go_ret
    refine ⟨?_, rfl⟩
    rw [wordAt, if_pos (Or.inl h0)]
    rfl
  by_cases h1 : (l.length : Int) ≤ n
  · go_enter Try.func28, Try.ntmps28
    go_wp2
    go_ret
    refine ⟨?_, rfl⟩
    rw [wordAt, if_pos (Or.inr h1)]
    rfl
  obtain ⟨k, rfl⟩ := Int.eq_ofNat_of_zero_le (by omega : 0 ≤ n)
  have hk : k < l.length := by omega
  obtain ⟨ad, rfl, _, hc⟩ := hr.str hk
  have hw : wordAt l (k : Int) = l[k] := by
    rw [wordAt, if_neg (by omega), Int.toNat_natCast, List.getD_eq_getElem?_getD, List.getElem?_eq_getElem hk]
    rfl
  have Hw := hide hw
  clear hw
  generalize l[k] = s at hc Hw
  go_enter Try.func28, Try.ntmps28
  go_wp2
  go_ret
  refine ⟨?_, rfl⟩
  rw [Hw.out]
  rfl
def phases : List ByteArray := [⟨#[108, 105, 110, 101]⟩, ⟨#[105, 110, 105, 116]⟩, ⟨#[107, 101, 120]⟩, ⟨#[110, 101, 119]⟩, ⟨#[111, 112, 101, 110]⟩, ⟨#[100, 101, 97, 100]⟩]
theorem wordAt_phases (n : Int) (b : Nat) (w : World) (h : Strs b w (.slice (some ⟨b, 0, none⟩) 6 6) phases) : Calls Try.prog 28 #[.slice (some ⟨b, 0, none⟩) 6 6, .int .i64 n] w fun e w' => e = .returned (.string (wordAt phases n)) ∧ w = w' :=
  wordAt_any n w h (by decide)
theorem phaseW_eq (n : Int) : phaseW n = wordAt phases n := by
  by_cases h : n < 0 ∨ 6 ≤ n
  · have h' : n < 0 ∨ (phases.length : Int) ≤ n := h
    rw [wordAt, if_pos h', phaseW]
    (repeat (first | rfl | rw [if_pos (by first | omega | (simp_all; done) | (simp_all; omega))] | rw [if_neg (by first | omega | (simp_all; done) | (simp_all; omega))]))
  · rcases (by omega : n = 0 ∨ n = 1 ∨ n = 2 ∨ n = 3 ∨ n = 4 ∨ n = 5) with rfl | rfl | rfl | rfl | rfl | rfl <;> decide
def verdicts : List ByteArray := [⟨#[119, 114, 111, 110, 103]⟩, ⟨#[116, 97, 107, 101]⟩, ⟨#[112, 97, 115, 115]⟩, ⟨#[115, 116, 114, 97, 110, 103, 101]⟩, ⟨#[99, 108, 111, 115, 101]⟩]
theorem wordAt_verdicts (n : Int) (b : Nat) (w : World) (h : Strs b w (.slice (some ⟨b, 0, none⟩) 5 5) verdicts) : Calls Try.prog 28 #[.slice (some ⟨b, 0, none⟩) 5 5, .int .i64 n] w fun e w' => e = .returned (.string (wordAt verdicts n)) ∧ w = w' :=
  wordAt_any n w h (by decide)
theorem verdictW_eq (n : Int) : verdictW n = wordAt verdicts n := by
  by_cases h : n < 0 ∨ 5 ≤ n
  · have h' : n < 0 ∨ (verdicts.length : Int) ≤ n := h
    rw [wordAt, if_pos h', verdictW]
    (repeat (first | rfl | rw [if_pos (by first | omega | (simp_all; done) | (simp_all; omega))] | rw [if_neg (by first | omega | (simp_all; done) | (simp_all; omega))]))
  · rcases (by omega : n = 0 ∨ n = 1 ∨ n = 2 ∨ n = 3 ∨ n = 4) with rfl | rfl | rfl | rfl | rfl <;> decide
set_option maxHeartbeats 1000000 in
theorem orderGoes_any (n p v : Int) (x : Bool) (w : World) :
    Calls Try.prog 9 #[.agg #[.int .i64 n, .int .i64 p, .int .i64 v], .bool x] w fun e w' => e = .returned (.bool true) ∧ Below w.heap.size w w' := by
  have Hm := hide (show may true n = false ∨ n < 50 by
    by_cases h : n < 50
    · exact .inr h
    · left
      unfold may
      split
      · rfl
      · simp
        omega)
  have Hp := hide (phaseW_eq p)
  have Hv := hide (verdictW_eq v)
  go_enter Try.func9, Try.ntmps9
  go_wp2
  go_quiet (fail)
  go_wp2_with (first
    | (go_at_call 13; refine (awake23 _).mono ?_; rintro e w1 ⟨rfl, hb1⟩)
    | (go_at_call 25; refine (may_any _ _ _).mono ?_; rintro e w2 ⟨rfl, rfl⟩)
    | (go_at_call 26; refine (rmay_any _ _ _).mono ?_; rintro e w2 ⟨rfl, rfl⟩)
    | (go_at_call 27; refine (phaseW_any _ _).mono ?_; rintro e w2 ⟨rfl, rfl⟩; rw [Hp.out])
    | (go_at_call 29; refine (verdictW_any _ _).mono ?_; rintro e w2 ⟨rfl, rfl⟩; rw [Hv.out])
    | (go_at_call 28; ((with_reducible refine (wordAt_phases _ _ _ ?_).mono ?_)); exact ((strs_new _ 9 phases _ (by simp [phases])).alloc _).mono (by simp); rintro e w2 ⟨rfl, rfl⟩)
    | (go_at_call 28; ((with_reducible refine (wordAt_verdicts _ _ _ ?_).mono ?_)); exact (strs_new _ 9 verdicts _ (by simp [verdicts])).mono (by simp); rintro e w2 ⟨rfl, rfl⟩))
  · go_ret
    refine ⟨rfl, ?_⟩
    (repeat (first | exact Below.refl _ _ | refine below_drewN ?_ _ | refine Below.drew ?_ | refine Below.alloc ?_ (by first | omega | (simp; done) | (simp; omega)) _ | refine Below.setCell ?_ (by first | omega | (simp; done) | (simp; omega)) _ | refine bel_trans ?_ (by assumption) | refine Below.trans ?_ (Below.mono (by assumption) (by first | omega | (simp; done) | (simp; omega)))))
  · go_ret
    refine ⟨ret_bool ?_, ?_⟩
    · rcases Hm.out with h | h
      · simp_all
      · simpa using h
    · (repeat (first | exact Below.refl _ _ | refine below_drewN ?_ _ | refine Below.drew ?_ | refine Below.alloc ?_ (by first | omega | (simp; done) | (simp; omega)) _ | refine Below.setCell ?_ (by first | omega | (simp; done) | (simp; omega)) _ | refine bel_trans ?_ (by assumption) | refine Below.trans ?_ (Below.mono (by assumption) (by first | omega | (simp; done) | (simp; omega)))))

set_option maxRecDepth 100000 in
theorem lifted_OrderGoes (os : Os) (started : os.Started) (H : Type) (enc : TypeId × Value → H) :
    ReturnsInHanded {} Try.checked os 9 .any (Rows.orderGoesSpec.pre6 enc Try.prog Try.f9 Rows.orderGoesRow.domain false) (Rows.orderGoesSpec.post enc Try.prog Try.f9 false true false false) := by
  refine returnsInHanded_of_change_shaped (C := Try.checked) own started (by kernel_rfl) Try.func9
    (ChangeSpec.witness6 (enc := enc) (C := Try.checked) false ⟨#[], #[.agg #[.int .i64 0, .int .i64 0, .int .i64 0], .bool false], []⟩ 8 (by kernel_rfl) (by kernel_rfl) (by kernel_rfl) (by kernel_rfl)) ?_
  intro W base args ds gs before hval0 hW hcnd hsz hsh _
  have hval : ∀ (j : Nat) t v, Try.f9.params[j]? = some t → args[j]? = some v → Value.okWide Try.prog W .any base t v := hval0
  have hW' := hW
  obtain ⟨p, q, hA0, hV, rfl, hfz, hnd⟩ := hW
  have hA : DataW.TrodAll enc Try.prog W 0 (fun _ => true) true Try.f9.params.toList args.toList ds p := hA0
  rw [Try.params9] at hA hval
  obtain ⟨v0, vs0, d0, ds0, p0, q0, hargs, rfl, rfl, h0, r0⟩ := trodAll_cons hA
  obtain ⟨v1, vs1, d1, ds1, p1, q1, rfl, rfl, rfl, h1, r1⟩ := trodAll_cons r0
  obtain ⟨rfl, rfl, rfl⟩ := trodAll_nil r1
  obtain rfl : args = #[v0, v1] := by cases args; simp_all
  obtain ⟨l0, hl0, hv0, w0⟩ := open_arr_int Try.underlying31 Try.underlying3 (by kernel_rfl) (by kernel_rfl) (hval 0 31 v0 rfl rfl) h0
  match l0, hl0 with
  | [a0, a1, a2], _ =>
  simp only [List.map_cons, List.map_nil] at hv0
  subst hv0
  obtain ⟨s, rfl, _, _⟩ := open_bool Try.underlying4 (hval 1 4 v1 rfl rfl) h1
  refine (orderGoes_any a0 a1 a2 s W).mono fun e W' ⟨he, bel⟩ => ?_
  subst he
  exact ⟨_, rfl, law_post 4 laidOut (by kernel_rfl) rfl Try.underlying4 rfl hW' (fun ds' hl _ => by match ds', hl with | [x0, x1], _ => rfl) bel⟩

theorem over_OrderGoes : Rows.orderGoesRow.holds Try.pinned (OpenSpec.ofChange Rows.orderGoesSpec) :=
  OpenClaim.holds_of_wide 9 Try.f9 rfl rfl rfl rfl rfl rfl rfl ⟨rfl, rfl, rfl, rfl, rfl⟩ rfl rfl rfl rfl rfl (by kernel_rfl) Try.func9 (by kernel_rfl)
    (of_decide_eq_true (by kernel_rfl)) (by unfold Func.isWrapper; first | (rw [if_pos (by decide +kernel)]; kernel_rfl) | (rw [if_neg (by decide +kernel)]; exact ⟨rfl, rfl⟩))
    (fun os started H enc _ => lifted_OrderGoes os started H enc)

/-- The given statement. -/
theorem orderGoes_holds : Rows.OrderGoesSaid := over_OrderGoes

#print axioms orderGoes_holds
end Go.Proofs.Ytcblomlmabhgeaa
