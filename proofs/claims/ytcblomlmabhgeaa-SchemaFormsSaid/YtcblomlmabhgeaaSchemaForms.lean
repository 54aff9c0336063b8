/-
  The law SchemaForms: the forms, the word and the class of any number are the reference's. Conditions: none.
-/
import Derived.Test.YtcblomlmabhgeaaSchemaApart
import Derived.Test.YtcblomlmabhgeaaRef06c
import Derived.Test.YtcblomlmabhgeaaSame
import Derived.Deep.RegionHeld3
namespace Go.Proofs.Ytcblomlmabhgeaa
open Go.ChangeShapes Go.WideShapes Go.ChangeAt Go.RowKit
open Go.ChangeMaps (open_string shut_string)

theorem of_word6 (n : Int) (w : World) : Calls Try.prog 18 #[.int .i64 n] w fun e w' => ∃ fv, e = .returned (.agg #[.int .i64 (rowOf n).1, .string (word n), fv]) ∧ Strs w.heap.size w' fv (forms n) ∧ Below w.heap.size w w' := by
  have h := of_any n w
  rw [rowOf_word, rowOf_forms] at h
  exact h
@[go_sem] theorem row_f0 (a b c : Value) (w : World) : (Instr.field 39 (.agg #[a, b, c]) 0).run Try.prog w = .ok a w := by kernel_rfl
theorem keepF {g : Nat} {a b : Value} {w w0 w1 : World} {lo n : Nat} {A : Option Addr} {xs : List Value} (h : w0.cell? ⟨g, 1, none⟩ = some a ∧ w0.cell? ⟨g, 2, none⟩ = some b ∧ Below w.heap.size w w0 ∧ Sl lo w0 1 A n xs) (hb : Below w0.heap.size w0 w1) :
    w1.cell? ⟨g, 1, none⟩ = some a ∧ w1.cell? ⟨g, 2, none⟩ = some b ∧ Below w.heap.size w w1 ∧ Sl lo w1 1 A n xs := by
  obtain ⟨h1, h2, h3, h4⟩ := h
  have hl : g < w0.heap.size := World.block_lt_of_cell? w0 _ h1
  exact ⟨((bcell hb).1 g 1 hl).trans h1, ((bcell hb).1 g 2 hl).trans h2, bel_trans h3 hb, h4.below hb⟩
set_option maxHeartbeats 1000000 in
theorem schemaForms_any (n m : Int) (w : World) :
    Calls Try.prog 8 #[.int .i64 n, .int .i64 m] w fun e w' => e = .returned (.bool true) ∧ Below w.heap.size w w' := by
  have hl := forms_len n
  have Hk := hide (show known n = decide (0 < (forms n).length) by unfold known; cases forms n <;> simp)
  go_enter Try.func8, Try.ntmps8
  go_wp2_with (first
    | (go_at_call 11; refine (fit_any _ _ _).mono ?_; rintro e wB ⟨rfl, hbB⟩)
    | (go_at_call 19; refine (rfit_any _ _ _).mono ?_; rintro e wC ⟨rfl, hbC⟩)
    | (go_at_call 18; refine (of_word6 _ _).mono ?_; rintro e wA ⟨fv, rfl, ⟨A, c, rfl, hr⟩, hbA⟩))
  have hbAC := bel_trans hbB hbC
  have hb0 : Below w.heap.size w wC := bel_trans (hbA.alloc hbA.size _) hbAC
  have hrC : Sl w.heap.size wC 1 A (forms n).length ((forms n).map Value.string) := (hr.alloc _).below hbAC
  have hz := hbAC.size
  simp only [World.size_alloc] at hz
  obtain ⟨hcell, hfz⟩ := bcell hbAC
  have hc1 : wC.cell? ⟨wA.heap.size, 1, none⟩ = some (.string (word n)) := by rw [hcell _ _ (by simp)]; go_simp
  have hc2 : wC.cell? ⟨wA.heap.size, 2, none⟩ = some (.slice A (forms n).length c) := by rw [hcell _ _ (by simp)]; go_simp
  clear hcell hfz hbB hbC hbAC hr hbA
  generalize wA.heap.size = g at hc1 hc2 hz
  clear wA wB
  go_region_held3 (fun w' => w'.cell? ⟨g, 1, none⟩ = some (.string (word n)) ∧ w'.cell? ⟨g, 2, none⟩ = some (.slice A (forms n).length c) ∧ Below w.heap.size w w' ∧ Sl w.heap.size w' 1 A (forms n).length ((forms n).map Value.string))
    (first | exact ⟨hc1, hc2, hb0.drew, hrC.drew⟩ | assumption | exact keepF (by assumption) (by assumption))
    (first
    | (go_at_call 12; refine (awake06 _).mono ?_; rintro e w1 ⟨rfl, hb1⟩)
    | (go_at_call 10; refine (forms_any _ _).mono ?_; rintro e w1 ⟨v2, rfl, ⟨A2, c2, rfl, hr2⟩, hb1⟩)
    | (go_at_call 21; refine (known_any _ _).mono ?_; rintro e w1 ⟨rfl, hb1⟩; rw [Hk.out])
    | (go_at_call 22; refine (word_any _ _).mono ?_; rintro e w1 ⟨rfl, rfl⟩)
    | (go_at_call 23; refine (cls_any _ _).mono ?_; rintro e w1 ⟨rfl, rfl⟩)
    | (go_at_call 24; refine (rcls_any _ _).mono ?_; rintro e w1 ⟨rfl, rfl⟩)
    | (go_at_call 20; obtain ⟨_, _, _, hS⟩ := ‹_ ∧ _ ∧ Below _ _ _ ∧ Sl _ _ _ _ _ _›; refine (same_any (lo := _) (lo' := w.heap.size) ⟨_, _, rfl, by assumption⟩ ⟨_, _, rfl, hS⟩ (by omega) (by omega)).mono ?_; rintro e w1 ⟨rfl, hb1⟩))
  obtain ⟨_, _, hB, _⟩ := ‹_ ∧ _ ∧ Below _ _ _ ∧ Sl _ _ _ _ _ _›
  go_wp2
  go_ret
  exact ⟨rfl, hB⟩

set_option maxRecDepth 100000 in
theorem lifted_SchemaForms (os : Os) (started : os.Started) (H : Type) (enc : TypeId × Value → H) :
    ReturnsInHanded {} Try.checked os 8 .any (Rows.schemaFormsSpec.pre6 enc Try.prog Try.f8 Rows.schemaFormsRow.domain false) (Rows.schemaFormsSpec.post enc Try.prog Try.f8 false true false false) := by
  refine returnsInHanded_of_change_shaped (C := Try.checked) own started (by kernel_rfl) Try.func8
    (ChangeSpec.witness6 (enc := enc) (C := Try.checked) false ⟨#[], #[.int .i64 0, .int .i64 0], []⟩ 8 (by kernel_rfl) (by kernel_rfl) (by kernel_rfl) (by kernel_rfl)) ?_
  intro W base args ds gs before hval0 hW hcnd hsz hsh _
  have hval : ∀ (j : Nat) t v, Try.f8.params[j]? = some t → args[j]? = some v → Value.okWide Try.prog W .any base t v := hval0
  have hW' := hW
  obtain ⟨p, q, hA0, hV, rfl, hfz, hnd⟩ := hW
  have hA : DataW.TrodAll enc Try.prog W 0 (fun _ => true) true Try.f8.params.toList args.toList ds p := hA0
  rw [Try.params8] at hA hval
  obtain ⟨v0, vs0, d0, ds0, p0, q0, hargs, rfl, rfl, h0, r0⟩ := trodAll_cons hA
  obtain ⟨v1, vs1, d1, ds1, p1, q1, rfl, rfl, rfl, h1, r1⟩ := trodAll_cons r0
  obtain ⟨rfl, rfl, rfl⟩ := trodAll_nil r1
  obtain rfl : args = #[v0, v1] := by cases args; simp_all
  obtain ⟨a0, rfl, _, _, w0⟩ := open_int Try.underlying3 (hval 0 3 v0 rfl rfl) h0
  obtain ⟨a1, rfl, _, _, w1⟩ := open_int Try.underlying3 (hval 1 3 v1 rfl rfl) h1
  refine (schemaForms_any a0 a1 W).mono fun e W' ⟨he, bel⟩ => ?_
  subst he
  exact ⟨_, rfl, law_post 4 laidOut (by kernel_rfl) rfl Try.underlying4 rfl hW' (fun ds' hl _ => by match ds', hl with | [x0, x1], _ => rfl) bel⟩

theorem over_SchemaForms : Rows.schemaFormsRow.holds Try.pinned (OpenSpec.ofChange Rows.schemaFormsSpec) :=
  OpenClaim.holds_of_wide 8 Try.f8 rfl rfl rfl rfl rfl rfl rfl ⟨rfl, rfl, rfl, rfl, rfl⟩ rfl rfl rfl rfl rfl (by kernel_rfl) Try.func8 (by kernel_rfl)
    (of_decide_eq_true (by kernel_rfl)) (by unfold Func.isWrapper; first | (rw [if_pos (by decide +kernel)]; kernel_rfl) | (rw [if_neg (by decide +kernel)]; exact ⟨rfl, rfl⟩))
    (fun os started H enc _ => lifted_SchemaForms os started H enc)

/-- The given statement. -/
theorem schemaForms_holds : Rows.SchemaFormsSaid := over_SchemaForms

#print axioms schemaForms_holds
end Go.Proofs.Ytcblomlmabhgeaa
