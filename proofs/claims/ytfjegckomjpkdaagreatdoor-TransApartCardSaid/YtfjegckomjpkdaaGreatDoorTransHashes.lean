/-
  The law TransHashes: what is hashed of any parts, and its hash, are the reference's. Conditions: none but the listed variables.
-/
import Derived.Test.YtfjegckomjpkdaaGreatDoorHashA
import Derived.Test.YtfjegckomjpkdaaGreatDoorCard
set_option linter.unusedVariables false
set_option linter.unusedSimpArgs false
namespace Go.Proofs.YtfjegckomjpkdaaGreatDoor
open Go.ChangeShapes Go.WideShapes Go.ChangeAt Go.RowKit Go.Sort
open Go.ChangeMaps (open_string shut_string)
theorem fewB_open {l : List Mk} {n : Int} (h : fewB l n = true) : (l.length : Int) ≤ n ∧ ∀ x ∈ l, x.s.size ≤ 200 := by
  unfold fewB at h
  simp only [Bool.and_eq_true, decide_eq_true_eq, List.all_eq_true] at h
  exact ⟨h.1, fun x hx => h.2 x hx⟩
section
variable {w : World}
theorem few_long {A : Option Addr} {c n : Nat} (k : Int) (h : k < (n : Int)) : Calls Tryz.prog 11 #[.slice A n c, .int .i64 k] w (fun e w' => e = .returned (.bool false) ∧ w' = w) := by
  go_enter Tryz.func11, Tryz.ntmps11
  go_wp2
  go_ret
  exact ⟨rfl, rfl⟩
theorem few_all {B : Nat} {A : Option Addr} {c : Nat} {l : List Mk} (hl : Mks B w A l) (k : Int) (hk : k ≤ 1000000) : Calls Tryz.prog 11 #[.slice A l.length c, .int .i64 k] w (fun e w' => e = .returned (.bool (fewB l k)) ∧ w' = w) := by
  by_cases h : k < (l.length : Int)
  · rw [fewB_long h]
    exact few_long k h
  · exact few_any hl (by omega) k
set_option maxHeartbeats 1000000 in
set_option maxRecDepth 100000 in
theorem transHashes_any (hT : Tab w) {A : Option Addr} {c : Nat} {l : List Mk} (hl : Mks w.heap.size w A l) (x : RawP) (hx : RawFit x) :
    Calls Tryz.prog 10 #[.slice A l.length c, rawV x] w (fun e w' => e = .returned (.bool true) ∧ Below w.heap.size w w') := by
  have HF := hide (fun (W : World) (hb : Below w.heap.size w W) => few_all (c := c) (hl.outs (Outs.of_below (R := fun _ => False) hb) (fun i h => h.elim)) 15 (by decide))
  have HA := hide (fun (W : World) (hb : Below w.heap.size w W) => awake20_any (hT.below hb))
  cases hf : fewB l 15 with
  | true =>
    obtain ⟨h1, h2⟩ := fewB_open hf
    cases hfx : fewR x with
    | true => exact hashes_any hT hl hf (by omega) (fun y hy => by have := h2 y hy; omega) x hx hfx
    | false =>
      have HR := hide (fun W => rawFew_any x hx W)
      rw [hfx] at HR
      rw [hf] at HF
      clear hl hx hf hfx h1 h2 hT
      unfold rawV at *
      go_enter Tryz.func10, Tryz.ntmps10
      go_wp2_with (first
        | (go_at_call 11; refine (HF.out _ (by (repeat (first | exact Below.refl _ _ | refine below_drewN ?_ _ | refine Below.drew ?_ | refine Below.alloc ?_ (by first | omega | (simp; done) | (simp; omega)) _ | refine Below.setCell ?_ (by first | omega | (simp; done) | (simp; omega)) _ | refine bel_alloc ?_ _ | refine bel_trans ?_ (by assumption) | refine Below.trans ?_ (Below.mono (by assumption) (by first | omega | (simp; done) | (simp; omega))))))).mono ?_; rintro e w1 ⟨rfl, rfl⟩)
        | (go_at_call 40; refine (HR.out _).mono ?_; rintro e w2 ⟨rfl, hb2⟩)
        | (go_at_call 42; refine (HA.out _ (by (repeat (first | exact Below.refl _ _ | refine below_drewN ?_ _ | refine Below.drew ?_ | refine Below.alloc ?_ (by first | omega | (simp; done) | (simp; omega)) _ | refine Below.setCell ?_ (by first | omega | (simp; done) | (simp; omega)) _ | refine bel_alloc ?_ _ | refine bel_trans ?_ (by assumption) | refine Below.trans ?_ (Below.mono (by assumption) (by first | omega | (simp; done) | (simp; omega))))))).mono ?_; rintro e w3 ⟨rfl, hb3⟩)
        | fail)
      go_ret
      exact ⟨rfl, by (repeat (first | exact Below.refl _ _ | refine below_drewN ?_ _ | refine Below.drew ?_ | refine Below.alloc ?_ (by first | omega | (simp; done) | (simp; omega)) _ | refine Below.setCell ?_ (by first | omega | (simp; done) | (simp; omega)) _ | refine bel_alloc ?_ _ | refine bel_trans ?_ (by assumption) | refine Below.trans ?_ (Below.mono (by assumption) (by first | omega | (simp; done) | (simp; omega)))))⟩
  | false =>
    rw [hf] at HF
    clear hl hx hf hT
    unfold rawV at *
    go_enter Tryz.func10, Tryz.ntmps10
    go_wp2_with (first
      | (go_at_call 11; refine (HF.out _ (by (repeat (first | exact Below.refl _ _ | refine below_drewN ?_ _ | refine Below.drew ?_ | refine Below.alloc ?_ (by first | omega | (simp; done) | (simp; omega)) _ | refine Below.setCell ?_ (by first | omega | (simp; done) | (simp; omega)) _ | refine bel_alloc ?_ _ | refine bel_trans ?_ (by assumption) | refine Below.trans ?_ (Below.mono (by assumption) (by first | omega | (simp; done) | (simp; omega))))))).mono ?_; rintro e w1 ⟨rfl, rfl⟩)
      | (go_at_call 42; refine (HA.out _ (by (repeat (first | exact Below.refl _ _ | refine below_drewN ?_ _ | refine Below.drew ?_ | refine Below.alloc ?_ (by first | omega | (simp; done) | (simp; omega)) _ | refine Below.setCell ?_ (by first | omega | (simp; done) | (simp; omega)) _ | refine bel_alloc ?_ _ | refine bel_trans ?_ (by assumption) | refine Below.trans ?_ (Below.mono (by assumption) (by first | omega | (simp; done) | (simp; omega))))))).mono ?_; rintro e w3 ⟨rfl, hb3⟩)
      | fail)
    go_ret
    exact ⟨rfl, by (repeat (first | exact Below.refl _ _ | refine below_drewN ?_ _ | refine Below.drew ?_ | refine Below.alloc ?_ (by first | omega | (simp; done) | (simp; omega)) _ | refine Below.setCell ?_ (by first | omega | (simp; done) | (simp; omega)) _ | refine bel_alloc ?_ _ | refine bel_trans ?_ (by assumption) | refine Below.trans ?_ (Below.mono (by assumption) (by first | omega | (simp; done) | (simp; omega)))))⟩
end

set_option maxRecDepth 100000 in
theorem lifted_TransHashes (os : Os) (started : os.Started) (H : Type) (enc : TypeId × Value → H) :
    ReturnsInHanded {} Tryz.checked os 10 .any (fun w args => (Rows.transHashesSpec.pre enc Tryz.prog Tryz.f10 [] false w args ∧ laidMetH Tryz.prog Rows.transHashesRow.laid w) ∧ sizedMet enc Tryz.prog Tryz.f10 (OpenSpec.ofChange Rows.transHashesSpec) false w args)
      (Rows.transHashesSpec.post enc Tryz.prog Tryz.f10 false true false false) := by
  refine returnsInHanded_of_change_and (C := Tryz.checked) (X := fun w _ => laidMetH Tryz.prog Rows.transHashesRow.laid w) (fun _ _ _ hh h => h.of_heap hh) own started (by kernel_rfl) Tryz.func10
    (ChangeSpec.witness_shaped (enc := enc) (C := Tryz.checked) (os := os) (X := fun w _ => laidMetH Tryz.prog Rows.transHashesRow.laid w) false (World.laidAll Tryz.prog os Rows.transHashesRow.laid) #[.slice none 0 0, .agg #[.string ByteArray.empty, .string ByteArray.empty, .string ByteArray.empty, .string ByteArray.empty, .int .i64 0, .int .i64 0, .int .i64 0, .int .i64 0, .bool false, .int .u32 0, .int .u32 0, .int .u32 0, .string ByteArray.empty, .string ByteArray.empty]] 8 (World.laidAll_os _ _ _)
      (World.shaped_of_ZipB (by kernel_rfl) (by kernel_rfl)) (by kernel_rfl) (by kernel_rfl) (by kernel_rfl)
      (by rw [MakeChecks.laidMetH_plain _ _ _ (by kernel_rfl)]; exact laidMet_laidAll _ (by kernel_rfl) (by kernel_rfl))) ?_
  intro W base args ds gs before hval0 hW _ _ hL _
  have hval : ∀ (j : Nat) t v, Tryz.f10.params[j]? = some t → args[j]? = some v → Value.okWide Tryz.prog W .any base t v := hval0
  have hW' := hW
  obtain ⟨p, q, hA0, hV, rfl, hfz, hnd⟩ := hW
  have hA : DataW.TrodAll enc Tryz.prog W 0 (fun _ => true) true Tryz.f10.params.toList args.toList ds p := hA0
  rw [Tryz.params10] at hA hval
  obtain ⟨v0, vs0, d0, ds0, p0, q0, hargs, rfl, rfl, h0, r0⟩ := trodAll_cons hA
  obtain ⟨v1, vs1, d1, ds1, p1, q1, rfl, rfl, rfl, h1, r1⟩ := trodAll_cons r0
  obtain ⟨rfl, rfl, rfl⟩ := trodAll_nil r1
  obtain rfl : args = #[v0, v1] := by cases args; simp_all
  obtain ⟨A0, c0, l0, rfl, hl0, hm0⟩ := open_makes (open_slice 6 (l := mkS) Tryz.underlying22 (by kernel_rfl) (hval 0 22 v0 rfl rfl) h0)
  obtain ⟨x1, f1, rfl⟩ := open_rawV (hval 1 82 v1 rfl rfl) h1
  rw [MakeChecks.laidMetH_plain _ _ _ (by kernel_rfl)] at hL
  have hT := tab_of_laid hL
  refine (transHashes_any hT hm0 x1 f1).mono fun e W' ⟨he, bel⟩ => ?_
  subst he
  exact ⟨_, rfl, law_post 4 laidOut (by kernel_rfl) rfl Tryz.underlying4 rfl hW' (fun ds' hl _ => by match ds', hl with | [x0, x1], _ => rfl) bel⟩

theorem over_TransHashes : Rows.transHashesRow.holds Tryz.pinned (OpenSpec.ofChange Rows.transHashesSpec) :=
  OpenClaim.holds_of_wide 10 Tryz.f10 rfl rfl rfl rfl rfl rfl rfl ⟨rfl, rfl, rfl, rfl, rfl⟩ rfl rfl rfl rfl rfl (by kernel_rfl) Tryz.func10 (by kernel_rfl)
    (of_decide_eq_true (by kernel_rfl)) (by unfold Func.isWrapper; first | (rw [if_pos (by decide +kernel)]; kernel_rfl) | (rw [if_neg (by decide +kernel)]; exact ⟨rfl, rfl⟩))
    (fun os started H enc _ => lifted_TransHashes os started H enc)

theorem stand_TransHashes : ∀ (j : Nat) (t : TypeId), Tryz.f10.params[j]? = some t → Tryz.prog.wantsStandIn t = false := fun j t ht => by
  have hall : (Tryz.f10.params.toList.all fun u => !Tryz.prog.wantsStandIn u) = true := by kernel_rfl
  have hm : t ∈ Tryz.f10.params.toList := Array.mem_toList_iff.2 (Array.mem_of_getElem? ht)
  simpa using List.all_eq_true.1 hall t hm
/-- The given statement. -/
theorem transHashes_holds : Rows.TransHashesCardSaid :=
  show Claim7.holds Tryz.pinned (.plain (OpenSpec.ofChange Rows.transHashesSpec)) Rows.transHashesCard from
  Claim7.holds_tied_plain_at .later [] _ true _ true over_TransHashes (fun _ h => by cases h) (by kernel_rfl) (fun _ h => by cases h) transHashes_row_tie rfl ⟨rfl, rfl⟩ (by kernel_rfl) rfl
    (fun f fn hf hfn => by
      obtain rfl : f = 10 := Option.some.inj ((show Tryz.prog.funcNamed Rows.transHashesRow.func = some 10 by kernel_rfl).symm.trans hf) |>.symm
      obtain rfl : fn = Tryz.f10 := (Option.some.inj (Tryz.func10.symm.trans hfn)).symm
      exact ⟨by kernel_rfl, stand_TransHashes⟩)
    (by kernel_rfl)

end Go.Proofs.YtfjegckomjpkdaaGreatDoor
