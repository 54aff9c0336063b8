/-
  The laws FrameNeeds and the page's example: of how many bytes a unit is, its body and its payload are the reference's. Conditions: none.
-/
import Derived.Test.YtejikjpaclnncaaFrameUnpack
import Derived.Test.YtejikjpaclnncaaLaw
namespace Go.Proofs.Ytejikjpaclnncaa
open Go.ChangeShapes Go.WideShapes Go.ChangeAt Go.RowKit
open Go.ChangeMaps (open_string shut_string)

theorem data_inj {a b : ByteArray} (h : a.data.toList = b.data.toList) : a = b := bytes_ext (by rw [ByteArray.toList_eq, ByteArray.toList_eq, h])
theorem awake11 (w : World) : Calls Try.prog 10 #[] w fun e w' => e = .returned (.bool true) ∧ Below w.heap.size w w' := by
  have hc := pack_any ⟨#[21]⟩ w (by decide)
  have hf : packF [21] = ([0, 0, 0, 12, 10, 21, 0, 0, 0, 0, 0, 0, 0, 0, 0, 0], 0) := by decide +kernel
  have e0 : (⟨#[21]⟩ : ByteArray).data.toList = [21] := rfl
  rw [e0, hf] at hc
  have Hc := hide hc
  clear hc e0 hf
  go_enter Try.func10, Try.ntmps10
  go_wp2_with fail
  refine Hc.out.mono ?_
  rintro e w1 ⟨r, rfl, hr, hb1⟩
  obtain rfl : r = ⟨#[0, 0, 0, 12, 10, 21, 0, 0, 0, 0, 0, 0, 0, 0, 0, 0]⟩ := data_inj hr
  clear hr
  go_wp2
  go_ret
  exact ⟨rfl, hb1⟩
set_option maxHeartbeats 1000000 in
theorem frameNeeds_any (s : ByteArray) (w : World) (hs : s.size ≤ maxLen) : Calls Try.prog 4 #[.string s] w fun e w' => e = .returned (.bool true) ∧ Below w.heap.size w w' := by
  unfold maxLen at hs
  by_cases h2 : 2000 < s.size
  · go_enter Try.func4, Try.ntmps4
    go_wp2_with (go_at_call 10; refine (awake11 _).mono ?_; rintro e w1 ⟨rfl, hb1⟩)
    go_ret
    exact ⟨rfl, hb1⟩
  go_enter Try.func4, Try.ntmps4
  go_wp2_with (first
    | (go_at_call 10; refine (awake11 _).mono ?_; rintro e w1 ⟨rfl, hb1⟩)
    | (go_at_call 15; refine (need_any _ _ (by omega)).mono ?_; rintro e w1 ⟨rfl, hb1⟩)
    | (go_at_call 18; refine (rneed_any _ _ (by omega)).mono ?_; rintro e w1 ⟨rfl, hb1⟩)
    | (go_at_call 14; refine (body_any _ _ (by omega)).mono ?_; rintro e w1 ⟨r1, rfl, hr1, hb1⟩; have Hr1 := hide hr1; clear hr1)
    | (go_at_call 19; refine (rBody_any _ _ (by omega)).mono ?_; rintro e w1 ⟨r2, rfl, hr2, hb1⟩; obtain rfl : r2 = r1 := data_inj (hr2.trans Hr1.out.symm); clear hr2)
    | (go_at_call 13; refine (unpack_any _ _ (by omega)).mono ?_; rintro e w1 ⟨r3, rfl, hr3, hb1⟩; have Hr3 := hide hr3; clear hr3)
    | (go_at_call 20; refine (rUnpack_any _ _ (by omega)).mono ?_; rintro e w1 ⟨r4, rfl, hr4, hb1⟩; obtain rfl : r4 = r3 := data_inj (hr4.trans Hr3.out.symm); clear hr4))
  go_ret
  refine ⟨rfl, ?_⟩
  (repeat (first | exact Below.refl _ _ | refine below_drewN ?_ _ | refine Below.drew ?_ | refine Below.alloc ?_ (by first | omega | (simp; done) | (simp; omega)) _ | refine Below.setCell ?_ (by first | omega | (simp; done) | (simp; omega)) _ | refine bel_alloc ?_ _ | refine bel_trans ?_ (by assumption) | refine Below.trans ?_ (Below.mono (by assumption) (by first | omega | (simp; done) | (simp; omega)))))

set_option maxRecDepth 100000 in
theorem lifted_FrameNeeds (os : Os) (started : os.Started) (H : Type) (enc : TypeId × Value → H) :
    ReturnsInHanded {} Try.checked os 4 .any (Rows.frameNeedsSpec.pre6 enc Try.prog Try.f4 Rows.frameNeedsRow.domain false) (Rows.frameNeedsSpec.post enc Try.prog Try.f4 false true false false) := by
  refine returnsInHanded_of_change_shaped (C := Try.checked) own started (by kernel_rfl) Try.func4
    (ChangeSpec.witness6 (enc := enc) (C := Try.checked) false ⟨#[], #[.string ByteArray.empty], []⟩ 8 (by kernel_rfl) (by kernel_rfl) (by kernel_rfl) (by kernel_rfl)) ?_
  intro W base args ds gs before hval0 hW hcnd hsz hsh _
  have hval : ∀ (j : Nat) t v, Try.f4.params[j]? = some t → args[j]? = some v → Value.okWide Try.prog W .any base t v := hval0
  have hW' := hW
  obtain ⟨p, q, hA0, hV, rfl, hfz, hnd⟩ := hW
  have hA : DataW.TrodAll enc Try.prog W 0 (fun _ => true) true Try.f4.params.toList args.toList ds p := hA0
  rw [Try.params4] at hA hval
  obtain ⟨v0, vs0, d0, ds0, p0, q0, hargs, rfl, rfl, h0, r0⟩ := trodAll_cons hA
  obtain ⟨rfl, rfl, rfl⟩ := trodAll_nil r0
  obtain rfl : args = #[v0] := by cases args; simp_all
  obtain ⟨s, rfl, _, _, w0⟩ := open_string Try.underlying9 (hval 0 9 v0 rfl rfl) h0
  refine (frameNeeds_any s W w0).mono fun e W' ⟨he, bel⟩ => ?_
  subst he
  exact ⟨_, rfl, law_post 4 laidOut (by kernel_rfl) rfl Try.underlying4 rfl hW' (fun ds' hl _ => by match ds', hl with | [x0], _ => rfl) bel⟩

theorem over_FrameNeeds : Rows.frameNeedsRow.holds Try.pinned (OpenSpec.ofChange Rows.frameNeedsSpec) :=
  OpenClaim.holds_of_wide 4 Try.f4 rfl rfl rfl rfl rfl rfl rfl ⟨rfl, rfl, rfl, rfl, rfl⟩ rfl rfl rfl rfl rfl (by kernel_rfl) Try.func4 (by kernel_rfl)
    (of_decide_eq_true (by kernel_rfl)) (by unfold Func.isWrapper; first | (rw [if_pos (by decide +kernel)]; kernel_rfl) | (rw [if_neg (by decide +kernel)]; exact ⟨rfl, rfl⟩))
    (fun os started H enc _ => lifted_FrameNeeds os started H enc)

/-- The given statement. -/
theorem frameNeeds_holds : Rows.FrameNeedsSaid := over_FrameNeeds

#print axioms frameNeeds_holds
end Go.Proofs.Ytejikjpaclnncaa
