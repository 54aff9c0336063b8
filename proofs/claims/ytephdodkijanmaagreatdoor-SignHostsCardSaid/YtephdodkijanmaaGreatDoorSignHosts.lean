/-
  The law SignHosts: which signatures of hosts are taken, or what is wrong. Conditions: none but the listed variables.
-/
import Derived.Test.YtephdodkijanmaaGreatDoorSHst
import Derived.Test.YtephdodkijanmaaGreatDoorHand
import Derived.Test.YtephdodkijanmaaGreatDoorFewL
import Derived.Test.YtephdodkijanmaaGreatDoorRawP
set_option linter.unusedVariables false
set_option linter.unusedSimpArgs false
namespace Go.Proofs.YtephdodkijanmaaGreatDoor
open Go.ChangeShapes Go.WideShapes Go.ChangeAt Go.RowKit Go.Sort
open Go.ChangeMaps (open_string shut_string)
def nameS2 : List Shp := [.s, .i .i64, .s, .i .i64]
theorem open_names2 {w : World} {us : List Value} (ho : Shp.oks w nameS2 us) : ∃ (a0 a1 : ByteArray) (n0 n1 : Int), a0.size ≤ maxLen ∧ a1.size ≤ maxLen ∧ us = [.string a0, .int .i64 n0, .string a1, .int .i64 n1] := by
  have hl := oks_len ho
  match us, hl, ho with
  | [u1, u2, u3, u4], _, ho =>
    simp only [nameS2, Shp.oks, Shp.ok, and_true] at ho
    obtain ⟨⟨a1, rfl, f1⟩, ⟨a2, rfl, _⟩, ⟨a3, rfl, f3⟩, ⟨a4, rfl, _⟩⟩ := ho
    exact ⟨a1, a3, a2, a4, f1, f3, rfl⟩
theorem open_ints3 {w : World} {us : List Value} (ho : Shp.oks w [.i .i64, .i .i64, .i .i64] us) : ∃ (x0 x1 x2 : Int), us = [.int .i64 x0, .int .i64 x1, .int .i64 x2] := by
  have hl := oks_len ho
  match us, hl, ho with
  | [u1, u2, u3], _, ho =>
    simp only [Shp.oks, Shp.ok, and_true] at ho
    obtain ⟨⟨a1, rfl, f1⟩, ⟨a2, rfl, _⟩, ⟨a3, rfl, f3⟩⟩ := ho
    exact ⟨a1, a2, a3, rfl⟩
section
variable {w : World}
set_option maxHeartbeats 2000000 in
set_option maxRecDepth 100000 in
theorem shst_no (hT : Tab w) (hH : Hand w) {A : Option Addr} {c : Nat} {l : List Mk} (hl : Mks w.heap.size w A l) (x0 x1 x2 : Int) (a0 a1 : ByteArray) (n0 n1 : Int) (f0 : a0.size ≤ 9223372036854775807) (f1 : a1.size ≤ 9223372036854775807) (hno : fewB l 20 = false ∨ fewB l 20 = true ∧ (200 < (a0.size : Int) ∨ ¬ 200 < (a0.size : Int) ∧ 200 < (a1.size : Int))) :
    Calls Tryz.prog 4 #[.slice A l.length c, .agg #[.int .i64 x0, .int .i64 x1, .int .i64 x2], .agg #[.string a0, .int .i64 n0, .string a1, .int .i64 n1]] w (fun e w' => e = .returned (.bool true) ∧ Below w.heap.size w w') := by
  obtain ⟨W0, hW0⟩ : ∃ W0, W0 = (w.alloc (.cells #[.int .i64 x0, .int .i64 x1, .int .i64 x2] 43)).alloc (.cells #[.string a0, .int .i64 n0, .string a1, .int .i64 n1] 46) := ⟨_, rfl⟩
  have hbW : Below w.heap.size w W0 := by rw [hW0]; (repeat (first | exact Below.refl _ _ | refine below_drewN ?_ _ | refine Below.drew ?_ | refine Below.alloc ?_ (by first | omega | (simp; done) | (simp; omega)) _ | refine Below.setCell ?_ (by first | omega | (simp; done) | (simp; omega)) _ | refine bel_alloc ?_ _ | refine bel_trans ?_ (by assumption) | refine Below.trans ?_ (Below.mono (by assumption) (by first | omega | (simp; done) | (simp; omega)))))
  have hM : Blk W0 (w.heap.size + 1) 46 #[.string a0, .int .i64 n0, .string a1, .int .i64 n1] := by rw [hW0]; simpa using Blk.new (w.alloc (.cells #[.int .i64 x0, .int .i64 x1, .int .i64 x2] 43)) 46 #[.string a0, .int .i64 n0, .string a1, .int .i64 n1]
  have HF := hide (few02_all (c := c) (hl.outs (Outs.of_below (R := fun _ => False) hbW) (fun i h => h.elim)) 20 (by decide))
  have HAW := hide (fun (W : World) (hb : Below w.heap.size w W) => awake22_any (hT.below hb) (hH.below hb))
  have HM := hide hM
  clear hT hH hl hM
  rcases hno with h0 | ⟨h0, h1 | ⟨h1, h2⟩⟩
  · rw [h0] at HF
    clear h0
    go_enter Tryz.func4, Tryz.ntmps4
    go_upto_region 1 with fail
    rw [← hW0]
    clear hW0
    go_wp2_with (first
      | (go_at_call 6; refine HF.out.mono ?_; rintro e w1 ⟨rfl, rfl⟩)
      | fail)
    refine (HAW.out _ hbW).mono ?_
    rintro e w2 ⟨rfl, hb2⟩
    go_wp2_with fail
    go_ret
    exact ⟨rfl, hbW.trans (hb2.mono hbW.size)⟩
  · rw [h0] at HF
    clear h0
    go_enter Tryz.func4, Tryz.ntmps4
    go_upto_region 1 with fail
    rw [← hW0]
    clear hW0
    obtain ⟨q0, q1, q2, q3⟩ := nm4 HM.out
    go_wp2_with (first
      | (go_at_call 6; refine HF.out.mono ?_; rintro e w1 ⟨rfl, rfl⟩)
      | fail)
    refine (HAW.out _ hbW).mono ?_
    rintro e w2 ⟨rfl, hb2⟩
    go_wp2_with fail
    go_ret
    exact ⟨rfl, hbW.trans (hb2.mono hbW.size)⟩
  · rw [h0] at HF
    clear h0
    go_enter Tryz.func4, Tryz.ntmps4
    go_upto_region 1 with fail
    rw [← hW0]
    clear hW0
    obtain ⟨q0, q1, q2, q3⟩ := nm4 HM.out
    go_wp2_with (first
      | (go_at_call 6; refine HF.out.mono ?_; rintro e w1 ⟨rfl, rfl⟩)
      | fail)
    refine (HAW.out _ hbW).mono ?_
    rintro e w2 ⟨rfl, hb2⟩
    go_wp2_with fail
    go_ret
    exact ⟨rfl, hbW.trans (hb2.mono hbW.size)⟩
theorem shstLaw_any (hT : Tab w) (hH : Hand w) {A : Option Addr} {c : Nat} {l : List Mk} (hl : Mks w.heap.size w A l) {u v : Value} (hu : ∃ us : List Value, u = .agg us.toArray ∧ Shp.oks w [.i .i64, .i .i64, .i .i64] us) (hv : ∃ us : List Value, v = .agg us.toArray ∧ Shp.oks w nameS2 us) :
    Calls Tryz.prog 4 #[.slice A l.length c, u, v] w (fun e w' => e = .returned (.bool true) ∧ Below w.heap.size w w') := by
  obtain ⟨us, rfl, hu2⟩ := hu
  obtain ⟨vs, rfl, hv2⟩ := hv
  obtain ⟨x0, x1, x2, rfl⟩ := open_ints3 hu2
  obtain ⟨a0, a1, n0, n1, f0, f1, rfl⟩ := open_names2 hv2
  have f0' : a0.size ≤ 9223372036854775807 := f0
  have f1' : a1.size ≤ 9223372036854775807 := f1
  clear f0 f1 hu2 hv2
  cases hf : fewB l 20 with
  | true =>
    obtain ⟨h1, h2⟩ := few02_open hf
    by_cases k0 : 200 < (a0.size : Int)
    · exact shst_no hT hH hl x0 x1 x2 a0 a1 n0 n1 f0' f1' (.inr ⟨hf, .inl k0⟩)
    · by_cases k1 : 200 < (a1.size : Int)
      · exact shst_no hT hH hl x0 x1 x2 a0 a1 n0 n1 f0' f1' (.inr ⟨hf, .inr ⟨k0, k1⟩⟩)
      · exact shst_any hT hH hl hf (by omega) (fun y hy => by have := h2 y hy; omega) x0 x1 x2 a0 a1 n0 n1 (by omega) (by omega)
  | false => exact shst_no hT hH hl x0 x1 x2 a0 a1 n0 n1 f0' f1' (.inl hf)
end

set_option maxRecDepth 100000 in
theorem lifted_SignHosts (os : Os) (started : os.Started) (H : Type) (enc : TypeId × Value → H) :
    ReturnsInHanded {} Tryz.checked os 4 .any (fun w args => (Rows.signHostsSpec.pre enc Tryz.prog Tryz.f4 [] false w args ∧ laidMetH Tryz.prog Rows.signHostsRow.laid w) ∧ sizedMet enc Tryz.prog Tryz.f4 (OpenSpec.ofChange Rows.signHostsSpec) false w args)
      (Rows.signHostsSpec.post enc Tryz.prog Tryz.f4 false true false false) := by
  refine returnsInHanded_of_change_and (C := Tryz.checked) (X := fun w _ => laidMetH Tryz.prog Rows.signHostsRow.laid w) (fun _ _ _ hh h => h.of_heap hh) own started (by kernel_rfl) Tryz.func4
    (ChangeSpec.witness_shaped (enc := enc) (C := Tryz.checked) (os := os) (X := fun w _ => laidMetH Tryz.prog Rows.signHostsRow.laid w) false (handWorld os) #[.slice none 0 0, .agg #[.int .i64 0, .int .i64 0, .int .i64 0], .agg #[.string ByteArray.empty, .int .i64 0, .string ByteArray.empty, .int .i64 0]] 8 (handWorld_os os)
      (handWorld_shaped os) (by kernel_rfl) (by kernel_rfl) (by kernel_rfl)
      (laidMetH_hand os _)) ?_
  intro W base args ds gs before hval0 hW _ _ hL _
  have hval : ∀ (j : Nat) t v, Tryz.f4.params[j]? = some t → args[j]? = some v → Value.okWide Tryz.prog W .any base t v := hval0
  have hW' := hW
  obtain ⟨p, q, hA0, hV, rfl, hfz, hnd⟩ := hW
  have hA : DataW.TrodAll enc Tryz.prog W 0 (fun _ => true) true Tryz.f4.params.toList args.toList ds p := hA0
  rw [Tryz.params4] at hA hval
  obtain ⟨v0, vs0, d0, ds0, p0, q0, hargs, rfl, rfl, h0, r0⟩ := trodAll_cons hA
  obtain ⟨v1, vs1, d1, ds1, p1, q1, rfl, rfl, rfl, h1, r1⟩ := trodAll_cons r0
  obtain ⟨v2, vs2, d2, ds2, p2, q2, rfl, rfl, rfl, h2, r2⟩ := trodAll_cons r1
  obtain ⟨rfl, rfl, rfl⟩ := trodAll_nil r2
  obtain rfl : args = #[v0, v1, v2] := by cases args; simp_all
  obtain ⟨A0, c0, l0, rfl, hl0, hm0⟩ := open_makes (open_slice 6 (l := mkS) Tryz.underlying22 (by kernel_rfl) (hval 0 22 v0 rfl rfl) h0)
  have H1 := open_array 5 (l := [.i .i64, .i .i64, .i .i64]) Tryz.underlying43 (by kernel_rfl) (hval 1 43 v1 rfl rfl) h1
  have H2 := open_array 5 (l := nameS2) Tryz.underlying46 (by kernel_rfl) (hval 2 46 v2 rfl rfl) h2
  have hS := hand_split hL
  have hT := tab_of_laid hS.1
  have hE := hand_of_met hS.2
  refine (shstLaw_any hT hE hm0 H1 H2).mono fun e W' ⟨he, bel⟩ => ?_
  subst he
  exact ⟨_, rfl, law_post 4 laidOut (by kernel_rfl) rfl Tryz.underlying4 rfl hW' (fun ds' hl _ => by match ds', hl with | [x0, x1, x2], _ => rfl) bel⟩

theorem over_SignHosts : Rows.signHostsRow.holds Tryz.pinned (OpenSpec.ofChange Rows.signHostsSpec) :=
  OpenClaim.holds_of_wide 4 Tryz.f4 rfl rfl rfl rfl rfl rfl rfl ⟨rfl, rfl, rfl, rfl, rfl⟩ rfl rfl rfl rfl rfl (by kernel_rfl) Tryz.func4 (by kernel_rfl)
    (of_decide_eq_true (by kernel_rfl)) (by unfold Func.isWrapper; first | (rw [if_pos (by decide +kernel)]; kernel_rfl) | (rw [if_neg (by decide +kernel)]; exact ⟨rfl, rfl⟩))
    (fun os started H enc _ => lifted_SignHosts os started H enc)

theorem stand_SignHosts : ∀ (j : Nat) (t : TypeId), Tryz.f4.params[j]? = some t → Tryz.prog.wantsStandIn t = false := fun j t ht => by
  have hall : (Tryz.f4.params.toList.all fun u => !Tryz.prog.wantsStandIn u) = true := by kernel_rfl
  have hm : t ∈ Tryz.f4.params.toList := Array.mem_toList_iff.2 (Array.mem_of_getElem? ht)
  simpa using List.all_eq_true.1 hall t hm
/-- The given statement. -/
theorem signHosts_holds : Rows.SignHostsCardSaid :=
  show Claim7.holds Tryz.pinned (.plain (OpenSpec.ofChange Rows.signHostsSpec)) Rows.signHostsCard from
  Claim7.holds_tied_plain_at .later [] _ true _ true over_SignHosts (fun _ h => by cases h) (by kernel_rfl) (fun _ h => by cases h) signHosts_row_tie rfl ⟨rfl, rfl⟩ (by kernel_rfl) rfl
    (fun f fn hf hfn => by
      obtain rfl : f = 4 := Option.some.inj ((show Tryz.prog.funcNamed Rows.signHostsRow.func = some 4 by kernel_rfl).symm.trans hf) |>.symm
      obtain rfl : fn = Tryz.f4 := (Option.some.inj (Tryz.func4.symm.trans hfn)).symm
      exact ⟨by kernel_rfl, stand_SignHosts⟩)
    (by kernel_rfl)

end Go.Proofs.YtephdodkijanmaaGreatDoor
