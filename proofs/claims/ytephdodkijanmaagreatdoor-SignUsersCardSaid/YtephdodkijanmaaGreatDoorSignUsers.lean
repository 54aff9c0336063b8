/-
  The law SignUsers: which signatures of users are taken, or what is wrong. Conditions: none but the listed variables.
-/
import Derived.Test.YtephdodkijanmaaGreatDoorSUsr
import Derived.Test.YtephdodkijanmaaGreatDoorHand
import Derived.Test.YtephdodkijanmaaGreatDoorFewL
import Derived.Test.YtephdodkijanmaaGreatDoorRawP
set_option linter.unusedVariables false
set_option linter.unusedSimpArgs false
namespace Go.Proofs.YtephdodkijanmaaGreatDoor
open Go.ChangeShapes Go.WideShapes Go.ChangeAt Go.RowKit Go.Sort
open Go.ChangeMaps (open_string shut_string)
def askS2 : List Shp := [.i .i64, .s, .s, .s, .i .i64, .i .i64, .s, .s, .s, .i .i64]
structure AskFit (x : AskP) : Prop where
  u : x.user.size ≤ maxLen
  s : x.svc.size ≤ maxLen
  a : x.alg.size ≤ maxLen
theorem open_asks2 {w : World} {us : List Value} (ho : Shp.oks w askS2 us) : ∃ x y, AskFit x ∧ AskFit y ∧ Value.agg us.toArray = ask2V x y := by
  have hl := oks_len ho
  match us, hl, ho with
  | [u1, u2, u3, u4, u5, u6, u7, u8, u9, u10], _, ho =>
    simp only [askS2, Shp.oks, Shp.ok, and_true] at ho
    obtain ⟨⟨a1, rfl, _⟩, ⟨a2, rfl, f2⟩, ⟨a3, rfl, f3⟩, ⟨a4, rfl, f4⟩, ⟨a5, rfl, _⟩, ⟨a6, rfl, _⟩, ⟨a7, rfl, f7⟩, ⟨a8, rfl, f8⟩, ⟨a9, rfl, f9⟩, ⟨a10, rfl, _⟩⟩ := ho
    exact ⟨⟨a1, a2, a3, a4, a5⟩, ⟨a6, a7, a8, a9, a10⟩, ⟨f2, f3, f4⟩, ⟨f7, f8, f9⟩, rfl⟩
theorem open_ints2 {w : World} {us : List Value} (ho : Shp.oks w [.i .i64, .i .i64] us) : ∃ (x0 x1 : Int), us = [.int .i64 x0, .int .i64 x1] := by
  have hl := oks_len ho
  match us, hl, ho with
  | [u1, u2], _, ho =>
    simp only [Shp.oks, Shp.ok, and_true] at ho
    obtain ⟨⟨a1, rfl, f1⟩, ⟨a2, rfl, _⟩⟩ := ho
    exact ⟨a1, a2, rfl⟩
section
variable {w : World}
set_option maxHeartbeats 2000000 in
set_option maxRecDepth 100000 in
theorem susr_no (hT : Tab w) (hH : Hand w) {A : Option Addr} {c : Nat} {l : List Mk} (hl : Mks w.heap.size w A l) (x y : AskP) (fx : AskFit x) (fy : AskFit y) (x0 x1 : Int) (hno : fewB l 20 = false ∨ fewB l 20 = true ∧ (fewA x = false ∨ fewA x = true ∧ fewA y = false)) :
    Calls Tryz.prog 5 #[.slice A l.length c, .agg #[.int .i64 x0, .int .i64 x1], ask2V x y] w (fun e w' => e = .returned (.bool true) ∧ Below w.heap.size w w') := by
  unfold ask2V
  obtain ⟨W0, hW0⟩ : ∃ W0, W0 = (w.alloc (.cells #[.int .i64 x0, .int .i64 x1] 58)).alloc (.cells #[.int .i64 x.ses, .string x.user, .string x.svc, .string x.alg, .int .i64 x.who, .int .i64 y.ses, .string y.user, .string y.svc, .string y.alg, .int .i64 y.who] 25) := ⟨_, rfl⟩
  have hbW : Below w.heap.size w W0 := by rw [hW0]; (repeat (first | exact Below.refl _ _ | refine below_drewN ?_ _ | refine Below.drew ?_ | refine Below.alloc ?_ (by first | omega | (simp; done) | (simp; omega)) _ | refine Below.setCell ?_ (by first | omega | (simp; done) | (simp; omega)) _ | refine bel_alloc ?_ _ | refine bel_trans ?_ (by assumption) | refine Below.trans ?_ (Below.mono (by assumption) (by first | omega | (simp; done) | (simp; omega)))))
  have hM : Blk W0 (w.heap.size + 1) 25 #[.int .i64 x.ses, .string x.user, .string x.svc, .string x.alg, .int .i64 x.who, .int .i64 y.ses, .string y.user, .string y.svc, .string y.alg, .int .i64 y.who] := by rw [hW0]; simpa using Blk.new (w.alloc (.cells #[.int .i64 x0, .int .i64 x1] 58)) 25 #[.int .i64 x.ses, .string x.user, .string x.svc, .string x.alg, .int .i64 x.who, .int .i64 y.ses, .string y.user, .string y.svc, .string y.alg, .int .i64 y.who]
  have HF := hide (few02_all (c := c) (hl.outs (Outs.of_below (R := fun _ => False) hbW) (fun i h => h.elim)) 20 (by decide))
  have HX := hide (fun W => few22_any x W fx.u fx.s fx.a)
  have HY := hide (fun W => few22_any y W fy.u fy.s fy.a)
  have HAW := hide (fun (W : World) (hb : Below w.heap.size w W) => awake22_any (hT.below hb) (hH.below hb))
  have HM := hide hM
  clear hT hH hl fx fy hM
  rcases hno with h0 | ⟨h0, h1 | ⟨h1, h2⟩⟩
  · rw [h0] at HF
    clear h0 HX HY
    go_enter Tryz.func5, Tryz.ntmps5
    go_upto_region 1 with fail
    rw [← hW0]
    clear hW0
    go_wp2_with (first
      | (go_at_call 6; refine HF.out.mono ?_; rintro e w1 ⟨rfl, rfl⟩)
      | fail)
    refine (HAW.out _ hbW).mono ?_
    rintro e w2 ⟨rfl, hb2⟩
    go_wp2_with fail
    go_ret
    exact ⟨rfl, hbW.trans (hb2.mono hbW.size)⟩
  · rw [h0] at HF
    rw [h1] at HX
    clear h0 h1 HY
    go_enter Tryz.func5, Tryz.ntmps5
    go_upto_region 1 with fail
    rw [← hW0]
    clear hW0
    obtain ⟨q0, q1, q2, q3, q4, q5, q6, q7, q8, q9⟩ := ask10 HM.out
    go_wp2_with (first
      | (go_at_call 6; refine HF.out.mono ?_; rintro e w1 ⟨rfl, rfl⟩)
      | fail)
    refine (HX.out _).mono ?_
    rintro e w2 ⟨rfl, hb2⟩
    have hbw2 := hbW.trans (hb2.mono hbW.size)
    clear q0 q1 q2 q3 q4 q5 q6 q7 q8 q9
    go_wp2_with fail
    refine (HAW.out _ hbw2).mono ?_
    rintro e w4 ⟨rfl, hb4⟩
    go_wp2_with fail
    go_ret
    exact ⟨rfl, hbw2.trans (hb4.mono hbw2.size)⟩
  · rw [h0] at HF
    rw [h1] at HX
    rw [h2] at HY
    clear h0 h1 h2
    go_enter Tryz.func5, Tryz.ntmps5
    go_upto_region 1 with fail
    rw [← hW0]
    clear hW0
    obtain ⟨q0, q1, q2, q3, q4, q5, q6, q7, q8, q9⟩ := ask10 HM.out
    go_wp2_with (first
      | (go_at_call 6; refine HF.out.mono ?_; rintro e w1 ⟨rfl, rfl⟩)
      | fail)
    refine (HX.out _).mono ?_
    rintro e w2 ⟨rfl, hb2⟩
    have hbw2 := hbW.trans (hb2.mono hbW.size)
    have hM2 := HM.out.below hb2 HM.out.lt
    clear q0 q1 q2 q3 q4 q5 q6 q7 q8 q9
    obtain ⟨q0, q1, q2, q3, q4, q5, q6, q7, q8, q9⟩ := ask10 hM2
    go_wp2_with fail
    refine (HY.out _).mono ?_
    rintro e w3 ⟨rfl, hb3⟩
    have hbw3 := hbw2.trans (hb3.mono hbw2.size)
    clear q0 q1 q2 q3 q4 q5 q6 q7 q8 q9 hM2
    go_wp2_with fail
    refine (HAW.out _ hbw3).mono ?_
    rintro e w4 ⟨rfl, hb4⟩
    go_wp2_with fail
    go_ret
    exact ⟨rfl, hbw3.trans (hb4.mono hbw3.size)⟩
theorem susrLaw_any (hT : Tab w) (hH : Hand w) {A : Option Addr} {c : Nat} {l : List Mk} (hl : Mks w.heap.size w A l) {u v : Value} (hu : ∃ us : List Value, u = .agg us.toArray ∧ Shp.oks w [.i .i64, .i .i64] us) (hv : ∃ us : List Value, v = .agg us.toArray ∧ Shp.oks w askS2 us) :
    Calls Tryz.prog 5 #[.slice A l.length c, u, v] w (fun e w' => e = .returned (.bool true) ∧ Below w.heap.size w w') := by
  obtain ⟨us, rfl, hu2⟩ := hu
  obtain ⟨x0, x1, rfl⟩ := open_ints2 hu2
  obtain ⟨vs, hv1, hv2⟩ := hv
  obtain ⟨x, y, fx, fy, ev⟩ := open_asks2 hv2
  obtain rfl : v = ask2V x y := hv1.trans ev
  clear hv1 ev hu2
  cases hf : fewB l 20 with
  | true =>
    obtain ⟨h1, h2⟩ := few02_open hf
    cases hx : fewA x with
    | true =>
      cases hy : fewA y with
      | true => exact susr_any hT hH hl hf (by omega) (fun y hy => by have := h2 y hy; omega) x0 x1 x y hx hy
      | false => exact susr_no hT hH hl x y fx fy x0 x1 (.inr ⟨hf, .inr ⟨hx, hy⟩⟩)
    | false => exact susr_no hT hH hl x y fx fy x0 x1 (.inr ⟨hf, .inl hx⟩)
  | false => exact susr_no hT hH hl x y fx fy x0 x1 (.inl hf)
end

set_option maxRecDepth 100000 in
theorem lifted_SignUsers (os : Os) (started : os.Started) (H : Type) (enc : TypeId × Value → H) :
    ReturnsInHanded {} Tryz.checked os 5 .any (fun w args => (Rows.signUsersSpec.pre enc Tryz.prog Tryz.f5 [] false w args ∧ laidMetH Tryz.prog Rows.signUsersRow.laid w) ∧ sizedMet enc Tryz.prog Tryz.f5 (OpenSpec.ofChange Rows.signUsersSpec) false w args)
      (Rows.signUsersSpec.post enc Tryz.prog Tryz.f5 false true false false) := by
  refine returnsInHanded_of_change_and (C := Tryz.checked) (X := fun w _ => laidMetH Tryz.prog Rows.signUsersRow.laid w) (fun _ _ _ hh h => h.of_heap hh) own started (by kernel_rfl) Tryz.func5
    (ChangeSpec.witness_shaped (enc := enc) (C := Tryz.checked) (os := os) (X := fun w _ => laidMetH Tryz.prog Rows.signUsersRow.laid w) false (handWorld os) #[.slice none 0 0, .agg #[.int .i64 0, .int .i64 0], .agg #[.int .i64 0, .string ByteArray.empty, .string ByteArray.empty, .string ByteArray.empty, .int .i64 0, .int .i64 0, .string ByteArray.empty, .string ByteArray.empty, .string ByteArray.empty, .int .i64 0]] 8 (handWorld_os os)
      (handWorld_shaped os) (by kernel_rfl) (by kernel_rfl) (by kernel_rfl)
      (laidMetH_hand os _)) ?_
  intro W base args ds gs before hval0 hW _ _ hL _
  have hval : ∀ (j : Nat) t v, Tryz.f5.params[j]? = some t → args[j]? = some v → Value.okWide Tryz.prog W .any base t v := hval0
  have hW' := hW
  obtain ⟨p, q, hA0, hV, rfl, hfz, hnd⟩ := hW
  have hA : DataW.TrodAll enc Tryz.prog W 0 (fun _ => true) true Tryz.f5.params.toList args.toList ds p := hA0
  rw [Tryz.params5] at hA hval
  obtain ⟨v0, vs0, d0, ds0, p0, q0, hargs, rfl, rfl, h0, r0⟩ := trodAll_cons hA
  obtain ⟨v1, vs1, d1, ds1, p1, q1, rfl, rfl, rfl, h1, r1⟩ := trodAll_cons r0
  obtain ⟨v2, vs2, d2, ds2, p2, q2, rfl, rfl, rfl, h2, r2⟩ := trodAll_cons r1
  obtain ⟨rfl, rfl, rfl⟩ := trodAll_nil r2
  obtain rfl : args = #[v0, v1, v2] := by cases args; simp_all
  obtain ⟨A0, c0, l0, rfl, hl0, hm0⟩ := open_makes (open_slice 6 (l := mkS) Tryz.underlying22 (by kernel_rfl) (hval 0 22 v0 rfl rfl) h0)
  have H1 := open_array 5 (l := [.i .i64, .i .i64]) Tryz.underlying58 (by kernel_rfl) (hval 1 58 v1 rfl rfl) h1
  have H2 := open_array 5 (l := askS2) Tryz.underlying25 (by kernel_rfl) (hval 2 25 v2 rfl rfl) h2
  have hS := hand_split hL
  have hT := tab_of_laid hS.1
  have hE := hand_of_met hS.2
  refine (susrLaw_any hT hE hm0 H1 H2).mono fun e W' ⟨he, bel⟩ => ?_
  subst he
  exact ⟨_, rfl, law_post 4 laidOut (by kernel_rfl) rfl Tryz.underlying4 rfl hW' (fun ds' hl _ => by match ds', hl with | [x0, x1, x2], _ => rfl) bel⟩

theorem over_SignUsers : Rows.signUsersRow.holds Tryz.pinned (OpenSpec.ofChange Rows.signUsersSpec) :=
  OpenClaim.holds_of_wide 5 Tryz.f5 rfl rfl rfl rfl rfl rfl rfl ⟨rfl, rfl, rfl, rfl, rfl⟩ rfl rfl rfl rfl rfl (by kernel_rfl) Tryz.func5 (by kernel_rfl)
    (of_decide_eq_true (by kernel_rfl)) (by unfold Func.isWrapper; first | (rw [if_pos (by decide +kernel)]; kernel_rfl) | (rw [if_neg (by decide +kernel)]; exact ⟨rfl, rfl⟩))
    (fun os started H enc _ => lifted_SignUsers os started H enc)

theorem stand_SignUsers : ∀ (j : Nat) (t : TypeId), Tryz.f5.params[j]? = some t → Tryz.prog.wantsStandIn t = false := fun j t ht => by
  have hall : (Tryz.f5.params.toList.all fun u => !Tryz.prog.wantsStandIn u) = true := by kernel_rfl
  have hm : t ∈ Tryz.f5.params.toList := Array.mem_toList_iff.2 (Array.mem_of_getElem? ht)
  simpa using List.all_eq_true.1 hall t hm
/-- The given statement. -/
theorem signUsers_holds : Rows.SignUsersCardSaid :=
  show Claim7.holds Tryz.pinned (.plain (OpenSpec.ofChange Rows.signUsersSpec)) Rows.signUsersCard from
  Claim7.holds_tied_plain_at .later [] _ true _ true over_SignUsers (fun _ h => by cases h) (by kernel_rfl) (fun _ h => by cases h) signUsers_row_tie rfl ⟨rfl, rfl⟩ (by kernel_rfl) rfl
    (fun f fn hf hfn => by
      obtain rfl : f = 5 := Option.some.inj ((show Tryz.prog.funcNamed Rows.signUsersRow.func = some 5 by kernel_rfl).symm.trans hf) |>.symm
      obtain rfl : fn = Tryz.f5 := (Option.some.inj (Tryz.func5.symm.trans hfn)).symm
      exact ⟨by kernel_rfl, stand_SignUsers⟩)
    (by kernel_rfl)

end Go.Proofs.YtephdodkijanmaaGreatDoor
