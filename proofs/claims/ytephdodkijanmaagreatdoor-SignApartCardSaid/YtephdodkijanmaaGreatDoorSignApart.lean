/-
  The law SignApart: unlike requests have unlike signatures, and no host's signature of a hash is a user's. Conditions: none but the listed variables.
-/
import Derived.Test.YtephdodkijanmaaGreatDoorSApt
import Derived.Test.YtephdodkijanmaaGreatDoorHand
import Derived.Test.YtephdodkijanmaaGreatDoorFewL
import Derived.Test.YtephdodkijanmaaGreatDoorRawP
set_option linter.unusedVariables false
set_option linter.unusedSimpArgs false
namespace Go.Proofs.YtephdodkijanmaaGreatDoor
open Go.ChangeShapes Go.WideShapes Go.ChangeAt Go.RowKit Go.Sort
open Go.ChangeMaps (open_string shut_string)
def askS2 : List Shp := [.i .i64, .s, .s, .s, .i .i64, .i .i64, .s, .s, .s, .i .i64]
structure AskFit (x : AskP) : Prop where
  u : x.user.size ≤ maxLen
  s : x.svc.size ≤ maxLen
  a : x.alg.size ≤ maxLen
theorem open_asks2 {w : World} {us : List Value} (ho : Shp.oks w askS2 us) : ∃ x y, AskFit x ∧ AskFit y ∧ Value.agg us.toArray = ask2V x y := by
  have hl := oks_len ho
  match us, hl, ho with
  | [u1, u2, u3, u4, u5, u6, u7, u8, u9, u10], _, ho =>
    simp only [askS2, Shp.oks, Shp.ok, and_true] at ho
    obtain ⟨⟨a1, rfl, _⟩, ⟨a2, rfl, f2⟩, ⟨a3, rfl, f3⟩, ⟨a4, rfl, f4⟩, ⟨a5, rfl, _⟩, ⟨a6, rfl, _⟩, ⟨a7, rfl, f7⟩, ⟨a8, rfl, f8⟩, ⟨a9, rfl, f9⟩, ⟨a10, rfl, _⟩⟩ := ho
    exact ⟨⟨a1, a2, a3, a4, a5⟩, ⟨a6, a7, a8, a9, a10⟩, ⟨f2, f3, f4⟩, ⟨f7, f8, f9⟩, rfl⟩
section
variable {w : World}
set_option maxHeartbeats 2000000 in
set_option maxRecDepth 100000 in
theorem sapt_no (hT : Tab w) (hH : Hand w) {A : Option Addr} {c : Nat} {l : List Mk} (hl : Mks w.heap.size w A l) (x y : AskP) (fx : AskFit x) (fy : AskFit y) (t : Int) (hno : fewB l 20 = false ∨ fewB l 20 = true ∧ (fewA x = false ∨ fewA x = true ∧ fewA y = false)) :
    Calls Tryz.prog 3 #[.slice A l.length c, ask2V x y, .int .i64 t] w (fun e w' => e = .returned (.bool true) ∧ Below w.heap.size w w') := by
  unfold ask2V
  obtain ⟨W0, hW0⟩ : ∃ W0, W0 = w.alloc (.cells #[.int .i64 x.ses, .string x.user, .string x.svc, .string x.alg, .int .i64 x.who, .int .i64 y.ses, .string y.user, .string y.svc, .string y.alg, .int .i64 y.who] 25) := ⟨_, rfl⟩
  have hbW : Below w.heap.size w W0 := by rw [hW0]; exact (Below.refl _ _).alloc (Nat.le_refl _) _
  have hM : Blk W0 w.heap.size 25 #[.int .i64 x.ses, .string x.user, .string x.svc, .string x.alg, .int .i64 x.who, .int .i64 y.ses, .string y.user, .string y.svc, .string y.alg, .int .i64 y.who] := by rw [hW0]; exact Blk.new w _ _
  have HF := hide (few02_all (c := c) (hl.outs (Outs.of_below (R := fun _ => False) hbW) (fun i h => h.elim)) 20 (by decide))
  have HX := hide (fun W => few22_any x W fx.u fx.s fx.a)
  have HY := hide (fun W => few22_any y W fy.u fy.s fy.a)
  have HAW := hide (fun (W : World) (hb : Below w.heap.size w W) => awake22_any (hT.below hb) (hH.below hb))
  have HM := hide hM
  clear hT hH hl fx fy hM
  rcases hno with h0 | ⟨h0, h1 | ⟨h1, h2⟩⟩
  · rw [h0] at HF
    clear h0 HX HY
    go_enter Tryz.func3, Tryz.ntmps3
    go_upto_region 1 with fail
    rw [← hW0]
    clear hW0
    go_wp2_with (first
      | (go_at_call 6; refine HF.out.mono ?_; rintro e w1 ⟨rfl, rfl⟩)
      | fail)
    refine (HAW.out _ hbW).mono ?_
    rintro e w2 ⟨rfl, hb2⟩
    go_wp2_with fail
    go_ret
    exact ⟨rfl, hbW.trans (hb2.mono hbW.size)⟩
  · rw [h0] at HF
    rw [h1] at HX
    clear h0 h1 HY
    go_enter Tryz.func3, Tryz.ntmps3
    go_upto_region 1 with fail
    rw [← hW0]
    clear hW0
    obtain ⟨q0, q1, q2, q3, q4, q5, q6, q7, q8, q9⟩ := ask10 HM.out
    go_wp2_with (first
      | (go_at_call 6; refine HF.out.mono ?_; rintro e w1 ⟨rfl, rfl⟩)
      | fail)
    refine (HX.out _).mono ?_
    rintro e w2 ⟨rfl, hb2⟩
    have hbw2 := hbW.trans (hb2.mono hbW.size)
    clear q0 q1 q2 q3 q4 q5 q6 q7 q8 q9
    go_wp2_with fail
    refine (HAW.out _ hbw2).mono ?_
    rintro e w4 ⟨rfl, hb4⟩
    go_wp2_with fail
    go_ret
    exact ⟨rfl, hbw2.trans (hb4.mono hbw2.size)⟩
  · rw [h0] at HF
    rw [h1] at HX
    rw [h2] at HY
    clear h0 h1 h2
    go_enter Tryz.func3, Tryz.ntmps3
    go_upto_region 1 with fail
    rw [← hW0]
    clear hW0
    obtain ⟨q0, q1, q2, q3, q4, q5, q6, q7, q8, q9⟩ := ask10 HM.out
    go_wp2_with (first
      | (go_at_call 6; refine HF.out.mono ?_; rintro e w1 ⟨rfl, rfl⟩)
      | fail)
    refine (HX.out _).mono ?_
    rintro e w2 ⟨rfl, hb2⟩
    have hbw2 := hbW.trans (hb2.mono hbW.size)
    have hM2 := HM.out.below hb2 HM.out.lt
    clear q0 q1 q2 q3 q4 q5 q6 q7 q8 q9
    obtain ⟨q0, q1, q2, q3, q4, q5, q6, q7, q8, q9⟩ := ask10 hM2
    go_wp2_with fail
    refine (HY.out _).mono ?_
    rintro e w3 ⟨rfl, hb3⟩
    have hbw3 := hbw2.trans (hb3.mono hbw2.size)
    clear q0 q1 q2 q3 q4 q5 q6 q7 q8 q9 hM2
    go_wp2_with fail
    refine (HAW.out _ hbw3).mono ?_
    rintro e w4 ⟨rfl, hb4⟩
    go_wp2_with fail
    go_ret
    exact ⟨rfl, hbw3.trans (hb4.mono hbw3.size)⟩
theorem saptLaw_any (hT : Tab w) (hH : Hand w) {A : Option Addr} {c : Nat} {l : List Mk} (hl : Mks w.heap.size w A l) {v : Value} (hv : ∃ us : List Value, v = .agg us.toArray ∧ Shp.oks w askS2 us) (t : Int) :
    Calls Tryz.prog 3 #[.slice A l.length c, v, .int .i64 t] w (fun e w' => e = .returned (.bool true) ∧ Below w.heap.size w w') := by
  obtain ⟨us, hv1, hv2⟩ := hv
  obtain ⟨x, y, fx, fy, ev⟩ := open_asks2 hv2
  obtain rfl : v = ask2V x y := hv1.trans ev
  clear hv1 ev
  cases hf : fewB l 20 with
  | true =>
    obtain ⟨h1, h2⟩ := few02_open hf
    cases hx : fewA x with
    | true =>
      cases hy : fewA y with
      | true => exact sapt_any hT hH hl hf (by omega) (fun y hy => by have := h2 y hy; omega) x y hx hy t
      | false => exact sapt_no hT hH hl x y fx fy t (.inr ⟨hf, .inr ⟨hx, hy⟩⟩)
    | false => exact sapt_no hT hH hl x y fx fy t (.inr ⟨hf, .inl hx⟩)
  | false => exact sapt_no hT hH hl x y fx fy t (.inl hf)
end

set_option maxRecDepth 100000 in
theorem lifted_SignApart (os : Os) (started : os.Started) (H : Type) (enc : TypeId × Value → H) :
    ReturnsInHanded {} Tryz.checked os 3 .any (fun w args => (Rows.signApartSpec.pre enc Tryz.prog Tryz.f3 [] false w args ∧ laidMetH Tryz.prog Rows.signApartRow.laid w) ∧ sizedMet enc Tryz.prog Tryz.f3 (OpenSpec.ofChange Rows.signApartSpec) false w args)
      (Rows.signApartSpec.post enc Tryz.prog Tryz.f3 false true false false) := by
  refine returnsInHanded_of_change_and (C := Tryz.checked) (X := fun w _ => laidMetH Tryz.prog Rows.signApartRow.laid w) (fun _ _ _ hh h => h.of_heap hh) own started (by kernel_rfl) Tryz.func3
    (ChangeSpec.witness_shaped (enc := enc) (C := Tryz.checked) (os := os) (X := fun w _ => laidMetH Tryz.prog Rows.signApartRow.laid w) false (handWorld os) #[.slice none 0 0, .agg #[.int .i64 0, .string ByteArray.empty, .string ByteArray.empty, .string ByteArray.empty, .int .i64 0, .int .i64 0, .string ByteArray.empty, .string ByteArray.empty, .string ByteArray.empty, .int .i64 0], .int .i64 0] 8 (handWorld_os os)
      (handWorld_shaped os) (by kernel_rfl) (by kernel_rfl) (by kernel_rfl)
      (laidMetH_hand os _)) ?_
  intro W base args ds gs before hval0 hW _ _ hL _
  have hval : ∀ (j : Nat) t v, Tryz.f3.params[j]? = some t → args[j]? = some v → Value.okWide Tryz.prog W .any base t v := hval0
  have hW' := hW
  obtain ⟨p, q, hA0, hV, rfl, hfz, hnd⟩ := hW
  have hA : DataW.TrodAll enc Tryz.prog W 0 (fun _ => true) true Tryz.f3.params.toList args.toList ds p := hA0
  rw [Tryz.params3] at hA hval
  obtain ⟨v0, vs0, d0, ds0, p0, q0, hargs, rfl, rfl, h0, r0⟩ := trodAll_cons hA
  obtain ⟨v1, vs1, d1, ds1, p1, q1, rfl, rfl, rfl, h1, r1⟩ := trodAll_cons r0
  obtain ⟨v2, vs2, d2, ds2, p2, q2, rfl, rfl, rfl, h2, r2⟩ := trodAll_cons r1
  obtain ⟨rfl, rfl, rfl⟩ := trodAll_nil r2
  obtain rfl : args = #[v0, v1, v2] := by cases args; simp_all
  obtain ⟨A0, c0, l0, rfl, hl0, hm0⟩ := open_makes (open_slice 6 (l := mkS) Tryz.underlying22 (by kernel_rfl) (hval 0 22 v0 rfl rfl) h0)
  have H1 := open_array 5 (l := askS2) Tryz.underlying25 (by kernel_rfl) (hval 1 25 v1 rfl rfl) h1
  obtain ⟨n2, rfl, _, _, w2⟩ := open_int Tryz.underlying3 (hval 2 3 v2 rfl rfl) h2
  have hS := hand_split hL
  have hT := tab_of_laid hS.1
  have hE := hand_of_met hS.2
  refine (saptLaw_any hT hE hm0 H1 n2).mono fun e W' ⟨he, bel⟩ => ?_
  subst he
  exact ⟨_, rfl, law_post 4 laidOut (by kernel_rfl) rfl Tryz.underlying4 rfl hW' (fun ds' hl _ => by match ds', hl with | [x0, x1, x2], _ => rfl) bel⟩

theorem over_SignApart : Rows.signApartRow.holds Tryz.pinned (OpenSpec.ofChange Rows.signApartSpec) :=
  OpenClaim.holds_of_wide 3 Tryz.f3 rfl rfl rfl rfl rfl rfl rfl ⟨rfl, rfl, rfl, rfl, rfl⟩ rfl rfl rfl rfl rfl (by kernel_rfl) Tryz.func3 (by kernel_rfl)
    (of_decide_eq_true (by kernel_rfl)) (by unfold Func.isWrapper; first | (rw [if_pos (by decide +kernel)]; kernel_rfl) | (rw [if_neg (by decide +kernel)]; exact ⟨rfl, rfl⟩))
    (fun os started H enc _ => lifted_SignApart os started H enc)

theorem stand_SignApart : ∀ (j : Nat) (t : TypeId), Tryz.f3.params[j]? = some t → Tryz.prog.wantsStandIn t = false := fun j t ht => by
  have hall : (Tryz.f3.params.toList.all fun u => !Tryz.prog.wantsStandIn u) = true := by kernel_rfl
  have hm : t ∈ Tryz.f3.params.toList := Array.mem_toList_iff.2 (Array.mem_of_getElem? ht)
  simpa using List.all_eq_true.1 hall t hm
/-- The given statement. -/
theorem signApart_holds : Rows.SignApartCardSaid :=
  show Claim7.holds Tryz.pinned (.plain (OpenSpec.ofChange Rows.signApartSpec)) Rows.signApartCard from
  Claim7.holds_tied_plain_at .later [] _ true _ true over_SignApart (fun _ h => by cases h) (by kernel_rfl) (fun _ h => by cases h) signApart_row_tie rfl ⟨rfl, rfl⟩ (by kernel_rfl) rfl
    (fun f fn hf hfn => by
      obtain rfl : f = 3 := Option.some.inj ((show Tryz.prog.funcNamed Rows.signApartRow.func = some 3 by kernel_rfl).symm.trans hf) |>.symm
      obtain rfl : fn = Tryz.f3 := (Option.some.inj (Tryz.func3.symm.trans hfn)).symm
      exact ⟨by kernel_rfl, stand_SignApart⟩)
    (by kernel_rfl)

end Go.Proofs.YtephdodkijanmaaGreatDoor
