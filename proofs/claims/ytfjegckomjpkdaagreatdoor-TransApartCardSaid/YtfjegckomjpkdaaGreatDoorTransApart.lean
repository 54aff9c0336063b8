/-
  The law TransApart: unlike parts have unlike hashes. Conditions: none but the listed variables.
-/
import Derived.Test.YtfjegckomjpkdaaGreatDoorApart
import Derived.Test.YtfjegckomjpkdaaGreatDoorTransHashes
set_option linter.unusedVariables false
set_option linter.unusedSimpArgs false
namespace Go.Proofs.YtfjegckomjpkdaaGreatDoor
open Go.ChangeShapes Go.WideShapes Go.ChangeAt Go.RowKit Go.Sort
open Go.ChangeMaps (open_string shut_string)
section
variable {w : World}
set_option maxHeartbeats 4000000 in
set_option maxRecDepth 100000 in
/-- Where one of the tests ahead fails. -/
theorem apart_early (hT : Tab w) {A : Option Addr} {c : Nat} {l : List Mk} (hl : Mks w.heap.size w A l) (x y : RawP) (hx : RawFit x) (hy : RawFit y)
    (hc : fewB l 15 = false ∨ (fewB l 15 = true ∧ fewR x = false) ∨ (fewB l 15 = true ∧ fewR x = true ∧ fewR y = false) ∨ (fewB l 15 = true ∧ fewR x = true ∧ fewR y = true ∧ (zAhd x.gp || zAhd x.gg) = true) ∨ (fewB l 15 = true ∧ fewR x = true ∧ fewR y = true ∧ (zAhd x.gp || zAhd x.gg) = false ∧ (zAhd y.gp || zAhd y.gg) = true)) :
    Calls Tryz.prog 9 #[.slice A l.length c, rawV x, rawV y] w (fun e w' => e = .returned (.bool true) ∧ Below w.heap.size w w') := by
  have HF := hide (fun (W : World) (hb : Below w.heap.size w W) => few_all (c := c) (hl.outs (Outs.of_below (R := fun _ => False) hb) (fun i h => h.elim)) 15 (by decide))
  have HRx := hide (fun W => rawFew_any x hx W)
  have HRy := hide (fun W => rawFew_any y hy W)
  have HAx := hide (fun W => ahead_any x.gp x.gg W hx.gp hx.gg)
  have HAy := hide (fun W => ahead_any y.gp y.gg W hy.gp hy.gg)
  have HAW := hide (fun (W : World) (hb : Below w.heap.size w W) => awake20_any (hT.below hb))
  clear hT hl hx hy
  unfold rawV at *
  go_enter Tryz.func9, Tryz.ntmps9
  go_upto_region 1 with fail
  obtain ⟨W0, hW⟩ : ∃ W, W = ((w.alloc (.cells #[.string x.v0, .string x.v1, .string x.v2, .string x.v3, .int .i64 x.t0, .int .i64 x.t1, .int .i64 x.t2, .int .i64 x.t3, .bool x.asks, .int .u32 x.w0, .int .u32 x.w1, .int .u32 x.w2, .string x.gp, .string x.gg] 82)).alloc (.cells #[.string y.v0, .string y.v1, .string y.v2, .string y.v3, .int .i64 y.t0, .int .i64 y.t1, .int .i64 y.t2, .int .i64 y.t3, .bool y.asks, .int .u32 y.w0, .int .u32 y.w1, .int .u32 y.w2, .string y.gp, .string y.gg] 82)) := ⟨_, rfl⟩
  rw [← hW]
  have hb0 : Below w.heap.size w W0 := by rw [hW]; (repeat (first | exact Below.refl _ _ | refine below_drewN ?_ _ | refine Below.drew ?_ | refine Below.alloc ?_ (by first | omega | (simp; done) | (simp; omega)) _ | refine Below.setCell ?_ (by first | omega | (simp; done) | (simp; omega)) _ | refine bel_alloc ?_ _ | refine bel_trans ?_ (by assumption) | refine Below.trans ?_ (Below.mono (by assumption) (by first | omega | (simp; done) | (simp; omega)))))
  have q4 : Blk W0 w.heap.size 82 #[.string x.v0, .string x.v1, .string x.v2, .string x.v3, .int .i64 x.t0, .int .i64 x.t1, .int .i64 x.t2, .int .i64 x.t3, .bool x.asks, .int .u32 x.w0, .int .u32 x.w1, .int .u32 x.w2, .string x.gp, .string x.gg] := by rw [hW]; exact blk_at rfl (by (repeat (first | exact Below.refl _ _ | refine below_drewN ?_ _ | refine Below.drew ?_ | refine Below.alloc ?_ (by first | omega | (simp; done) | (simp; omega)) _ | refine Below.setCell ?_ (by first | omega | (simp; done) | (simp; omega)) _ | refine bel_alloc ?_ _ | refine bel_trans ?_ (by assumption) | refine Below.trans ?_ (Below.mono (by assumption) (by first | omega | (simp; done) | (simp; omega))))))
  have q5 : Blk W0 (w.heap.size + 1) 82 #[.string y.v0, .string y.v1, .string y.v2, .string y.v3, .int .i64 y.t0, .int .i64 y.t1, .int .i64 y.t2, .int .i64 y.t3, .bool y.asks, .int .u32 y.w0, .int .u32 y.w1, .int .u32 y.w2, .string y.gp, .string y.gg] := by rw [hW]; exact blk_at (W := w.alloc (.cells #[.string x.v0, .string x.v1, .string x.v2, .string x.v3, .int .i64 x.t0, .int .i64 x.t1, .int .i64 x.t2, .int .i64 x.t3, .bool x.asks, .int .u32 x.w0, .int .u32 x.w1, .int .u32 x.w2, .string x.gp, .string x.gg] 82)) (by simp) (by (repeat (first | exact Below.refl _ _ | refine below_drewN ?_ _ | refine Below.drew ?_ | refine Below.alloc ?_ (by first | omega | (simp; done) | (simp; omega)) _ | refine Below.setCell ?_ (by first | omega | (simp; done) | (simp; omega)) _ | refine bel_alloc ?_ _ | refine bel_trans ?_ (by assumption) | refine Below.trans ?_ (Below.mono (by assumption) (by first | omega | (simp; done) | (simp; omega))))))
  clear hW
  obtain ⟨a0, a1, a2, a3, a4, a5, a6, a7, a8, a9, a10, a11, a12, a13⟩ := cells14 q4
  rcases hc with h1 | ⟨h1, h2⟩ | ⟨h1, h2, h3⟩ | ⟨h1, h2, h3, h4⟩ | ⟨h1, h2, h3, h4, h5⟩
  all_goals (try rw [h1] at HF)
  all_goals (try rw [h2] at HRx)
  all_goals (try rw [h3] at HRy)
  all_goals (try rw [h4] at HAx)
  all_goals (try rw [h5] at HAy)
  all_goals (try clear h1)
  all_goals (try clear h2)
  all_goals (try clear h3)
  all_goals (try clear h4)
  all_goals (try clear h5)
  all_goals go_wp2_with (first
    | (go_at_call 11; refine (HF.out _ hb0).mono ?_; rintro e w1 ⟨rfl, rfl⟩)
    | (go_at_call 40; with_reducible refine (HRx.out _).mono ?_; rintro e w2 ⟨rfl, hb2⟩; replace q4 := q4.below hb2 q4.lt; replace q5 := q5.below hb2 q5.lt; replace hb0 := hb0.trans (hb2.mono hb0.size); clear a0 a1 a2 a3 a4 a5 a6 a7 a8 a9 a10 a11 a12 a13; obtain ⟨b0, b1, b2, b3, b4, b5, b6, b7, b8, b9, b10, b11, b12, b13⟩ := cells14 q5)
    | (go_at_call 40; with_reducible refine (HRy.out _).mono ?_; rintro e w3 ⟨rfl, hb3⟩; replace q4 := q4.below hb3 q4.lt; replace q5 := q5.below hb3 q5.lt; replace hb0 := hb0.trans (hb3.mono hb0.size); clear b0 b1 b2 b3 b4 b5 b6 b7 b8 b9 b10 b11 b12 b13; obtain ⟨a0, a1, a2, a3, a4, a5, a6, a7, a8, a9, a10, a11, a12, a13⟩ := cells14 q4)
    | (go_at_call 41; with_reducible refine (HAx.out _).mono ?_; rintro e w4 ⟨rfl, hb4⟩; replace q4 := q4.below hb4 q4.lt; replace q5 := q5.below hb4 q5.lt; replace hb0 := hb0.trans (hb4.mono hb0.size); clear a0 a1 a2 a3 a4 a5 a6 a7 a8 a9 a10 a11 a12 a13; obtain ⟨b0, b1, b2, b3, b4, b5, b6, b7, b8, b9, b10, b11, b12, b13⟩ := cells14 q5)
    | (go_at_call 41; with_reducible refine (HAy.out _).mono ?_; rintro e w5 ⟨rfl, hb5⟩; replace hb0 := hb0.trans (hb5.mono hb0.size))
    | (go_at_call 42; refine (HAW.out _ hb0).mono ?_; rintro e w9 ⟨rfl, hb9⟩; replace hb0 := hb0.trans (hb9.mono hb0.size))
    | fail)
  all_goals go_ret
  all_goals exact ⟨rfl, hb0⟩
theorem transApart_any (hT : Tab w) {A : Option Addr} {c : Nat} {l : List Mk} (hl : Mks w.heap.size w A l) (x y : RawP) (hx : RawFit x) (hy : RawFit y) :
    Calls Tryz.prog 9 #[.slice A l.length c, rawV x, rawV y] w (fun e w' => e = .returned (.bool true) ∧ Below w.heap.size w w') := by
  cases hf : fewB l 15 with
  | false => exact apart_early hT hl x y hx hy (.inl hf)
  | true =>
    cases hfx : fewR x with
    | false => exact apart_early hT hl x y hx hy (.inr (.inl ⟨hf, hfx⟩))
    | true =>
      cases hfy : fewR y with
      | false => exact apart_early hT hl x y hx hy (.inr (.inr (.inl ⟨hf, hfx, hfy⟩)))
      | true =>
        cases hax : (zAhd x.gp || zAhd x.gg) with
        | true => exact apart_early hT hl x y hx hy (.inr (.inr (.inr (.inl ⟨hf, hfx, hfy, hax⟩))))
        | false =>
          cases hay : (zAhd y.gp || zAhd y.gg) with
          | true => exact apart_early hT hl x y hx hy (.inr (.inr (.inr (.inr ⟨hf, hfx, hfy, hax, hay⟩))))
          | false =>
            obtain ⟨h1, h2⟩ := fewB_open hf
            exact apart_any hT hl hf (by omega) (fun z hz => by have := h2 z hz; omega) x y hx hy hfx hfy hax hay
end

set_option maxRecDepth 100000 in
theorem lifted_TransApart (os : Os) (started : os.Started) (H : Type) (enc : TypeId × Value → H) :
    ReturnsInHanded {} Tryz.checked os 9 .any (fun w args => (Rows.transApartSpec.pre enc Tryz.prog Tryz.f9 [] false w args ∧ laidMetH Tryz.prog Rows.transApartRow.laid w) ∧ sizedMet enc Tryz.prog Tryz.f9 (OpenSpec.ofChange Rows.transApartSpec) false w args)
      (Rows.transApartSpec.post enc Tryz.prog Tryz.f9 false true false false) := by
  refine returnsInHanded_of_change_and (C := Tryz.checked) (X := fun w _ => laidMetH Tryz.prog Rows.transApartRow.laid w) (fun _ _ _ hh h => h.of_heap hh) own started (by kernel_rfl) Tryz.func9
    (ChangeSpec.witness_shaped (enc := enc) (C := Tryz.checked) (os := os) (X := fun w _ => laidMetH Tryz.prog Rows.transApartRow.laid w) false (World.laidAll Tryz.prog os Rows.transApartRow.laid) #[.slice none 0 0, .agg #[.string ByteArray.empty, .string ByteArray.empty, .string ByteArray.empty, .string ByteArray.empty, .int .i64 0, .int .i64 0, .int .i64 0, .int .i64 0, .bool false, .int .u32 0, .int .u32 0, .int .u32 0, .string ByteArray.empty, .string ByteArray.empty], .agg #[.string ByteArray.empty, .string ByteArray.empty, .string ByteArray.empty, .string ByteArray.empty, .int .i64 0, .int .i64 0, .int .i64 0, .int .i64 0, .bool false, .int .u32 0, .int .u32 0, .int .u32 0, .string ByteArray.empty, .string ByteArray.empty]] 8 (World.laidAll_os _ _ _)
      (World.shaped_of_ZipB (by kernel_rfl) (by kernel_rfl)) (by kernel_rfl) (by kernel_rfl) (by kernel_rfl)
      (by rw [MakeChecks.laidMetH_plain _ _ _ (by kernel_rfl)]; exact laidMet_laidAll _ (by kernel_rfl) (by kernel_rfl))) ?_
  intro W base args ds gs before hval0 hW _ _ hL _
  have hval : ∀ (j : Nat) t v, Tryz.f9.params[j]? = some t → args[j]? = some v → Value.okWide Tryz.prog W .any base t v := hval0
  have hW' := hW
  obtain ⟨p, q, hA0, hV, rfl, hfz, hnd⟩ := hW
  have hA : DataW.TrodAll enc Tryz.prog W 0 (fun _ => true) true Tryz.f9.params.toList args.toList ds p := hA0
  rw [Tryz.params9] at hA hval
  obtain ⟨v0, vs0, d0, ds0, p0, q0, hargs, rfl, rfl, h0, r0⟩ := trodAll_cons hA
  obtain ⟨v1, vs1, d1, ds1, p1, q1, rfl, rfl, rfl, h1, r1⟩ := trodAll_cons r0
  obtain ⟨v2, vs2, d2, ds2, p2, q2, rfl, rfl, rfl, h2, r2⟩ := trodAll_cons r1
  obtain ⟨rfl, rfl, rfl⟩ := trodAll_nil r2
  obtain rfl : args = #[v0, v1, v2] := by cases args; simp_all
  obtain ⟨A0, c0, l0, rfl, hl0, hm0⟩ := open_makes (open_slice 6 (l := mkS) Tryz.underlying22 (by kernel_rfl) (hval 0 22 v0 rfl rfl) h0)
  obtain ⟨x1, f1, rfl⟩ := open_rawV (hval 1 82 v1 rfl rfl) h1
  obtain ⟨x2, f2, rfl⟩ := open_rawV (hval 2 82 v2 rfl rfl) h2
  rw [MakeChecks.laidMetH_plain _ _ _ (by kernel_rfl)] at hL
  have hT := tab_of_laid hL
  refine (transApart_any hT hm0 x1 x2 f1 f2).mono fun e W' ⟨he, bel⟩ => ?_
  subst he
  exact ⟨_, rfl, law_post 4 laidOut (by kernel_rfl) rfl Tryz.underlying4 rfl hW' (fun ds' hl _ => by match ds', hl with | [x0, x1, x2], _ => rfl) bel⟩

theorem over_TransApart : Rows.transApartRow.holds Tryz.pinned (OpenSpec.ofChange Rows.transApartSpec) :=
  OpenClaim.holds_of_wide 9 Tryz.f9 rfl rfl rfl rfl rfl rfl rfl ⟨rfl, rfl, rfl, rfl, rfl⟩ rfl rfl rfl rfl rfl (by kernel_rfl) Tryz.func9 (by kernel_rfl)
    (of_decide_eq_true (by kernel_rfl)) (by unfold Func.isWrapper; first | (rw [if_pos (by decide +kernel)]; kernel_rfl) | (rw [if_neg (by decide +kernel)]; exact ⟨rfl, rfl⟩))
    (fun os started H enc _ => lifted_TransApart os started H enc)

theorem stand_TransApart : ∀ (j : Nat) (t : TypeId), Tryz.f9.params[j]? = some t → Tryz.prog.wantsStandIn t = false := fun j t ht => by
  have hall : (Tryz.f9.params.toList.all fun u => !Tryz.prog.wantsStandIn u) = true := by kernel_rfl
  have hm : t ∈ Tryz.f9.params.toList := Array.mem_toList_iff.2 (Array.mem_of_getElem? ht)
  simpa using List.all_eq_true.1 hall t hm
/-- The given statement. -/
theorem transApart_holds : Rows.TransApartCardSaid :=
  show Claim7.holds Tryz.pinned (.plain (OpenSpec.ofChange Rows.transApartSpec)) Rows.transApartCard from
  Claim7.holds_tied_plain_at .later [] _ true _ true over_TransApart (fun _ h => by cases h) (by kernel_rfl) (fun _ h => by cases h) transApart_row_tie rfl ⟨rfl, rfl⟩ (by kernel_rfl) rfl
    (fun f fn hf hfn => by
      obtain rfl : f = 9 := Option.some.inj ((show Tryz.prog.funcNamed Rows.transApartRow.func = some 9 by kernel_rfl).symm.trans hf) |>.symm
      obtain rfl : fn = Tryz.f9 := (Option.some.inj (Tryz.func9.symm.trans hfn)).symm
      exact ⟨by kernel_rfl, stand_TransApart⟩)
    (by kernel_rfl)

end Go.Proofs.YtfjegckomjpkdaaGreatDoor
