/-
  TransHashes' walk up to its parts. Conditions: few makes, fitting numbers.
-/
import Derived.Test.YtfjegckomjpkdaaGreatDoorAwake20
import Derived.Test.YtfjegckomjpkdaaGreatDoorPartsA
import Derived.Test.YtfjegckomjpkdaaGreatDoorOrdE
set_option linter.unusedVariables false
set_option linter.unusedSimpArgs false
namespace Go.Proofs.YtfjegckomjpkdaaGreatDoor
open Go.RowKit Go.ChangeShapes Go.WideShapes Go.Sort
theorem blk_ty {w : World} {b : Nat} {t t' : TypeId} {cs cs' : Array Value} (h : Blk w b t cs) (h' : Blk w b t' cs') (hne : t ≠ t') : False := by
  have h2 := h.symm.trans h'
  injection h2 with h3
  injection h3 with _ h4
  exact hne h4
/-- What is there behind the parts. -/
def Cut4 (w : World) (g : Nat) (l : List Mk) (x : RawP) (B : Nat) (v6 v7 : Value) (wc : World) : Prop :=
  ∃ T S b6 b7 n0 n1 n2 n3, v6 = .pointer (some ⟨b6, 0, none⟩) ∧ v7 = .pointer (some ⟨b7, 0, none⟩) ∧ C4 B g w (makes l) x T S b6 b7 n0 n1 n2 n3 wc ∧ T.length ≤ 1000000
section
variable {w : World}
set_option maxHeartbeats 8000000 in
set_option maxRecDepth 100000 in
theorem hashes_any (hT : Tab w) {A : Option Addr} {c : Nat} {l : List Mk} (hl : Mks w.heap.size w A l) (hf : fewB l 15 = true) (hll : l.length ≤ 1000) (hls : ∀ x ∈ l, x.s.size ≤ 1000000) (x : RawP) (hx : RawFit x) (hfx : fewR x = true) :
    Calls Tryz.prog 10 #[.slice A l.length c, rawV x] w (fun e w' => e = .returned (.bool true) ∧ Below w.heap.size w w') := by
  have HF := hide (fun (W : World) (hb : Below w.heap.size w W) => few_any (c := c) (hl.outs (Outs.of_below (R := fun _ => False) hb) (fun i h => h.elim)) (by omega) 15)
  have HR := hide (fun W => rawFew_any x hx W)
  have HT := hide hT
  unfold rawV at *
  go_enter Tryz.func10, Tryz.ntmps10
  go_upto_region 3 with (first
    | (go_at_call 11; refine (HF.out _ (by (repeat (first | exact Below.refl _ _ | refine below_drewN ?_ _ | refine Below.drew ?_ | refine Below.alloc ?_ (by first | omega | (simp; done) | (simp; omega)) _ | refine Below.setCell ?_ (by first | omega | (simp; done) | (simp; omega)) _ | refine bel_alloc ?_ _ | refine bel_trans ?_ (by assumption) | refine Below.trans ?_ (Below.mono (by assumption) (by first | omega | (simp; done) | (simp; omega))))))).mono ?_; rintro e w1 ⟨rfl, rfl⟩; rw [hf])
    | (go_at_call 40; refine (HR.out _).mono ?_; rintro e w2 ⟨rfl, hb2⟩; rw [hfx])
    | fail)
  have hraw : Blk w2 w.heap.size 82 (rawC x) := blk_at (W := w) rfl (by unfold rawC; exact hb2.mono (by simp))
  have hbw : Below w.heap.size w w2 := (bel_new (w := w) _).trans (hb2.mono (by simp))
  have hwB := hraw.lt
  have HN := hide (new_any w2)
  have HB := hide hbw
  have HW := hide hraw
  clear HF HR hb2 hbw hraw
  go_upto_region 4 with (first
    | (go_at_call 13; refine HN.out.mono ?_; rintro e w3 ⟨g, S, rfl, hA3, hb3⟩)
    | fail)
  have hU3 : Use w2.heap.size w3 g [] S := use_new (HT.out.below HB.out) hA3 hb3
  have HR3 := hide (show R4 w2.heap.size g w w.heap.size 82 (rawC x) [] S none none w3 from
    ⟨HB.out.trans (hb3.mono (Nat.le_of_lt hwB)), HW.out.below hb3 hwB, fun h => (by have := hA3.sB _ h; omega), hU3, fun b e => (by cases e), fun b e => (by cases e)⟩)
  have hwB := Nat.le_of_lt hwB
  clear hA3 hb3 hU3 HN HB HW
  generalize w2.heap.size = B at HR3 hwB
  go_cut [6, 7] (fun v6 v7 wc => Cut4 w g l x B v6 v7 wc)
  case first =>
    as_aux_lemma =>
      refine wp_region_E (fun W => Blk W w.heap.size 82 (rawC x)) (fun j => [3, 5, 6, 7, 8, 9, 10].contains j) (by kernel_rfl) ?_
      obtain ⟨W0, hW0⟩ : ∃ W0, W0 = w3.drew := ⟨_, rfl⟩
      rw [← hW0]
      have hR : R4 B g w w.heap.size 82 (rawC x) [] S none none W0 := by rw [hW0]; exact HR3.out.below (Below.refl _ _).drew
      clear hW0
      refine wpAnyE_takeY (i := 1) (oi := ?_) (v := .pointer (some ⟨g, 0, none⟩)) ?_ ?_ ?_ ?_ ?_ ?_ ?_ ?_
      rotate_left 1
      · (first | (simp only [List.getElem?_toArray, List.getElem?_cons_succ, List.getElem?_cons_zero]; exact rfl) | exact rfl)
      · kernel_rfl
      · kernel_rfl
      · kernel_rfl
      · rfl
      · exact fun _ _ _ h => h
      · exact Or.inl ⟨by rfl, fun w _ => by go_simp⟩
      try simp only [Act.put, List.setIfInBounds_toArray, List.set_cons_zero, List.set_cons_succ]
      refine wpAnyE_takeY (i := 2) (oi := ?_) (v := .slice A l.length c) ?_ ?_ ?_ ?_ ?_ ?_ ?_ ?_
      rotate_left 1
      · (first | (simp only [List.getElem?_toArray, List.getElem?_cons_succ, List.getElem?_cons_zero]; exact rfl) | exact rfl)
      · kernel_rfl
      · kernel_rfl
      · kernel_rfl
      · rfl
      · exact fun _ _ _ h => h
      · exact Or.inl ⟨by rfl, fun w _ => by go_simp⟩
      try simp only [Act.put, List.setIfInBounds_toArray, List.set_cons_zero, List.set_cons_succ]
      refine wpAnyE_take (i := 0) (oi := ?_) (v := .agg #[.string x.v0, .string x.v1, .string x.v2, .string x.v3, .int .i64 x.t0, .int .i64 x.t1, .int .i64 x.t2, .int .i64 x.t3, .bool x.asks, .int .u32 x.w0, .int .u32 x.w1, .int .u32 x.w2, .string x.gp, .string x.gg]) ?_ ?_ ?_ ?_ ?_ ?_ ?_ hR.raw ?_
      rotate_left 1
      · (first | (simp only [List.getElem?_toArray, List.getElem?_cons_succ, List.getElem?_cons_zero]; exact rfl) | exact rfl)
      · kernel_rfl
      · kernel_rfl
      · kernel_rfl
      · kernel_rfl
      · exact fun _ _ _ h => h
      · refine Or.inl ⟨by rfl, fun w hSw => ?_⟩
        obtain ⟨k0, k1, k2, k3, k4, k5, k6, k7, k8, k9, k10, k11, k12, k13⟩ := cells14 hSw
        clear hSw
        go_simp
      try simp only [Act.put, List.setIfInBounds_toArray, List.set_cons_zero, List.set_cons_succ]
      refine wpAnyE_ready (rs := [3, 8, 9]) (by kernel_rfl) (by simp) ?_
      refine AllReadyE.cons (o := ?_) ?_ (fun K hK => ?_) ?_
      rotate_left 1
      · (first | (simp only [List.getElem?_toArray, List.getElem?_cons_succ, List.getElem?_cons_zero]; exact rfl) | exact rfl)
      · skip
        refine step_call2 (u := .pointer (some ⟨g, 0, none⟩)) (v := .slice A l.length c) (f := 14) rfl (callP (x := .tmp 20) (y := .tmp 21) _ rfl (.inr rfl) _ (by rfl) (by rfl) _) (makes_any hR.use ((hl.outs (Outs.of_below (R := fun _ => False) hR.bel) (fun i h => h.elim)).mono hwB) (by omega) hls (by simp; omega)) ?_
        rintro e W1 ⟨T4, S4, v1, v2, rfl, hmd, hpre4, hT4, hA4, hG4⟩
        refine ⟨_, rfl, ?_⟩
        have hM := hmd.md
        have hT5 : T4.length ≤ 1000000 := by simp at hT4; omega
        have hR := hR.grown hwB hG4 hA4 (by omega)
        clear hmd hpre4 hA4 hG4
        refine hK.out _ _ hR.raw (fun _ => ?_)
        clear hK K
        try simp only [Act.put, List.setIfInBounds_toArray, List.set_cons_zero, List.set_cons_succ]
        refine wpAnyE_ready (rs := [4, 8, 9]) (by kernel_rfl) (by simp) ?_
        refine AllReadyE.late (o := ?_) ?_ rfl (fun K hK => ?_) ?_
        rotate_left 1
        · (first | (simp only [List.getElem?_toArray, List.getElem?_cons_succ, List.getElem?_cons_zero]; exact rfl) | exact rfl)
        · skip
          refine step_call2 (u := .agg #[.string x.v0, .string x.v1, .string x.v2, .string x.v3, .int .i64 x.t0, .int .i64 x.t1, .int .i64 x.t2, .int .i64 x.t3, .bool x.asks, .int .u32 x.w0, .int .u32 x.w1, .int .u32 x.w2, .string x.gp, .string x.gg]) (v := .agg #[v1, v2]) (f := 43) rfl (callP (x := .tmp 19) (y := .tmp 22) _ rfl (.inl rfl) _ (by rfl) (by rfl) _) (parts_any2 hM x hx (by rw [makes_len]; omega)) ?_
          rintro e W2 ⟨n0, n1, n2, n3, rfl, hi0, hi1, hi2, hi3, hb9⟩
          refine ⟨_, rfl, ?_⟩
          have hR := hR.below hb9
          clear hb9 hM
          refine hK.out _ _ ?_
          clear hK K
          try simp only [Act.put, List.setIfInBounds_toArray, List.set_cons_zero, List.set_cons_succ]
          refine wpAnyE_take (i := 5) (oi := ?_) (v := .tuple #[.agg #[.string x.v0, .string x.v1, .string x.v2, .string x.v3, .int .i64 n0, .bool x.asks, .int .u32 x.w0, .int .u32 x.w1, .int .u32 x.w2, .string x.gp, .string x.gg, .int .i64 n1, .int .i64 n2, .int .i64 n3], .agg #[.string x.v0, .string x.v1, .string x.v2, .string x.v3, .string (bs (txt (pickO (makes l) x.t0))), .bool x.asks, .int .i64 x.w0, .int .i64 x.w1, .int .i64 x.w2, .string x.gp, .string x.gg, .string (bs (txt (pickO (makes l) x.t1))), .string (bs (txt (pickO (makes l) x.t2))), .string (bs (txt (pickO (makes l) x.t3)))]]) ?_ ?_ ?_ ?_ ?_ ?_ ?_ hR.raw ?_
          rotate_left 1
          · (first | (simp only [List.getElem?_toArray, List.getElem?_cons_succ, List.getElem?_cons_zero]; exact rfl) | exact rfl)
          · kernel_rfl
          · kernel_rfl
          · kernel_rfl
          · kernel_rfl
          · exact fun _ _ _ h => h
          · exact Or.inl ⟨by rfl, fun w _ => by go_simp⟩
          try simp only [Act.put, List.setIfInBounds_toArray, List.set_cons_zero, List.set_cons_succ]
          refine wpAnyE_take (i := 6) (oi := ?_) (v := .agg #[.string x.v0, .string x.v1, .string x.v2, .string x.v3, .int .i64 n0, .bool x.asks, .int .u32 x.w0, .int .u32 x.w1, .int .u32 x.w2, .string x.gp, .string x.gg, .int .i64 n1, .int .i64 n2, .int .i64 n3]) ?_ ?_ ?_ ?_ ?_ ?_ ?_ hR.raw ?_
          rotate_left 1
          · (first | (simp only [List.getElem?_toArray, List.getElem?_cons_succ, List.getElem?_cons_zero]; exact rfl) | exact rfl)
          · kernel_rfl
          · kernel_rfl
          · kernel_rfl
          · kernel_rfl
          · exact fun _ _ _ h => h
          · exact Or.inl ⟨by rfl, fun w _ => by go_simp⟩
          try simp only [Act.put, List.setIfInBounds_toArray, List.set_cons_zero, List.set_cons_succ]
          refine wpAnyE_take (i := 7) (oi := ?_) (v := .agg #[.string x.v0, .string x.v1, .string x.v2, .string x.v3, .string (bs (txt (pickO (makes l) x.t0))), .bool x.asks, .int .i64 x.w0, .int .i64 x.w1, .int .i64 x.w2, .string x.gp, .string x.gg, .string (bs (txt (pickO (makes l) x.t1))), .string (bs (txt (pickO (makes l) x.t2))), .string (bs (txt (pickO (makes l) x.t3)))]) ?_ ?_ ?_ ?_ ?_ ?_ ?_ hR.raw ?_
          rotate_left 1
          · (first | (simp only [List.getElem?_toArray, List.getElem?_cons_succ, List.getElem?_cons_zero]; exact rfl) | exact rfl)
          · kernel_rfl
          · kernel_rfl
          · kernel_rfl
          · kernel_rfl
          · exact fun _ _ _ h => h
          · exact Or.inl ⟨by rfl, fun w _ => by go_simp⟩
          try simp only [Act.put, List.setIfInBounds_toArray, List.set_cons_zero, List.set_cons_succ]
          refine wpAnyE_ready (rs := [8, 9]) (by kernel_rfl) (by simp) ?_
          refine AllReadyE.cons (o := ?_) ?_ (fun K hK => ?_) ?_
          rotate_left 1
          · (first | (simp only [List.getElem?_toArray, List.getElem?_cons_succ, List.getElem?_cons_zero]; exact rfl) | exact rfl)
          · skip
            refine step_allocV (.cells z86 86) rfl (fun ρ => al86 _ rfl ρ _) ?_
            have hR := hR.new6
            refine hK.out _ _ hR.raw (fun _ => ?_)
            clear hK K
            try simp only [Act.put, List.setIfInBounds_toArray, List.set_cons_zero, List.set_cons_succ]
            obtain ⟨b6, hb6⟩ : ∃ b6, b6 = W2.heap.size := ⟨_, rfl⟩
            rw [← hb6] at hR ⊢
            have hL6 : b6 < (W2.alloc (.cells z86 86)).heap.size := by rw [hb6]; simp
            clear hb6
            generalize W2.alloc (.cells z86 86) = W3 at hR hL6 ⊢
            refine wpAnyE_ready (rs := [9]) (by kernel_rfl) (by simp) ?_
            refine AllReadyE.cons (o := ?_) ?_ (fun K hK => ?_) AllReadyE.nil
            rotate_left 1
            · (first | (simp only [List.getElem?_toArray, List.getElem?_cons_succ, List.getElem?_cons_zero]; exact rfl) | exact rfl)
            refine step_allocV (.cells z88 88) rfl (fun ρ => al88 _ rfl ρ _) ?_
            have hR := hR.new7
            refine hK.out _ _ hR.raw (fun _ => ?_)
            clear hK K
            try simp only [Act.put, List.setIfInBounds_toArray, List.set_cons_zero, List.set_cons_succ]
            obtain ⟨b7, hb7⟩ : ∃ b7, b7 = W3.heap.size := ⟨_, rfl⟩
            rw [← hb7] at hR ⊢
            have hne : b7 ≠ b6 := fun e => by rw [hb7] at e; have := hL6; omega
            clear hb7
            clear hL6
            generalize W3.alloc (.cells z88 88) = W4 at hR ⊢
            refine wpAnyE_ready (rs := [10]) (by kernel_rfl) (by simp) ?_
            refine AllReadyE.cons (o := ?_) ?_ (fun K hK => ?_) AllReadyE.nil
            rotate_left 1
            · (first | (simp only [List.getElem?_toArray, List.getElem?_cons_succ, List.getElem?_cons_zero]; exact rfl) | exact rfl)
            have hne2 : w.heap.size ≠ b6 := fun e => by have h8 := hR.raw; have h9 := (hR.p6 b6 rfl).1; rw [e] at h8; exact blk_ty h8 h9 (by decide)
            refine step_storeW (x := .tmp 6) (y := .tmp 24) (u := .pointer (some ⟨b6, 0, none⟩)) (v := .agg #[.string x.v0, .string x.v1, .string x.v2, .string x.v3, .int .i64 n0, .bool x.asks, .int .u32 x.w0, .int .u32 x.w1, .int .u32 x.w2, .string x.gp, .string x.gg, .int .i64 n1, .int .i64 n2, .int .i64 n3]) rfl (by rfl) (by rfl) (fun ρ hρ hρ2 => st86 (cs := #[]) _ rfl ρ hρ hρ2 _ (hR.p6 _ rfl).1) ?_
            refine hK.out _ _ (sto14_far hR.raw hne2 (.string x.v0) (.string x.v1) (.string x.v2) (.string x.v3) (.int .i64 n0) (.bool x.asks) (.int .u32 x.w0) (.int .u32 x.w1) (.int .u32 x.w2) (.string x.gp) (.string x.gg) (.int .i64 n1) (.int .i64 n2) (.int .i64 n3)) (fun _ => ?_)
            clear hK K
            try simp only [Act.put, List.setIfInBounds_toArray, List.set_cons_zero, List.set_cons_succ]
            refine wpAnyE_ready (rs := [11]) (by kernel_rfl) (by simp) ?_
            refine AllReadyE.late (o := ?_) ?_ rfl (fun K hK => ?_) AllReadyE.nil
            rotate_left 1
            · (first | (simp only [List.getElem?_toArray, List.getElem?_cons_succ, List.getElem?_cons_zero]; exact rfl) | exact rfl)
            have h88 := sto14_far (hR.p7 b7 rfl).1 hne (.string x.v0) (.string x.v1) (.string x.v2) (.string x.v3) (.int .i64 n0) (.bool x.asks) (.int .u32 x.w0) (.int .u32 x.w1) (.int .u32 x.w2) (.string x.gp) (.string x.gg) (.int .i64 n1) (.int .i64 n2) (.int .i64 n3)
            have HC := hide (hR.fin hwB hi0 hi1 hi2 hi3)
            generalize sto14 W4 b6 (.string x.v0) (.string x.v1) (.string x.v2) (.string x.v3) (.int .i64 n0) (.bool x.asks) (.int .u32 x.w0) (.int .u32 x.w1) (.int .u32 x.w2) (.string x.gp) (.string x.gg) (.int .i64 n1) (.int .i64 n2) (.int .i64 n3) = wy at h88 HC ⊢
            clear hR
            refine step_storeW (x := .tmp 7) (y := .tmp 25) (u := .pointer (some ⟨b7, 0, none⟩)) (v := .agg #[.string x.v0, .string x.v1, .string x.v2, .string x.v3, .string (bs (txt (pickO (makes l) x.t0))), .bool x.asks, .int .i64 x.w0, .int .i64 x.w1, .int .i64 x.w2, .string x.gp, .string x.gg, .string (bs (txt (pickO (makes l) x.t1))), .string (bs (txt (pickO (makes l) x.t2))), .string (bs (txt (pickO (makes l) x.t3)))]) rfl (by rfl) (by rfl) (fun ρ hρ hρ2 => st88 (cs := #[]) _ rfl ρ hρ hρ2 _ h88) ?_
            refine hK.out _ _ ?_
            clear hK K
            try simp only [Act.put, List.setIfInBounds_toArray, List.set_cons_zero, List.set_cons_succ]
            refine wpAnyE_done (by kernel_rfl) ?_ _
            have hC := HC.out
            clear hT4 HC
            generalize sto14 wy b7 (.string x.v0) (.string x.v1) (.string x.v2) (.string x.v3) (.string (bs (txt (pickO (makes l) x.t0)))) (.bool x.asks) (.int .i64 x.w0) (.int .i64 x.w1) (.int .i64 x.w2) (.string x.gp) (.string x.gg) (.string (bs (txt (pickO (makes l) x.t1)))) (.string (bs (txt (pickO (makes l) x.t2)))) (.string (bs (txt (pickO (makes l) x.t3)))) = wz at hC ⊢
            go_wp2_with fail
            go_meet
            exact ⟨_, _, _, _, _, _, _, _, rfl, rfl, hC, hT5⟩
          refine AllReadyE.cons (o := ?_) ?_ (fun K hK => ?_) AllReadyE.nil
          rotate_left 1
          · (first | (simp only [List.getElem?_toArray, List.getElem?_cons_succ, List.getElem?_cons_zero]; exact rfl) | exact rfl)
          refine step_allocV (.cells z88 88) rfl (fun ρ => al88 _ rfl ρ _) ?_
          have hR := hR.new7
          refine hK.out _ _ hR.raw (fun _ => ?_)
          clear hK K
          try simp only [Act.put, List.setIfInBounds_toArray, List.set_cons_zero, List.set_cons_succ]
          obtain ⟨b7, hb7⟩ : ∃ b7, b7 = W2.heap.size := ⟨_, rfl⟩
          rw [← hb7] at hR ⊢
          have hL7 : b7 < (W2.alloc (.cells z88 88)).heap.size := by rw [hb7]; simp
          clear hb7
          generalize W2.alloc (.cells z88 88) = W3 at hR hL7 ⊢
          refine wpAnyE_ready (rs := [8]) (by kernel_rfl) (by simp) ?_
          refine AllReadyE.cons (o := ?_) ?_ (fun K hK => ?_) AllReadyE.nil
          rotate_left 1
          · (first | (simp only [List.getElem?_toArray, List.getElem?_cons_succ, List.getElem?_cons_zero]; exact rfl) | exact rfl)
          refine step_allocV (.cells z86 86) rfl (fun ρ => al86 _ rfl ρ _) ?_
          have hR := hR.new6
          refine hK.out _ _ hR.raw (fun _ => ?_)
          clear hK K
          try simp only [Act.put, List.setIfInBounds_toArray, List.set_cons_zero, List.set_cons_succ]
          obtain ⟨b6, hb6⟩ : ∃ b6, b6 = W3.heap.size := ⟨_, rfl⟩
          rw [← hb6] at hR ⊢
          have hne : b7 ≠ b6 := fun e => by rw [hb6] at e; have := hL7; omega
          clear hb6
          clear hL7
          generalize W3.alloc (.cells z86 86) = W4 at hR ⊢
          refine wpAnyE_ready (rs := [10]) (by kernel_rfl) (by simp) ?_
          refine AllReadyE.cons (o := ?_) ?_ (fun K hK => ?_) AllReadyE.nil
          rotate_left 1
          · (first | (simp only [List.getElem?_toArray, List.getElem?_cons_succ, List.getElem?_cons_zero]; exact rfl) | exact rfl)
          have hne2 : w.heap.size ≠ b6 := fun e => by have h8 := hR.raw; have h9 := (hR.p6 b6 rfl).1; rw [e] at h8; exact blk_ty h8 h9 (by decide)
          refine step_storeW (x := .tmp 6) (y := .tmp 24) (u := .pointer (some ⟨b6, 0, none⟩)) (v := .agg #[.string x.v0, .string x.v1, .string x.v2, .string x.v3, .int .i64 n0, .bool x.asks, .int .u32 x.w0, .int .u32 x.w1, .int .u32 x.w2, .string x.gp, .string x.gg, .int .i64 n1, .int .i64 n2, .int .i64 n3]) rfl (by rfl) (by rfl) (fun ρ hρ hρ2 => st86 (cs := #[]) _ rfl ρ hρ hρ2 _ (hR.p6 _ rfl).1) ?_
          refine hK.out _ _ (sto14_far hR.raw hne2 (.string x.v0) (.string x.v1) (.string x.v2) (.string x.v3) (.int .i64 n0) (.bool x.asks) (.int .u32 x.w0) (.int .u32 x.w1) (.int .u32 x.w2) (.string x.gp) (.string x.gg) (.int .i64 n1) (.int .i64 n2) (.int .i64 n3)) (fun _ => ?_)
          clear hK K
          try simp only [Act.put, List.setIfInBounds_toArray, List.set_cons_zero, List.set_cons_succ]
          refine wpAnyE_ready (rs := [11]) (by kernel_rfl) (by simp) ?_
          refine AllReadyE.late (o := ?_) ?_ rfl (fun K hK => ?_) AllReadyE.nil
          rotate_left 1
          · (first | (simp only [List.getElem?_toArray, List.getElem?_cons_succ, List.getElem?_cons_zero]; exact rfl) | exact rfl)
          have h88 := sto14_far (hR.p7 b7 rfl).1 hne (.string x.v0) (.string x.v1) (.string x.v2) (.string x.v3) (.int .i64 n0) (.bool x.asks) (.int .u32 x.w0) (.int .u32 x.w1) (.int .u32 x.w2) (.string x.gp) (.string x.gg) (.int .i64 n1) (.int .i64 n2) (.int .i64 n3)
          have HC := hide (hR.fin hwB hi0 hi1 hi2 hi3)
          generalize sto14 W4 b6 (.string x.v0) (.string x.v1) (.string x.v2) (.string x.v3) (.int .i64 n0) (.bool x.asks) (.int .u32 x.w0) (.int .u32 x.w1) (.int .u32 x.w2) (.string x.gp) (.string x.gg) (.int .i64 n1) (.int .i64 n2) (.int .i64 n3) = wy at h88 HC ⊢
          clear hR
          refine step_storeW (x := .tmp 7) (y := .tmp 25) (u := .pointer (some ⟨b7, 0, none⟩)) (v := .agg #[.string x.v0, .string x.v1, .string x.v2, .string x.v3, .string (bs (txt (pickO (makes l) x.t0))), .bool x.asks, .int .i64 x.w0, .int .i64 x.w1, .int .i64 x.w2, .string x.gp, .string x.gg, .string (bs (txt (pickO (makes l) x.t1))), .string (bs (txt (pickO (makes l) x.t2))), .string (bs (txt (pickO (makes l) x.t3)))]) rfl (by rfl) (by rfl) (fun ρ hρ hρ2 => st88 (cs := #[]) _ rfl ρ hρ hρ2 _ h88) ?_
          refine hK.out _ _ ?_
          clear hK K
          try simp only [Act.put, List.setIfInBounds_toArray, List.set_cons_zero, List.set_cons_succ]
          refine wpAnyE_done (by kernel_rfl) ?_ _
          have hC := HC.out
          clear hT4 HC
          generalize sto14 wy b7 (.string x.v0) (.string x.v1) (.string x.v2) (.string x.v3) (.string (bs (txt (pickO (makes l) x.t0)))) (.bool x.asks) (.int .i64 x.w0) (.int .i64 x.w1) (.int .i64 x.w2) (.string x.gp) (.string x.gg) (.string (bs (txt (pickO (makes l) x.t1)))) (.string (bs (txt (pickO (makes l) x.t2)))) (.string (bs (txt (pickO (makes l) x.t3)))) = wz at hC ⊢
          go_wp2_with fail
          go_meet
          exact ⟨_, _, _, _, _, _, _, _, rfl, rfl, hC, hT5⟩
        refine AllReadyE.cons (o := ?_) ?_ (fun K hK => ?_) ?_
        rotate_left 1
        · (first | (simp only [List.getElem?_toArray, List.getElem?_cons_succ, List.getElem?_cons_zero]; exact rfl) | exact rfl)
        · skip
          refine step_allocV (.cells z86 86) rfl (fun ρ => al86 _ rfl ρ _) ?_
          have hR := hR.new6
          have hM := hM.below (bel_new (.cells z86 86))
          refine hK.out _ _ hR.raw (fun _ => ?_)
          clear hK K
          try simp only [Act.put, List.setIfInBounds_toArray, List.set_cons_zero, List.set_cons_succ]
          obtain ⟨b6, hb6⟩ : ∃ b6, b6 = W1.heap.size := ⟨_, rfl⟩
          rw [← hb6] at hR ⊢
          have hL6 : b6 < (W1.alloc (.cells z86 86)).heap.size := by rw [hb6]; simp
          clear hb6
          generalize W1.alloc (.cells z86 86) = W2 at hR hM hL6 ⊢
          refine wpAnyE_ready (rs := [4, 9]) (by kernel_rfl) (by simp) ?_
          refine AllReadyE.late (o := ?_) ?_ rfl (fun K hK => ?_) ?_
          rotate_left 1
          · (first | (simp only [List.getElem?_toArray, List.getElem?_cons_succ, List.getElem?_cons_zero]; exact rfl) | exact rfl)
          · skip
            refine step_call2 (u := .agg #[.string x.v0, .string x.v1, .string x.v2, .string x.v3, .int .i64 x.t0, .int .i64 x.t1, .int .i64 x.t2, .int .i64 x.t3, .bool x.asks, .int .u32 x.w0, .int .u32 x.w1, .int .u32 x.w2, .string x.gp, .string x.gg]) (v := .agg #[v1, v2]) (f := 43) rfl (callP (x := .tmp 19) (y := .tmp 22) _ rfl (.inl rfl) _ (by rfl) (by rfl) _) (parts_any2 hM x hx (by rw [makes_len]; omega)) ?_
            rintro e W3 ⟨n0, n1, n2, n3, rfl, hi0, hi1, hi2, hi3, hb9⟩
            refine ⟨_, rfl, ?_⟩
            have hR := hR.below hb9
            have hL6 := Nat.lt_of_lt_of_le hL6 hb9.size
            clear hb9 hM
            refine hK.out _ _ ?_
            clear hK K
            try simp only [Act.put, List.setIfInBounds_toArray, List.set_cons_zero, List.set_cons_succ]
            refine wpAnyE_take (i := 5) (oi := ?_) (v := .tuple #[.agg #[.string x.v0, .string x.v1, .string x.v2, .string x.v3, .int .i64 n0, .bool x.asks, .int .u32 x.w0, .int .u32 x.w1, .int .u32 x.w2, .string x.gp, .string x.gg, .int .i64 n1, .int .i64 n2, .int .i64 n3], .agg #[.string x.v0, .string x.v1, .string x.v2, .string x.v3, .string (bs (txt (pickO (makes l) x.t0))), .bool x.asks, .int .i64 x.w0, .int .i64 x.w1, .int .i64 x.w2, .string x.gp, .string x.gg, .string (bs (txt (pickO (makes l) x.t1))), .string (bs (txt (pickO (makes l) x.t2))), .string (bs (txt (pickO (makes l) x.t3)))]]) ?_ ?_ ?_ ?_ ?_ ?_ ?_ hR.raw ?_
            rotate_left 1
            · (first | (simp only [List.getElem?_toArray, List.getElem?_cons_succ, List.getElem?_cons_zero]; exact rfl) | exact rfl)
            · kernel_rfl
            · kernel_rfl
            · kernel_rfl
            · kernel_rfl
            · exact fun _ _ _ h => h
            · exact Or.inl ⟨by rfl, fun w _ => by go_simp⟩
            try simp only [Act.put, List.setIfInBounds_toArray, List.set_cons_zero, List.set_cons_succ]
            refine wpAnyE_take (i := 6) (oi := ?_) (v := .agg #[.string x.v0, .string x.v1, .string x.v2, .string x.v3, .int .i64 n0, .bool x.asks, .int .u32 x.w0, .int .u32 x.w1, .int .u32 x.w2, .string x.gp, .string x.gg, .int .i64 n1, .int .i64 n2, .int .i64 n3]) ?_ ?_ ?_ ?_ ?_ ?_ ?_ hR.raw ?_
            rotate_left 1
            · (first | (simp only [List.getElem?_toArray, List.getElem?_cons_succ, List.getElem?_cons_zero]; exact rfl) | exact rfl)
            · kernel_rfl
            · kernel_rfl
            · kernel_rfl
            · kernel_rfl
            · exact fun _ _ _ h => h
            · exact Or.inl ⟨by rfl, fun w _ => by go_simp⟩
            try simp only [Act.put, List.setIfInBounds_toArray, List.set_cons_zero, List.set_cons_succ]
            refine wpAnyE_take (i := 7) (oi := ?_) (v := .agg #[.string x.v0, .string x.v1, .string x.v2, .string x.v3, .string (bs (txt (pickO (makes l) x.t0))), .bool x.asks, .int .i64 x.w0, .int .i64 x.w1, .int .i64 x.w2, .string x.gp, .string x.gg, .string (bs (txt (pickO (makes l) x.t1))), .string (bs (txt (pickO (makes l) x.t2))), .string (bs (txt (pickO (makes l) x.t3)))]) ?_ ?_ ?_ ?_ ?_ ?_ ?_ hR.raw ?_
            rotate_left 1
            · (first | (simp only [List.getElem?_toArray, List.getElem?_cons_succ, List.getElem?_cons_zero]; exact rfl) | exact rfl)
            · kernel_rfl
            · kernel_rfl
            · kernel_rfl
            · kernel_rfl
            · exact fun _ _ _ h => h
            · exact Or.inl ⟨by rfl, fun w _ => by go_simp⟩
            try simp only [Act.put, List.setIfInBounds_toArray, List.set_cons_zero, List.set_cons_succ]
            refine wpAnyE_ready (rs := [9]) (by kernel_rfl) (by simp) ?_
            refine AllReadyE.cons (o := ?_) ?_ (fun K hK => ?_) AllReadyE.nil
            rotate_left 1
            · (first | (simp only [List.getElem?_toArray, List.getElem?_cons_succ, List.getElem?_cons_zero]; exact rfl) | exact rfl)
            refine step_allocV (.cells z88 88) rfl (fun ρ => al88 _ rfl ρ _) ?_
            have hR := hR.new7
            refine hK.out _ _ hR.raw (fun _ => ?_)
            clear hK K
            try simp only [Act.put, List.setIfInBounds_toArray, List.set_cons_zero, List.set_cons_succ]
            obtain ⟨b7, hb7⟩ : ∃ b7, b7 = W3.heap.size := ⟨_, rfl⟩
            rw [← hb7] at hR ⊢
            have hne : b7 ≠ b6 := fun e => by rw [hb7] at e; have := hL6; omega
            clear hb7
            clear hL6
            generalize W3.alloc (.cells z88 88) = W4 at hR ⊢
            refine wpAnyE_ready (rs := [10]) (by kernel_rfl) (by simp) ?_
            refine AllReadyE.cons (o := ?_) ?_ (fun K hK => ?_) AllReadyE.nil
            rotate_left 1
            · (first | (simp only [List.getElem?_toArray, List.getElem?_cons_succ, List.getElem?_cons_zero]; exact rfl) | exact rfl)
            have hne2 : w.heap.size ≠ b6 := fun e => by have h8 := hR.raw; have h9 := (hR.p6 b6 rfl).1; rw [e] at h8; exact blk_ty h8 h9 (by decide)
            refine step_storeW (x := .tmp 6) (y := .tmp 24) (u := .pointer (some ⟨b6, 0, none⟩)) (v := .agg #[.string x.v0, .string x.v1, .string x.v2, .string x.v3, .int .i64 n0, .bool x.asks, .int .u32 x.w0, .int .u32 x.w1, .int .u32 x.w2, .string x.gp, .string x.gg, .int .i64 n1, .int .i64 n2, .int .i64 n3]) rfl (by rfl) (by rfl) (fun ρ hρ hρ2 => st86 (cs := #[]) _ rfl ρ hρ hρ2 _ (hR.p6 _ rfl).1) ?_
            refine hK.out _ _ (sto14_far hR.raw hne2 (.string x.v0) (.string x.v1) (.string x.v2) (.string x.v3) (.int .i64 n0) (.bool x.asks) (.int .u32 x.w0) (.int .u32 x.w1) (.int .u32 x.w2) (.string x.gp) (.string x.gg) (.int .i64 n1) (.int .i64 n2) (.int .i64 n3)) (fun _ => ?_)
            clear hK K
            try simp only [Act.put, List.setIfInBounds_toArray, List.set_cons_zero, List.set_cons_succ]
            refine wpAnyE_ready (rs := [11]) (by kernel_rfl) (by simp) ?_
            refine AllReadyE.late (o := ?_) ?_ rfl (fun K hK => ?_) AllReadyE.nil
            rotate_left 1
            · (first | (simp only [List.getElem?_toArray, List.getElem?_cons_succ, List.getElem?_cons_zero]; exact rfl) | exact rfl)
            have h88 := sto14_far (hR.p7 b7 rfl).1 hne (.string x.v0) (.string x.v1) (.string x.v2) (.string x.v3) (.int .i64 n0) (.bool x.asks) (.int .u32 x.w0) (.int .u32 x.w1) (.int .u32 x.w2) (.string x.gp) (.string x.gg) (.int .i64 n1) (.int .i64 n2) (.int .i64 n3)
            have HC := hide (hR.fin hwB hi0 hi1 hi2 hi3)
            generalize sto14 W4 b6 (.string x.v0) (.string x.v1) (.string x.v2) (.string x.v3) (.int .i64 n0) (.bool x.asks) (.int .u32 x.w0) (.int .u32 x.w1) (.int .u32 x.w2) (.string x.gp) (.string x.gg) (.int .i64 n1) (.int .i64 n2) (.int .i64 n3) = wy at h88 HC ⊢
            clear hR
            refine step_storeW (x := .tmp 7) (y := .tmp 25) (u := .pointer (some ⟨b7, 0, none⟩)) (v := .agg #[.string x.v0, .string x.v1, .string x.v2, .string x.v3, .string (bs (txt (pickO (makes l) x.t0))), .bool x.asks, .int .i64 x.w0, .int .i64 x.w1, .int .i64 x.w2, .string x.gp, .string x.gg, .string (bs (txt (pickO (makes l) x.t1))), .string (bs (txt (pickO (makes l) x.t2))), .string (bs (txt (pickO (makes l) x.t3)))]) rfl (by rfl) (by rfl) (fun ρ hρ hρ2 => st88 (cs := #[]) _ rfl ρ hρ hρ2 _ h88) ?_
            refine hK.out _ _ ?_
            clear hK K
            try simp only [Act.put, List.setIfInBounds_toArray, List.set_cons_zero, List.set_cons_succ]
            refine wpAnyE_done (by kernel_rfl) ?_ _
            have hC := HC.out
            clear hT4 HC
            generalize sto14 wy b7 (.string x.v0) (.string x.v1) (.string x.v2) (.string x.v3) (.string (bs (txt (pickO (makes l) x.t0)))) (.bool x.asks) (.int .i64 x.w0) (.int .i64 x.w1) (.int .i64 x.w2) (.string x.gp) (.string x.gg) (.string (bs (txt (pickO (makes l) x.t1)))) (.string (bs (txt (pickO (makes l) x.t2)))) (.string (bs (txt (pickO (makes l) x.t3)))) = wz at hC ⊢
            go_wp2_with fail
            go_meet
            exact ⟨_, _, _, _, _, _, _, _, rfl, rfl, hC, hT5⟩
          refine AllReadyE.cons (o := ?_) ?_ (fun K hK => ?_) AllReadyE.nil
          rotate_left 1
          · (first | (simp only [List.getElem?_toArray, List.getElem?_cons_succ, List.getElem?_cons_zero]; exact rfl) | exact rfl)
          refine step_allocV (.cells z88 88) rfl (fun ρ => al88 _ rfl ρ _) ?_
          have hR := hR.new7
          have hM := hM.below (bel_new (.cells z88 88))
          refine hK.out _ _ hR.raw (fun _ => ?_)
          clear hK K
          try simp only [Act.put, List.setIfInBounds_toArray, List.set_cons_zero, List.set_cons_succ]
          obtain ⟨b7, hb7⟩ : ∃ b7, b7 = W2.heap.size := ⟨_, rfl⟩
          rw [← hb7] at hR ⊢
          have hne : b7 ≠ b6 := fun e => by rw [hb7] at e; have := hL6; omega
          clear hb7
          clear hL6
          generalize W2.alloc (.cells z88 88) = W3 at hR hM ⊢
          refine wpAnyE_ready (rs := [4]) (by kernel_rfl) (by simp) ?_
          refine AllReadyE.late (o := ?_) ?_ rfl (fun K hK => ?_) AllReadyE.nil
          rotate_left 1
          · (first | (simp only [List.getElem?_toArray, List.getElem?_cons_succ, List.getElem?_cons_zero]; exact rfl) | exact rfl)
          refine step_call2 (u := .agg #[.string x.v0, .string x.v1, .string x.v2, .string x.v3, .int .i64 x.t0, .int .i64 x.t1, .int .i64 x.t2, .int .i64 x.t3, .bool x.asks, .int .u32 x.w0, .int .u32 x.w1, .int .u32 x.w2, .string x.gp, .string x.gg]) (v := .agg #[v1, v2]) (f := 43) rfl (callP (x := .tmp 19) (y := .tmp 22) _ rfl (.inl rfl) _ (by rfl) (by rfl) _) (parts_any2 hM x hx (by rw [makes_len]; omega)) ?_
          rintro e W4 ⟨n0, n1, n2, n3, rfl, hi0, hi1, hi2, hi3, hb9⟩
          refine ⟨_, rfl, ?_⟩
          have hR := hR.below hb9
          clear hb9 hM
          refine hK.out _ _ ?_
          clear hK K
          try simp only [Act.put, List.setIfInBounds_toArray, List.set_cons_zero, List.set_cons_succ]
          refine wpAnyE_take (i := 5) (oi := ?_) (v := .tuple #[.agg #[.string x.v0, .string x.v1, .string x.v2, .string x.v3, .int .i64 n0, .bool x.asks, .int .u32 x.w0, .int .u32 x.w1, .int .u32 x.w2, .string x.gp, .string x.gg, .int .i64 n1, .int .i64 n2, .int .i64 n3], .agg #[.string x.v0, .string x.v1, .string x.v2, .string x.v3, .string (bs (txt (pickO (makes l) x.t0))), .bool x.asks, .int .i64 x.w0, .int .i64 x.w1, .int .i64 x.w2, .string x.gp, .string x.gg, .string (bs (txt (pickO (makes l) x.t1))), .string (bs (txt (pickO (makes l) x.t2))), .string (bs (txt (pickO (makes l) x.t3)))]]) ?_ ?_ ?_ ?_ ?_ ?_ ?_ hR.raw ?_
          rotate_left 1
          · (first | (simp only [List.getElem?_toArray, List.getElem?_cons_succ, List.getElem?_cons_zero]; exact rfl) | exact rfl)
          · kernel_rfl
          · kernel_rfl
          · kernel_rfl
          · kernel_rfl
          · exact fun _ _ _ h => h
          · exact Or.inl ⟨by rfl, fun w _ => by go_simp⟩
          try simp only [Act.put, List.setIfInBounds_toArray, List.set_cons_zero, List.set_cons_succ]
          refine wpAnyE_take (i := 6) (oi := ?_) (v := .agg #[.string x.v0, .string x.v1, .string x.v2, .string x.v3, .int .i64 n0, .bool x.asks, .int .u32 x.w0, .int .u32 x.w1, .int .u32 x.w2, .string x.gp, .string x.gg, .int .i64 n1, .int .i64 n2, .int .i64 n3]) ?_ ?_ ?_ ?_ ?_ ?_ ?_ hR.raw ?_
          rotate_left 1
          · (first | (simp only [List.getElem?_toArray, List.getElem?_cons_succ, List.getElem?_cons_zero]; exact rfl) | exact rfl)
          · kernel_rfl
          · kernel_rfl
          · kernel_rfl
          · kernel_rfl
          · exact fun _ _ _ h => h
          · exact Or.inl ⟨by rfl, fun w _ => by go_simp⟩
          try simp only [Act.put, List.setIfInBounds_toArray, List.set_cons_zero, List.set_cons_succ]
          refine wpAnyE_take (i := 7) (oi := ?_) (v := .agg #[.string x.v0, .string x.v1, .string x.v2, .string x.v3, .string (bs (txt (pickO (makes l) x.t0))), .bool x.asks, .int .i64 x.w0, .int .i64 x.w1, .int .i64 x.w2, .string x.gp, .string x.gg, .string (bs (txt (pickO (makes l) x.t1))), .string (bs (txt (pickO (makes l) x.t2))), .string (bs (txt (pickO (makes l) x.t3)))]) ?_ ?_ ?_ ?_ ?_ ?_ ?_ hR.raw ?_
          rotate_left 1
          · (first | (simp only [List.getElem?_toArray, List.getElem?_cons_succ, List.getElem?_cons_zero]; exact rfl) | exact rfl)
          · kernel_rfl
          · kernel_rfl
          · kernel_rfl
          · kernel_rfl
          · exact fun _ _ _ h => h
          · exact Or.inl ⟨by rfl, fun w _ => by go_simp⟩
          try simp only [Act.put, List.setIfInBounds_toArray, List.set_cons_zero, List.set_cons_succ]
          refine wpAnyE_ready (rs := [10]) (by kernel_rfl) (by simp) ?_
          refine AllReadyE.cons (o := ?_) ?_ (fun K hK => ?_) AllReadyE.nil
          rotate_left 1
          · (first | (simp only [List.getElem?_toArray, List.getElem?_cons_succ, List.getElem?_cons_zero]; exact rfl) | exact rfl)
          have hne2 : w.heap.size ≠ b6 := fun e => by have h8 := hR.raw; have h9 := (hR.p6 b6 rfl).1; rw [e] at h8; exact blk_ty h8 h9 (by decide)
          refine step_storeW (x := .tmp 6) (y := .tmp 24) (u := .pointer (some ⟨b6, 0, none⟩)) (v := .agg #[.string x.v0, .string x.v1, .string x.v2, .string x.v3, .int .i64 n0, .bool x.asks, .int .u32 x.w0, .int .u32 x.w1, .int .u32 x.w2, .string x.gp, .string x.gg, .int .i64 n1, .int .i64 n2, .int .i64 n3]) rfl (by rfl) (by rfl) (fun ρ hρ hρ2 => st86 (cs := #[]) _ rfl ρ hρ hρ2 _ (hR.p6 _ rfl).1) ?_
          refine hK.out _ _ (sto14_far hR.raw hne2 (.string x.v0) (.string x.v1) (.string x.v2) (.string x.v3) (.int .i64 n0) (.bool x.asks) (.int .u32 x.w0) (.int .u32 x.w1) (.int .u32 x.w2) (.string x.gp) (.string x.gg) (.int .i64 n1) (.int .i64 n2) (.int .i64 n3)) (fun _ => ?_)
          clear hK K
          try simp only [Act.put, List.setIfInBounds_toArray, List.set_cons_zero, List.set_cons_succ]
          refine wpAnyE_ready (rs := [11]) (by kernel_rfl) (by simp) ?_
          refine AllReadyE.late (o := ?_) ?_ rfl (fun K hK => ?_) AllReadyE.nil
          rotate_left 1
          · (first | (simp only [List.getElem?_toArray, List.getElem?_cons_succ, List.getElem?_cons_zero]; exact rfl) | exact rfl)
          have h88 := sto14_far (hR.p7 b7 rfl).1 hne (.string x.v0) (.string x.v1) (.string x.v2) (.string x.v3) (.int .i64 n0) (.bool x.asks) (.int .u32 x.w0) (.int .u32 x.w1) (.int .u32 x.w2) (.string x.gp) (.string x.gg) (.int .i64 n1) (.int .i64 n2) (.int .i64 n3)
          have HC := hide (hR.fin hwB hi0 hi1 hi2 hi3)
          generalize sto14 W4 b6 (.string x.v0) (.string x.v1) (.string x.v2) (.string x.v3) (.int .i64 n0) (.bool x.asks) (.int .u32 x.w0) (.int .u32 x.w1) (.int .u32 x.w2) (.string x.gp) (.string x.gg) (.int .i64 n1) (.int .i64 n2) (.int .i64 n3) = wy at h88 HC ⊢
          clear hR
          refine step_storeW (x := .tmp 7) (y := .tmp 25) (u := .pointer (some ⟨b7, 0, none⟩)) (v := .agg #[.string x.v0, .string x.v1, .string x.v2, .string x.v3, .string (bs (txt (pickO (makes l) x.t0))), .bool x.asks, .int .i64 x.w0, .int .i64 x.w1, .int .i64 x.w2, .string x.gp, .string x.gg, .string (bs (txt (pickO (makes l) x.t1))), .string (bs (txt (pickO (makes l) x.t2))), .string (bs (txt (pickO (makes l) x.t3)))]) rfl (by rfl) (by rfl) (fun ρ hρ hρ2 => st88 (cs := #[]) _ rfl ρ hρ hρ2 _ h88) ?_
          refine hK.out _ _ ?_
          clear hK K
          try simp only [Act.put, List.setIfInBounds_toArray, List.set_cons_zero, List.set_cons_succ]
          refine wpAnyE_done (by kernel_rfl) ?_ _
          have hC := HC.out
          clear hT4 HC
          generalize sto14 wy b7 (.string x.v0) (.string x.v1) (.string x.v2) (.string x.v3) (.string (bs (txt (pickO (makes l) x.t0)))) (.bool x.asks) (.int .i64 x.w0) (.int .i64 x.w1) (.int .i64 x.w2) (.string x.gp) (.string x.gg) (.string (bs (txt (pickO (makes l) x.t1)))) (.string (bs (txt (pickO (makes l) x.t2)))) (.string (bs (txt (pickO (makes l) x.t3)))) = wz at hC ⊢
          go_wp2_with fail
          go_meet
          exact ⟨_, _, _, _, _, _, _, _, rfl, rfl, hC, hT5⟩
        refine AllReadyE.cons (o := ?_) ?_ (fun K hK => ?_) AllReadyE.nil
        rotate_left 1
        · (first | (simp only [List.getElem?_toArray, List.getElem?_cons_succ, List.getElem?_cons_zero]; exact rfl) | exact rfl)
        refine step_allocV (.cells z88 88) rfl (fun ρ => al88 _ rfl ρ _) ?_
        have hR := hR.new7
        have hM := hM.below (bel_new (.cells z88 88))
        refine hK.out _ _ hR.raw (fun _ => ?_)
        clear hK K
        try simp only [Act.put, List.setIfInBounds_toArray, List.set_cons_zero, List.set_cons_succ]
        obtain ⟨b7, hb7⟩ : ∃ b7, b7 = W1.heap.size := ⟨_, rfl⟩
        rw [← hb7] at hR ⊢
        have hL7 : b7 < (W1.alloc (.cells z88 88)).heap.size := by rw [hb7]; simp
        clear hb7
        generalize W1.alloc (.cells z88 88) = W2 at hR hM hL7 ⊢
        refine wpAnyE_ready (rs := [4, 8]) (by kernel_rfl) (by simp) ?_
        refine AllReadyE.late (o := ?_) ?_ rfl (fun K hK => ?_) ?_
        rotate_left 1
        · (first | (simp only [List.getElem?_toArray, List.getElem?_cons_succ, List.getElem?_cons_zero]; exact rfl) | exact rfl)
        · skip
          refine step_call2 (u := .agg #[.string x.v0, .string x.v1, .string x.v2, .string x.v3, .int .i64 x.t0, .int .i64 x.t1, .int .i64 x.t2, .int .i64 x.t3, .bool x.asks, .int .u32 x.w0, .int .u32 x.w1, .int .u32 x.w2, .string x.gp, .string x.gg]) (v := .agg #[v1, v2]) (f := 43) rfl (callP (x := .tmp 19) (y := .tmp 22) _ rfl (.inl rfl) _ (by rfl) (by rfl) _) (parts_any2 hM x hx (by rw [makes_len]; omega)) ?_
          rintro e W3 ⟨n0, n1, n2, n3, rfl, hi0, hi1, hi2, hi3, hb9⟩
          refine ⟨_, rfl, ?_⟩
          have hR := hR.below hb9
          have hL7 := Nat.lt_of_lt_of_le hL7 hb9.size
          clear hb9 hM
          refine hK.out _ _ ?_
          clear hK K
          try simp only [Act.put, List.setIfInBounds_toArray, List.set_cons_zero, List.set_cons_succ]
          refine wpAnyE_take (i := 5) (oi := ?_) (v := .tuple #[.agg #[.string x.v0, .string x.v1, .string x.v2, .string x.v3, .int .i64 n0, .bool x.asks, .int .u32 x.w0, .int .u32 x.w1, .int .u32 x.w2, .string x.gp, .string x.gg, .int .i64 n1, .int .i64 n2, .int .i64 n3], .agg #[.string x.v0, .string x.v1, .string x.v2, .string x.v3, .string (bs (txt (pickO (makes l) x.t0))), .bool x.asks, .int .i64 x.w0, .int .i64 x.w1, .int .i64 x.w2, .string x.gp, .string x.gg, .string (bs (txt (pickO (makes l) x.t1))), .string (bs (txt (pickO (makes l) x.t2))), .string (bs (txt (pickO (makes l) x.t3)))]]) ?_ ?_ ?_ ?_ ?_ ?_ ?_ hR.raw ?_
          rotate_left 1
          · (first | (simp only [List.getElem?_toArray, List.getElem?_cons_succ, List.getElem?_cons_zero]; exact rfl) | exact rfl)
          · kernel_rfl
          · kernel_rfl
          · kernel_rfl
          · kernel_rfl
          · exact fun _ _ _ h => h
          · exact Or.inl ⟨by rfl, fun w _ => by go_simp⟩
          try simp only [Act.put, List.setIfInBounds_toArray, List.set_cons_zero, List.set_cons_succ]
          refine wpAnyE_take (i := 6) (oi := ?_) (v := .agg #[.string x.v0, .string x.v1, .string x.v2, .string x.v3, .int .i64 n0, .bool x.asks, .int .u32 x.w0, .int .u32 x.w1, .int .u32 x.w2, .string x.gp, .string x.gg, .int .i64 n1, .int .i64 n2, .int .i64 n3]) ?_ ?_ ?_ ?_ ?_ ?_ ?_ hR.raw ?_
          rotate_left 1
          · (first | (simp only [List.getElem?_toArray, List.getElem?_cons_succ, List.getElem?_cons_zero]; exact rfl) | exact rfl)
          · kernel_rfl
          · kernel_rfl
          · kernel_rfl
          · kernel_rfl
          · exact fun _ _ _ h => h
          · exact Or.inl ⟨by rfl, fun w _ => by go_simp⟩
          try simp only [Act.put, List.setIfInBounds_toArray, List.set_cons_zero, List.set_cons_succ]
          refine wpAnyE_take (i := 7) (oi := ?_) (v := .agg #[.string x.v0, .string x.v1, .string x.v2, .string x.v3, .string (bs (txt (pickO (makes l) x.t0))), .bool x.asks, .int .i64 x.w0, .int .i64 x.w1, .int .i64 x.w2, .string x.gp, .string x.gg, .string (bs (txt (pickO (makes l) x.t1))), .string (bs (txt (pickO (makes l) x.t2))), .string (bs (txt (pickO (makes l) x.t3)))]) ?_ ?_ ?_ ?_ ?_ ?_ ?_ hR.raw ?_
          rotate_left 1
          · (first | (simp only [List.getElem?_toArray, List.getElem?_cons_succ, List.getElem?_cons_zero]; exact rfl) | exact rfl)
          · kernel_rfl
          · kernel_rfl
          · kernel_rfl
          · kernel_rfl
          · exact fun _ _ _ h => h
          · exact Or.inl ⟨by rfl, fun w _ => by go_simp⟩
          try simp only [Act.put, List.setIfInBounds_toArray, List.set_cons_zero, List.set_cons_succ]
          refine wpAnyE_ready (rs := [8]) (by kernel_rfl) (by simp) ?_
          refine AllReadyE.cons (o := ?_) ?_ (fun K hK => ?_) AllReadyE.nil
          rotate_left 1
          · (first | (simp only [List.getElem?_toArray, List.getElem?_cons_succ, List.getElem?_cons_zero]; exact rfl) | exact rfl)
          refine step_allocV (.cells z86 86) rfl (fun ρ => al86 _ rfl ρ _) ?_
          have hR := hR.new6
          refine hK.out _ _ hR.raw (fun _ => ?_)
          clear hK K
          try simp only [Act.put, List.setIfInBounds_toArray, List.set_cons_zero, List.set_cons_succ]
          obtain ⟨b6, hb6⟩ : ∃ b6, b6 = W3.heap.size := ⟨_, rfl⟩
          rw [← hb6] at hR ⊢
          have hne : b7 ≠ b6 := fun e => by rw [hb6] at e; have := hL7; omega
          clear hb6
          clear hL7
          generalize W3.alloc (.cells z86 86) = W4 at hR ⊢
          refine wpAnyE_ready (rs := [10]) (by kernel_rfl) (by simp) ?_
          refine AllReadyE.cons (o := ?_) ?_ (fun K hK => ?_) AllReadyE.nil
          rotate_left 1
          · (first | (simp only [List.getElem?_toArray, List.getElem?_cons_succ, List.getElem?_cons_zero]; exact rfl) | exact rfl)
          have hne2 : w.heap.size ≠ b6 := fun e => by have h8 := hR.raw; have h9 := (hR.p6 b6 rfl).1; rw [e] at h8; exact blk_ty h8 h9 (by decide)
          refine step_storeW (x := .tmp 6) (y := .tmp 24) (u := .pointer (some ⟨b6, 0, none⟩)) (v := .agg #[.string x.v0, .string x.v1, .string x.v2, .string x.v3, .int .i64 n0, .bool x.asks, .int .u32 x.w0, .int .u32 x.w1, .int .u32 x.w2, .string x.gp, .string x.gg, .int .i64 n1, .int .i64 n2, .int .i64 n3]) rfl (by rfl) (by rfl) (fun ρ hρ hρ2 => st86 (cs := #[]) _ rfl ρ hρ hρ2 _ (hR.p6 _ rfl).1) ?_
          refine hK.out _ _ (sto14_far hR.raw hne2 (.string x.v0) (.string x.v1) (.string x.v2) (.string x.v3) (.int .i64 n0) (.bool x.asks) (.int .u32 x.w0) (.int .u32 x.w1) (.int .u32 x.w2) (.string x.gp) (.string x.gg) (.int .i64 n1) (.int .i64 n2) (.int .i64 n3)) (fun _ => ?_)
          clear hK K
          try simp only [Act.put, List.setIfInBounds_toArray, List.set_cons_zero, List.set_cons_succ]
          refine wpAnyE_ready (rs := [11]) (by kernel_rfl) (by simp) ?_
          refine AllReadyE.late (o := ?_) ?_ rfl (fun K hK => ?_) AllReadyE.nil
          rotate_left 1
          · (first | (simp only [List.getElem?_toArray, List.getElem?_cons_succ, List.getElem?_cons_zero]; exact rfl) | exact rfl)
          have h88 := sto14_far (hR.p7 b7 rfl).1 hne (.string x.v0) (.string x.v1) (.string x.v2) (.string x.v3) (.int .i64 n0) (.bool x.asks) (.int .u32 x.w0) (.int .u32 x.w1) (.int .u32 x.w2) (.string x.gp) (.string x.gg) (.int .i64 n1) (.int .i64 n2) (.int .i64 n3)
          have HC := hide (hR.fin hwB hi0 hi1 hi2 hi3)
          generalize sto14 W4 b6 (.string x.v0) (.string x.v1) (.string x.v2) (.string x.v3) (.int .i64 n0) (.bool x.asks) (.int .u32 x.w0) (.int .u32 x.w1) (.int .u32 x.w2) (.string x.gp) (.string x.gg) (.int .i64 n1) (.int .i64 n2) (.int .i64 n3) = wy at h88 HC ⊢
          clear hR
          refine step_storeW (x := .tmp 7) (y := .tmp 25) (u := .pointer (some ⟨b7, 0, none⟩)) (v := .agg #[.string x.v0, .string x.v1, .string x.v2, .string x.v3, .string (bs (txt (pickO (makes l) x.t0))), .bool x.asks, .int .i64 x.w0, .int .i64 x.w1, .int .i64 x.w2, .string x.gp, .string x.gg, .string (bs (txt (pickO (makes l) x.t1))), .string (bs (txt (pickO (makes l) x.t2))), .string (bs (txt (pickO (makes l) x.t3)))]) rfl (by rfl) (by rfl) (fun ρ hρ hρ2 => st88 (cs := #[]) _ rfl ρ hρ hρ2 _ h88) ?_
          refine hK.out _ _ ?_
          clear hK K
          try simp only [Act.put, List.setIfInBounds_toArray, List.set_cons_zero, List.set_cons_succ]
          refine wpAnyE_done (by kernel_rfl) ?_ _
          have hC := HC.out
          clear hT4 HC
          generalize sto14 wy b7 (.string x.v0) (.string x.v1) (.string x.v2) (.string x.v3) (.string (bs (txt (pickO (makes l) x.t0)))) (.bool x.asks) (.int .i64 x.w0) (.int .i64 x.w1) (.int .i64 x.w2) (.string x.gp) (.string x.gg) (.string (bs (txt (pickO (makes l) x.t1)))) (.string (bs (txt (pickO (makes l) x.t2)))) (.string (bs (txt (pickO (makes l) x.t3)))) = wz at hC ⊢
          go_wp2_with fail
          go_meet
          exact ⟨_, _, _, _, _, _, _, _, rfl, rfl, hC, hT5⟩
        refine AllReadyE.cons (o := ?_) ?_ (fun K hK => ?_) AllReadyE.nil
        rotate_left 1
        · (first | (simp only [List.getElem?_toArray, List.getElem?_cons_succ, List.getElem?_cons_zero]; exact rfl) | exact rfl)
        refine step_allocV (.cells z86 86) rfl (fun ρ => al86 _ rfl ρ _) ?_
        have hR := hR.new6
        have hM := hM.below (bel_new (.cells z86 86))
        refine hK.out _ _ hR.raw (fun _ => ?_)
        clear hK K
        try simp only [Act.put, List.setIfInBounds_toArray, List.set_cons_zero, List.set_cons_succ]
        obtain ⟨b6, hb6⟩ : ∃ b6, b6 = W2.heap.size := ⟨_, rfl⟩
        rw [← hb6] at hR ⊢
        have hne : b7 ≠ b6 := fun e => by rw [hb6] at e; have := hL7; omega
        clear hb6
        clear hL7
        generalize W2.alloc (.cells z86 86) = W3 at hR hM ⊢
        refine wpAnyE_ready (rs := [4]) (by kernel_rfl) (by simp) ?_
        refine AllReadyE.late (o := ?_) ?_ rfl (fun K hK => ?_) AllReadyE.nil
        rotate_left 1
        · (first | (simp only [List.getElem?_toArray, List.getElem?_cons_succ, List.getElem?_cons_zero]; exact rfl) | exact rfl)
        refine step_call2 (u := .agg #[.string x.v0, .string x.v1, .string x.v2, .string x.v3, .int .i64 x.t0, .int .i64 x.t1, .int .i64 x.t2, .int .i64 x.t3, .bool x.asks, .int .u32 x.w0, .int .u32 x.w1, .int .u32 x.w2, .string x.gp, .string x.gg]) (v := .agg #[v1, v2]) (f := 43) rfl (callP (x := .tmp 19) (y := .tmp 22) _ rfl (.inl rfl) _ (by rfl) (by rfl) _) (parts_any2 hM x hx (by rw [makes_len]; omega)) ?_
        rintro e W4 ⟨n0, n1, n2, n3, rfl, hi0, hi1, hi2, hi3, hb9⟩
        refine ⟨_, rfl, ?_⟩
        have hR := hR.below hb9
        clear hb9 hM
        refine hK.out _ _ ?_
        clear hK K
        try simp only [Act.put, List.setIfInBounds_toArray, List.set_cons_zero, List.set_cons_succ]
        refine wpAnyE_take (i := 5) (oi := ?_) (v := .tuple #[.agg #[.string x.v0, .string x.v1, .string x.v2, .string x.v3, .int .i64 n0, .bool x.asks, .int .u32 x.w0, .int .u32 x.w1, .int .u32 x.w2, .string x.gp, .string x.gg, .int .i64 n1, .int .i64 n2, .int .i64 n3], .agg #[.string x.v0, .string x.v1, .string x.v2, .string x.v3, .string (bs (txt (pickO (makes l) x.t0))), .bool x.asks, .int .i64 x.w0, .int .i64 x.w1, .int .i64 x.w2, .string x.gp, .string x.gg, .string (bs (txt (pickO (makes l) x.t1))), .string (bs (txt (pickO (makes l) x.t2))), .string (bs (txt (pickO (makes l) x.t3)))]]) ?_ ?_ ?_ ?_ ?_ ?_ ?_ hR.raw ?_
        rotate_left 1
        · (first | (simp only [List.getElem?_toArray, List.getElem?_cons_succ, List.getElem?_cons_zero]; exact rfl) | exact rfl)
        · kernel_rfl
        · kernel_rfl
        · kernel_rfl
        · kernel_rfl
        · exact fun _ _ _ h => h
        · exact Or.inl ⟨by rfl, fun w _ => by go_simp⟩
        try simp only [Act.put, List.setIfInBounds_toArray, List.set_cons_zero, List.set_cons_succ]
        refine wpAnyE_take (i := 6) (oi := ?_) (v := .agg #[.string x.v0, .string x.v1, .string x.v2, .string x.v3, .int .i64 n0, .bool x.asks, .int .u32 x.w0, .int .u32 x.w1, .int .u32 x.w2, .string x.gp, .string x.gg, .int .i64 n1, .int .i64 n2, .int .i64 n3]) ?_ ?_ ?_ ?_ ?_ ?_ ?_ hR.raw ?_
        rotate_left 1
        · (first | (simp only [List.getElem?_toArray, List.getElem?_cons_succ, List.getElem?_cons_zero]; exact rfl) | exact rfl)
        · kernel_rfl
        · kernel_rfl
        · kernel_rfl
        · kernel_rfl
        · exact fun _ _ _ h => h
        · exact Or.inl ⟨by rfl, fun w _ => by go_simp⟩
        try simp only [Act.put, List.setIfInBounds_toArray, List.set_cons_zero, List.set_cons_succ]
        refine wpAnyE_take (i := 7) (oi := ?_) (v := .agg #[.string x.v0, .string x.v1, .string x.v2, .string x.v3, .string (bs (txt (pickO (makes l) x.t0))), .bool x.asks, .int .i64 x.w0, .int .i64 x.w1, .int .i64 x.w2, .string x.gp, .string x.gg, .string (bs (txt (pickO (makes l) x.t1))), .string (bs (txt (pickO (makes l) x.t2))), .string (bs (txt (pickO (makes l) x.t3)))]) ?_ ?_ ?_ ?_ ?_ ?_ ?_ hR.raw ?_
        rotate_left 1
        · (first | (simp only [List.getElem?_toArray, List.getElem?_cons_succ, List.getElem?_cons_zero]; exact rfl) | exact rfl)
        · kernel_rfl
        · kernel_rfl
        · kernel_rfl
        · kernel_rfl
        · exact fun _ _ _ h => h
        · exact Or.inl ⟨by rfl, fun w _ => by go_simp⟩
        try simp only [Act.put, List.setIfInBounds_toArray, List.set_cons_zero, List.set_cons_succ]
        refine wpAnyE_ready (rs := [10]) (by kernel_rfl) (by simp) ?_
        refine AllReadyE.cons (o := ?_) ?_ (fun K hK => ?_) AllReadyE.nil
        rotate_left 1
        · (first | (simp only [List.getElem?_toArray, List.getElem?_cons_succ, List.getElem?_cons_zero]; exact rfl) | exact rfl)
        have hne2 : w.heap.size ≠ b6 := fun e => by have h8 := hR.raw; have h9 := (hR.p6 b6 rfl).1; rw [e] at h8; exact blk_ty h8 h9 (by decide)
        refine step_storeW (x := .tmp 6) (y := .tmp 24) (u := .pointer (some ⟨b6, 0, none⟩)) (v := .agg #[.string x.v0, .string x.v1, .string x.v2, .string x.v3, .int .i64 n0, .bool x.asks, .int .u32 x.w0, .int .u32 x.w1, .int .u32 x.w2, .string x.gp, .string x.gg, .int .i64 n1, .int .i64 n2, .int .i64 n3]) rfl (by rfl) (by rfl) (fun ρ hρ hρ2 => st86 (cs := #[]) _ rfl ρ hρ hρ2 _ (hR.p6 _ rfl).1) ?_
        refine hK.out _ _ (sto14_far hR.raw hne2 (.string x.v0) (.string x.v1) (.string x.v2) (.string x.v3) (.int .i64 n0) (.bool x.asks) (.int .u32 x.w0) (.int .u32 x.w1) (.int .u32 x.w2) (.string x.gp) (.string x.gg) (.int .i64 n1) (.int .i64 n2) (.int .i64 n3)) (fun _ => ?_)
        clear hK K
        try simp only [Act.put, List.setIfInBounds_toArray, List.set_cons_zero, List.set_cons_succ]
        refine wpAnyE_ready (rs := [11]) (by kernel_rfl) (by simp) ?_
        refine AllReadyE.late (o := ?_) ?_ rfl (fun K hK => ?_) AllReadyE.nil
        rotate_left 1
        · (first | (simp only [List.getElem?_toArray, List.getElem?_cons_succ, List.getElem?_cons_zero]; exact rfl) | exact rfl)
        have h88 := sto14_far (hR.p7 b7 rfl).1 hne (.string x.v0) (.string x.v1) (.string x.v2) (.string x.v3) (.int .i64 n0) (.bool x.asks) (.int .u32 x.w0) (.int .u32 x.w1) (.int .u32 x.w2) (.string x.gp) (.string x.gg) (.int .i64 n1) (.int .i64 n2) (.int .i64 n3)
        have HC := hide (hR.fin hwB hi0 hi1 hi2 hi3)
        generalize sto14 W4 b6 (.string x.v0) (.string x.v1) (.string x.v2) (.string x.v3) (.int .i64 n0) (.bool x.asks) (.int .u32 x.w0) (.int .u32 x.w1) (.int .u32 x.w2) (.string x.gp) (.string x.gg) (.int .i64 n1) (.int .i64 n2) (.int .i64 n3) = wy at h88 HC ⊢
        clear hR
        refine step_storeW (x := .tmp 7) (y := .tmp 25) (u := .pointer (some ⟨b7, 0, none⟩)) (v := .agg #[.string x.v0, .string x.v1, .string x.v2, .string x.v3, .string (bs (txt (pickO (makes l) x.t0))), .bool x.asks, .int .i64 x.w0, .int .i64 x.w1, .int .i64 x.w2, .string x.gp, .string x.gg, .string (bs (txt (pickO (makes l) x.t1))), .string (bs (txt (pickO (makes l) x.t2))), .string (bs (txt (pickO (makes l) x.t3)))]) rfl (by rfl) (by rfl) (fun ρ hρ hρ2 => st88 (cs := #[]) _ rfl ρ hρ hρ2 _ h88) ?_
        refine hK.out _ _ ?_
        clear hK K
        try simp only [Act.put, List.setIfInBounds_toArray, List.set_cons_zero, List.set_cons_succ]
        refine wpAnyE_done (by kernel_rfl) ?_ _
        have hC := HC.out
        clear hT4 HC
        generalize sto14 wy b7 (.string x.v0) (.string x.v1) (.string x.v2) (.string x.v3) (.string (bs (txt (pickO (makes l) x.t0)))) (.bool x.asks) (.int .i64 x.w0) (.int .i64 x.w1) (.int .i64 x.w2) (.string x.gp) (.string x.gg) (.string (bs (txt (pickO (makes l) x.t1)))) (.string (bs (txt (pickO (makes l) x.t2)))) (.string (bs (txt (pickO (makes l) x.t3)))) = wz at hC ⊢
        go_wp2_with fail
        go_meet
        exact ⟨_, _, _, _, _, _, _, _, rfl, rfl, hC, hT5⟩
      refine AllReadyE.cons (o := ?_) ?_ (fun K hK => ?_) ?_
      rotate_left 1
      · (first | (simp only [List.getElem?_toArray, List.getElem?_cons_succ, List.getElem?_cons_zero]; exact rfl) | exact rfl)
      · skip
        refine step_allocV (.cells z86 86) rfl (fun ρ => al86 _ rfl ρ _) ?_
        have hR := hR.new6
        refine hK.out _ _ hR.raw (fun _ => ?_)
        clear hK K
        try simp only [Act.put, List.setIfInBounds_toArray, List.set_cons_zero, List.set_cons_succ]
        obtain ⟨b6, hb6⟩ : ∃ b6, b6 = W0.heap.size := ⟨_, rfl⟩
        rw [← hb6] at hR ⊢
        have hL6 : b6 < (W0.alloc (.cells z86 86)).heap.size := by rw [hb6]; simp
        clear hb6
        generalize W0.alloc (.cells z86 86) = W1 at hR hL6 ⊢
        refine wpAnyE_ready (rs := [3, 9]) (by kernel_rfl) (by simp) ?_
        refine AllReadyE.cons (o := ?_) ?_ (fun K hK => ?_) ?_
        rotate_left 1
        · (first | (simp only [List.getElem?_toArray, List.getElem?_cons_succ, List.getElem?_cons_zero]; exact rfl) | exact rfl)
        · skip
          refine step_call2 (u := .pointer (some ⟨g, 0, none⟩)) (v := .slice A l.length c) (f := 14) rfl (callP (x := .tmp 20) (y := .tmp 21) _ rfl (.inr rfl) _ (by rfl) (by rfl) _) (makes_any hR.use ((hl.outs (Outs.of_below (R := fun _ => False) hR.bel) (fun i h => h.elim)).mono hwB) (by omega) hls (by simp; omega)) ?_
          rintro e W2 ⟨T4, S4, v1, v2, rfl, hmd, hpre4, hT4, hA4, hG4⟩
          refine ⟨_, rfl, ?_⟩
          have hM := hmd.md
          have hT5 : T4.length ≤ 1000000 := by simp at hT4; omega
          have hR := hR.grown hwB hG4 hA4 (by omega)
          have hL6 := Nat.lt_of_lt_of_le hL6 hG4.size
          clear hmd hpre4 hA4 hG4
          refine hK.out _ _ hR.raw (fun _ => ?_)
          clear hK K
          try simp only [Act.put, List.setIfInBounds_toArray, List.set_cons_zero, List.set_cons_succ]
          refine wpAnyE_ready (rs := [4, 9]) (by kernel_rfl) (by simp) ?_
          refine AllReadyE.late (o := ?_) ?_ rfl (fun K hK => ?_) ?_
          rotate_left 1
          · (first | (simp only [List.getElem?_toArray, List.getElem?_cons_succ, List.getElem?_cons_zero]; exact rfl) | exact rfl)
          · skip
            refine step_call2 (u := .agg #[.string x.v0, .string x.v1, .string x.v2, .string x.v3, .int .i64 x.t0, .int .i64 x.t1, .int .i64 x.t2, .int .i64 x.t3, .bool x.asks, .int .u32 x.w0, .int .u32 x.w1, .int .u32 x.w2, .string x.gp, .string x.gg]) (v := .agg #[v1, v2]) (f := 43) rfl (callP (x := .tmp 19) (y := .tmp 22) _ rfl (.inl rfl) _ (by rfl) (by rfl) _) (parts_any2 hM x hx (by rw [makes_len]; omega)) ?_
            rintro e W3 ⟨n0, n1, n2, n3, rfl, hi0, hi1, hi2, hi3, hb9⟩
            refine ⟨_, rfl, ?_⟩
            have hR := hR.below hb9
            have hL6 := Nat.lt_of_lt_of_le hL6 hb9.size
            clear hb9 hM
            refine hK.out _ _ ?_
            clear hK K
            try simp only [Act.put, List.setIfInBounds_toArray, List.set_cons_zero, List.set_cons_succ]
            refine wpAnyE_take (i := 5) (oi := ?_) (v := .tuple #[.agg #[.string x.v0, .string x.v1, .string x.v2, .string x.v3, .int .i64 n0, .bool x.asks, .int .u32 x.w0, .int .u32 x.w1, .int .u32 x.w2, .string x.gp, .string x.gg, .int .i64 n1, .int .i64 n2, .int .i64 n3], .agg #[.string x.v0, .string x.v1, .string x.v2, .string x.v3, .string (bs (txt (pickO (makes l) x.t0))), .bool x.asks, .int .i64 x.w0, .int .i64 x.w1, .int .i64 x.w2, .string x.gp, .string x.gg, .string (bs (txt (pickO (makes l) x.t1))), .string (bs (txt (pickO (makes l) x.t2))), .string (bs (txt (pickO (makes l) x.t3)))]]) ?_ ?_ ?_ ?_ ?_ ?_ ?_ hR.raw ?_
            rotate_left 1
            · (first | (simp only [List.getElem?_toArray, List.getElem?_cons_succ, List.getElem?_cons_zero]; exact rfl) | exact rfl)
            · kernel_rfl
            · kernel_rfl
            · kernel_rfl
            · kernel_rfl
            · exact fun _ _ _ h => h
            · exact Or.inl ⟨by rfl, fun w _ => by go_simp⟩
            try simp only [Act.put, List.setIfInBounds_toArray, List.set_cons_zero, List.set_cons_succ]
            refine wpAnyE_take (i := 6) (oi := ?_) (v := .agg #[.string x.v0, .string x.v1, .string x.v2, .string x.v3, .int .i64 n0, .bool x.asks, .int .u32 x.w0, .int .u32 x.w1, .int .u32 x.w2, .string x.gp, .string x.gg, .int .i64 n1, .int .i64 n2, .int .i64 n3]) ?_ ?_ ?_ ?_ ?_ ?_ ?_ hR.raw ?_
            rotate_left 1
            · (first | (simp only [List.getElem?_toArray, List.getElem?_cons_succ, List.getElem?_cons_zero]; exact rfl) | exact rfl)
            · kernel_rfl
            · kernel_rfl
            · kernel_rfl
            · kernel_rfl
            · exact fun _ _ _ h => h
            · exact Or.inl ⟨by rfl, fun w _ => by go_simp⟩
            try simp only [Act.put, List.setIfInBounds_toArray, List.set_cons_zero, List.set_cons_succ]
            refine wpAnyE_take (i := 7) (oi := ?_) (v := .agg #[.string x.v0, .string x.v1, .string x.v2, .string x.v3, .string (bs (txt (pickO (makes l) x.t0))), .bool x.asks, .int .i64 x.w0, .int .i64 x.w1, .int .i64 x.w2, .string x.gp, .string x.gg, .string (bs (txt (pickO (makes l) x.t1))), .string (bs (txt (pickO (makes l) x.t2))), .string (bs (txt (pickO (makes l) x.t3)))]) ?_ ?_ ?_ ?_ ?_ ?_ ?_ hR.raw ?_
            rotate_left 1
            · (first | (simp only [List.getElem?_toArray, List.getElem?_cons_succ, List.getElem?_cons_zero]; exact rfl) | exact rfl)
            · kernel_rfl
            · kernel_rfl
            · kernel_rfl
            · kernel_rfl
            · exact fun _ _ _ h => h
            · exact Or.inl ⟨by rfl, fun w _ => by go_simp⟩
            try simp only [Act.put, List.setIfInBounds_toArray, List.set_cons_zero, List.set_cons_succ]
            refine wpAnyE_ready (rs := [9]) (by kernel_rfl) (by simp) ?_
            refine AllReadyE.cons (o := ?_) ?_ (fun K hK => ?_) AllReadyE.nil
            rotate_left 1
            · (first | (simp only [List.getElem?_toArray, List.getElem?_cons_succ, List.getElem?_cons_zero]; exact rfl) | exact rfl)
            refine step_allocV (.cells z88 88) rfl (fun ρ => al88 _ rfl ρ _) ?_
            have hR := hR.new7
            refine hK.out _ _ hR.raw (fun _ => ?_)
            clear hK K
            try simp only [Act.put, List.setIfInBounds_toArray, List.set_cons_zero, List.set_cons_succ]
            obtain ⟨b7, hb7⟩ : ∃ b7, b7 = W3.heap.size := ⟨_, rfl⟩
            rw [← hb7] at hR ⊢
            have hne : b7 ≠ b6 := fun e => by rw [hb7] at e; have := hL6; omega
            clear hb7
            clear hL6
            generalize W3.alloc (.cells z88 88) = W4 at hR ⊢
            refine wpAnyE_ready (rs := [10]) (by kernel_rfl) (by simp) ?_
            refine AllReadyE.cons (o := ?_) ?_ (fun K hK => ?_) AllReadyE.nil
            rotate_left 1
            · (first | (simp only [List.getElem?_toArray, List.getElem?_cons_succ, List.getElem?_cons_zero]; exact rfl) | exact rfl)
            have hne2 : w.heap.size ≠ b6 := fun e => by have h8 := hR.raw; have h9 := (hR.p6 b6 rfl).1; rw [e] at h8; exact blk_ty h8 h9 (by decide)
            refine step_storeW (x := .tmp 6) (y := .tmp 24) (u := .pointer (some ⟨b6, 0, none⟩)) (v := .agg #[.string x.v0, .string x.v1, .string x.v2, .string x.v3, .int .i64 n0, .bool x.asks, .int .u32 x.w0, .int .u32 x.w1, .int .u32 x.w2, .string x.gp, .string x.gg, .int .i64 n1, .int .i64 n2, .int .i64 n3]) rfl (by rfl) (by rfl) (fun ρ hρ hρ2 => st86 (cs := #[]) _ rfl ρ hρ hρ2 _ (hR.p6 _ rfl).1) ?_
            refine hK.out _ _ (sto14_far hR.raw hne2 (.string x.v0) (.string x.v1) (.string x.v2) (.string x.v3) (.int .i64 n0) (.bool x.asks) (.int .u32 x.w0) (.int .u32 x.w1) (.int .u32 x.w2) (.string x.gp) (.string x.gg) (.int .i64 n1) (.int .i64 n2) (.int .i64 n3)) (fun _ => ?_)
            clear hK K
            try simp only [Act.put, List.setIfInBounds_toArray, List.set_cons_zero, List.set_cons_succ]
            refine wpAnyE_ready (rs := [11]) (by kernel_rfl) (by simp) ?_
            refine AllReadyE.late (o := ?_) ?_ rfl (fun K hK => ?_) AllReadyE.nil
            rotate_left 1
            · (first | (simp only [List.getElem?_toArray, List.getElem?_cons_succ, List.getElem?_cons_zero]; exact rfl) | exact rfl)
            have h88 := sto14_far (hR.p7 b7 rfl).1 hne (.string x.v0) (.string x.v1) (.string x.v2) (.string x.v3) (.int .i64 n0) (.bool x.asks) (.int .u32 x.w0) (.int .u32 x.w1) (.int .u32 x.w2) (.string x.gp) (.string x.gg) (.int .i64 n1) (.int .i64 n2) (.int .i64 n3)
            have HC := hide (hR.fin hwB hi0 hi1 hi2 hi3)
            generalize sto14 W4 b6 (.string x.v0) (.string x.v1) (.string x.v2) (.string x.v3) (.int .i64 n0) (.bool x.asks) (.int .u32 x.w0) (.int .u32 x.w1) (.int .u32 x.w2) (.string x.gp) (.string x.gg) (.int .i64 n1) (.int .i64 n2) (.int .i64 n3) = wy at h88 HC ⊢
            clear hR
            refine step_storeW (x := .tmp 7) (y := .tmp 25) (u := .pointer (some ⟨b7, 0, none⟩)) (v := .agg #[.string x.v0, .string x.v1, .string x.v2, .string x.v3, .string (bs (txt (pickO (makes l) x.t0))), .bool x.asks, .int .i64 x.w0, .int .i64 x.w1, .int .i64 x.w2, .string x.gp, .string x.gg, .string (bs (txt (pickO (makes l) x.t1))), .string (bs (txt (pickO (makes l) x.t2))), .string (bs (txt (pickO (makes l) x.t3)))]) rfl (by rfl) (by rfl) (fun ρ hρ hρ2 => st88 (cs := #[]) _ rfl ρ hρ hρ2 _ h88) ?_
            refine hK.out _ _ ?_
            clear hK K
            try simp only [Act.put, List.setIfInBounds_toArray, List.set_cons_zero, List.set_cons_succ]
            refine wpAnyE_done (by kernel_rfl) ?_ _
            have hC := HC.out
            clear hT4 HC
            generalize sto14 wy b7 (.string x.v0) (.string x.v1) (.string x.v2) (.string x.v3) (.string (bs (txt (pickO (makes l) x.t0)))) (.bool x.asks) (.int .i64 x.w0) (.int .i64 x.w1) (.int .i64 x.w2) (.string x.gp) (.string x.gg) (.string (bs (txt (pickO (makes l) x.t1)))) (.string (bs (txt (pickO (makes l) x.t2)))) (.string (bs (txt (pickO (makes l) x.t3)))) = wz at hC ⊢
            go_wp2_with fail
            go_meet
            exact ⟨_, _, _, _, _, _, _, _, rfl, rfl, hC, hT5⟩
          refine AllReadyE.cons (o := ?_) ?_ (fun K hK => ?_) AllReadyE.nil
          rotate_left 1
          · (first | (simp only [List.getElem?_toArray, List.getElem?_cons_succ, List.getElem?_cons_zero]; exact rfl) | exact rfl)
          refine step_allocV (.cells z88 88) rfl (fun ρ => al88 _ rfl ρ _) ?_
          have hR := hR.new7
          have hM := hM.below (bel_new (.cells z88 88))
          refine hK.out _ _ hR.raw (fun _ => ?_)
          clear hK K
          try simp only [Act.put, List.setIfInBounds_toArray, List.set_cons_zero, List.set_cons_succ]
          obtain ⟨b7, hb7⟩ : ∃ b7, b7 = W2.heap.size := ⟨_, rfl⟩
          rw [← hb7] at hR ⊢
          have hne : b7 ≠ b6 := fun e => by rw [hb7] at e; have := hL6; omega
          clear hb7
          clear hL6
          generalize W2.alloc (.cells z88 88) = W3 at hR hM ⊢
          refine wpAnyE_ready (rs := [4]) (by kernel_rfl) (by simp) ?_
          refine AllReadyE.late (o := ?_) ?_ rfl (fun K hK => ?_) AllReadyE.nil
          rotate_left 1
          · (first | (simp only [List.getElem?_toArray, List.getElem?_cons_succ, List.getElem?_cons_zero]; exact rfl) | exact rfl)
          refine step_call2 (u := .agg #[.string x.v0, .string x.v1, .string x.v2, .string x.v3, .int .i64 x.t0, .int .i64 x.t1, .int .i64 x.t2, .int .i64 x.t3, .bool x.asks, .int .u32 x.w0, .int .u32 x.w1, .int .u32 x.w2, .string x.gp, .string x.gg]) (v := .agg #[v1, v2]) (f := 43) rfl (callP (x := .tmp 19) (y := .tmp 22) _ rfl (.inl rfl) _ (by rfl) (by rfl) _) (parts_any2 hM x hx (by rw [makes_len]; omega)) ?_
          rintro e W4 ⟨n0, n1, n2, n3, rfl, hi0, hi1, hi2, hi3, hb9⟩
          refine ⟨_, rfl, ?_⟩
          have hR := hR.below hb9
          clear hb9 hM
          refine hK.out _ _ ?_
          clear hK K
          try simp only [Act.put, List.setIfInBounds_toArray, List.set_cons_zero, List.set_cons_succ]
          refine wpAnyE_take (i := 5) (oi := ?_) (v := .tuple #[.agg #[.string x.v0, .string x.v1, .string x.v2, .string x.v3, .int .i64 n0, .bool x.asks, .int .u32 x.w0, .int .u32 x.w1, .int .u32 x.w2, .string x.gp, .string x.gg, .int .i64 n1, .int .i64 n2, .int .i64 n3], .agg #[.string x.v0, .string x.v1, .string x.v2, .string x.v3, .string (bs (txt (pickO (makes l) x.t0))), .bool x.asks, .int .i64 x.w0, .int .i64 x.w1, .int .i64 x.w2, .string x.gp, .string x.gg, .string (bs (txt (pickO (makes l) x.t1))), .string (bs (txt (pickO (makes l) x.t2))), .string (bs (txt (pickO (makes l) x.t3)))]]) ?_ ?_ ?_ ?_ ?_ ?_ ?_ hR.raw ?_
          rotate_left 1
          · (first | (simp only [List.getElem?_toArray, List.getElem?_cons_succ, List.getElem?_cons_zero]; exact rfl) | exact rfl)
          · kernel_rfl
          · kernel_rfl
          · kernel_rfl
          · kernel_rfl
          · exact fun _ _ _ h => h
          · exact Or.inl ⟨by rfl, fun w _ => by go_simp⟩
          try simp only [Act.put, List.setIfInBounds_toArray, List.set_cons_zero, List.set_cons_succ]
          refine wpAnyE_take (i := 6) (oi := ?_) (v := .agg #[.string x.v0, .string x.v1, .string x.v2, .string x.v3, .int .i64 n0, .bool x.asks, .int .u32 x.w0, .int .u32 x.w1, .int .u32 x.w2, .string x.gp, .string x.gg, .int .i64 n1, .int .i64 n2, .int .i64 n3]) ?_ ?_ ?_ ?_ ?_ ?_ ?_ hR.raw ?_
          rotate_left 1
          · (first | (simp only [List.getElem?_toArray, List.getElem?_cons_succ, List.getElem?_cons_zero]; exact rfl) | exact rfl)
          · kernel_rfl
          · kernel_rfl
          · kernel_rfl
          · kernel_rfl
          · exact fun _ _ _ h => h
          · exact Or.inl ⟨by rfl, fun w _ => by go_simp⟩
          try simp only [Act.put, List.setIfInBounds_toArray, List.set_cons_zero, List.set_cons_succ]
          refine wpAnyE_take (i := 7) (oi := ?_) (v := .agg #[.string x.v0, .string x.v1, .string x.v2, .string x.v3, .string (bs (txt (pickO (makes l) x.t0))), .bool x.asks, .int .i64 x.w0, .int .i64 x.w1, .int .i64 x.w2, .string x.gp, .string x.gg, .string (bs (txt (pickO (makes l) x.t1))), .string (bs (txt (pickO (makes l) x.t2))), .string (bs (txt (pickO (makes l) x.t3)))]) ?_ ?_ ?_ ?_ ?_ ?_ ?_ hR.raw ?_
          rotate_left 1
          · (first | (simp only [List.getElem?_toArray, List.getElem?_cons_succ, List.getElem?_cons_zero]; exact rfl) | exact rfl)
          · kernel_rfl
          · kernel_rfl
          · kernel_rfl
          · kernel_rfl
          · exact fun _ _ _ h => h
          · exact Or.inl ⟨by rfl, fun w _ => by go_simp⟩
          try simp only [Act.put, List.setIfInBounds_toArray, List.set_cons_zero, List.set_cons_succ]
          refine wpAnyE_ready (rs := [10]) (by kernel_rfl) (by simp) ?_
          refine AllReadyE.cons (o := ?_) ?_ (fun K hK => ?_) AllReadyE.nil
          rotate_left 1
          · (first | (simp only [List.getElem?_toArray, List.getElem?_cons_succ, List.getElem?_cons_zero]; exact rfl) | exact rfl)
          have hne2 : w.heap.size ≠ b6 := fun e => by have h8 := hR.raw; have h9 := (hR.p6 b6 rfl).1; rw [e] at h8; exact blk_ty h8 h9 (by decide)
          refine step_storeW (x := .tmp 6) (y := .tmp 24) (u := .pointer (some ⟨b6, 0, none⟩)) (v := .agg #[.string x.v0, .string x.v1, .string x.v2, .string x.v3, .int .i64 n0, .bool x.asks, .int .u32 x.w0, .int .u32 x.w1, .int .u32 x.w2, .string x.gp, .string x.gg, .int .i64 n1, .int .i64 n2, .int .i64 n3]) rfl (by rfl) (by rfl) (fun ρ hρ hρ2 => st86 (cs := #[]) _ rfl ρ hρ hρ2 _ (hR.p6 _ rfl).1) ?_
          refine hK.out _ _ (sto14_far hR.raw hne2 (.string x.v0) (.string x.v1) (.string x.v2) (.string x.v3) (.int .i64 n0) (.bool x.asks) (.int .u32 x.w0) (.int .u32 x.w1) (.int .u32 x.w2) (.string x.gp) (.string x.gg) (.int .i64 n1) (.int .i64 n2) (.int .i64 n3)) (fun _ => ?_)
          clear hK K
          try simp only [Act.put, List.setIfInBounds_toArray, List.set_cons_zero, List.set_cons_succ]
          refine wpAnyE_ready (rs := [11]) (by kernel_rfl) (by simp) ?_
          refine AllReadyE.late (o := ?_) ?_ rfl (fun K hK => ?_) AllReadyE.nil
          rotate_left 1
          · (first | (simp only [List.getElem?_toArray, List.getElem?_cons_succ, List.getElem?_cons_zero]; exact rfl) | exact rfl)
          have h88 := sto14_far (hR.p7 b7 rfl).1 hne (.string x.v0) (.string x.v1) (.string x.v2) (.string x.v3) (.int .i64 n0) (.bool x.asks) (.int .u32 x.w0) (.int .u32 x.w1) (.int .u32 x.w2) (.string x.gp) (.string x.gg) (.int .i64 n1) (.int .i64 n2) (.int .i64 n3)
          have HC := hide (hR.fin hwB hi0 hi1 hi2 hi3)
          generalize sto14 W4 b6 (.string x.v0) (.string x.v1) (.string x.v2) (.string x.v3) (.int .i64 n0) (.bool x.asks) (.int .u32 x.w0) (.int .u32 x.w1) (.int .u32 x.w2) (.string x.gp) (.string x.gg) (.int .i64 n1) (.int .i64 n2) (.int .i64 n3) = wy at h88 HC ⊢
          clear hR
          refine step_storeW (x := .tmp 7) (y := .tmp 25) (u := .pointer (some ⟨b7, 0, none⟩)) (v := .agg #[.string x.v0, .string x.v1, .string x.v2, .string x.v3, .string (bs (txt (pickO (makes l) x.t0))), .bool x.asks, .int .i64 x.w0, .int .i64 x.w1, .int .i64 x.w2, .string x.gp, .string x.gg, .string (bs (txt (pickO (makes l) x.t1))), .string (bs (txt (pickO (makes l) x.t2))), .string (bs (txt (pickO (makes l) x.t3)))]) rfl (by rfl) (by rfl) (fun ρ hρ hρ2 => st88 (cs := #[]) _ rfl ρ hρ hρ2 _ h88) ?_
          refine hK.out _ _ ?_
          clear hK K
          try simp only [Act.put, List.setIfInBounds_toArray, List.set_cons_zero, List.set_cons_succ]
          refine wpAnyE_done (by kernel_rfl) ?_ _
          have hC := HC.out
          clear hT4 HC
          generalize sto14 wy b7 (.string x.v0) (.string x.v1) (.string x.v2) (.string x.v3) (.string (bs (txt (pickO (makes l) x.t0)))) (.bool x.asks) (.int .i64 x.w0) (.int .i64 x.w1) (.int .i64 x.w2) (.string x.gp) (.string x.gg) (.string (bs (txt (pickO (makes l) x.t1)))) (.string (bs (txt (pickO (makes l) x.t2)))) (.string (bs (txt (pickO (makes l) x.t3)))) = wz at hC ⊢
          go_wp2_with fail
          go_meet
          exact ⟨_, _, _, _, _, _, _, _, rfl, rfl, hC, hT5⟩
        refine AllReadyE.cons (o := ?_) ?_ (fun K hK => ?_) AllReadyE.nil
        rotate_left 1
        · (first | (simp only [List.getElem?_toArray, List.getElem?_cons_succ, List.getElem?_cons_zero]; exact rfl) | exact rfl)
        refine step_allocV (.cells z88 88) rfl (fun ρ => al88 _ rfl ρ _) ?_
        have hR := hR.new7
        refine hK.out _ _ hR.raw (fun _ => ?_)
        clear hK K
        try simp only [Act.put, List.setIfInBounds_toArray, List.set_cons_zero, List.set_cons_succ]
        obtain ⟨b7, hb7⟩ : ∃ b7, b7 = W1.heap.size := ⟨_, rfl⟩
        rw [← hb7] at hR ⊢
        have hne : b7 ≠ b6 := fun e => by rw [hb7] at e; have := hL6; omega
        clear hb7
        clear hL6
        generalize W1.alloc (.cells z88 88) = W2 at hR ⊢
        refine wpAnyE_ready (rs := [3]) (by kernel_rfl) (by simp) ?_
        refine AllReadyE.cons (o := ?_) ?_ (fun K hK => ?_) AllReadyE.nil
        rotate_left 1
        · (first | (simp only [List.getElem?_toArray, List.getElem?_cons_succ, List.getElem?_cons_zero]; exact rfl) | exact rfl)
        refine step_call2 (u := .pointer (some ⟨g, 0, none⟩)) (v := .slice A l.length c) (f := 14) rfl (callP (x := .tmp 20) (y := .tmp 21) _ rfl (.inr rfl) _ (by rfl) (by rfl) _) (makes_any hR.use ((hl.outs (Outs.of_below (R := fun _ => False) hR.bel) (fun i h => h.elim)).mono hwB) (by omega) hls (by simp; omega)) ?_
        rintro e W3 ⟨T4, S4, v1, v2, rfl, hmd, hpre4, hT4, hA4, hG4⟩
        refine ⟨_, rfl, ?_⟩
        have hM := hmd.md
        have hT5 : T4.length ≤ 1000000 := by simp at hT4; omega
        have hR := hR.grown hwB hG4 hA4 (by omega)
        clear hmd hpre4 hA4 hG4
        refine hK.out _ _ hR.raw (fun _ => ?_)
        clear hK K
        try simp only [Act.put, List.setIfInBounds_toArray, List.set_cons_zero, List.set_cons_succ]
        refine wpAnyE_ready (rs := [4]) (by kernel_rfl) (by simp) ?_
        refine AllReadyE.late (o := ?_) ?_ rfl (fun K hK => ?_) AllReadyE.nil
        rotate_left 1
        · (first | (simp only [List.getElem?_toArray, List.getElem?_cons_succ, List.getElem?_cons_zero]; exact rfl) | exact rfl)
        refine step_call2 (u := .agg #[.string x.v0, .string x.v1, .string x.v2, .string x.v3, .int .i64 x.t0, .int .i64 x.t1, .int .i64 x.t2, .int .i64 x.t3, .bool x.asks, .int .u32 x.w0, .int .u32 x.w1, .int .u32 x.w2, .string x.gp, .string x.gg]) (v := .agg #[v1, v2]) (f := 43) rfl (callP (x := .tmp 19) (y := .tmp 22) _ rfl (.inl rfl) _ (by rfl) (by rfl) _) (parts_any2 hM x hx (by rw [makes_len]; omega)) ?_
        rintro e W4 ⟨n0, n1, n2, n3, rfl, hi0, hi1, hi2, hi3, hb9⟩
        refine ⟨_, rfl, ?_⟩
        have hR := hR.below hb9
        clear hb9 hM
        refine hK.out _ _ ?_
        clear hK K
        try simp only [Act.put, List.setIfInBounds_toArray, List.set_cons_zero, List.set_cons_succ]
        refine wpAnyE_take (i := 5) (oi := ?_) (v := .tuple #[.agg #[.string x.v0, .string x.v1, .string x.v2, .string x.v3, .int .i64 n0, .bool x.asks, .int .u32 x.w0, .int .u32 x.w1, .int .u32 x.w2, .string x.gp, .string x.gg, .int .i64 n1, .int .i64 n2, .int .i64 n3], .agg #[.string x.v0, .string x.v1, .string x.v2, .string x.v3, .string (bs (txt (pickO (makes l) x.t0))), .bool x.asks, .int .i64 x.w0, .int .i64 x.w1, .int .i64 x.w2, .string x.gp, .string x.gg, .string (bs (txt (pickO (makes l) x.t1))), .string (bs (txt (pickO (makes l) x.t2))), .string (bs (txt (pickO (makes l) x.t3)))]]) ?_ ?_ ?_ ?_ ?_ ?_ ?_ hR.raw ?_
        rotate_left 1
        · (first | (simp only [List.getElem?_toArray, List.getElem?_cons_succ, List.getElem?_cons_zero]; exact rfl) | exact rfl)
        · kernel_rfl
        · kernel_rfl
        · kernel_rfl
        · kernel_rfl
        · exact fun _ _ _ h => h
        · exact Or.inl ⟨by rfl, fun w _ => by go_simp⟩
        try simp only [Act.put, List.setIfInBounds_toArray, List.set_cons_zero, List.set_cons_succ]
        refine wpAnyE_take (i := 6) (oi := ?_) (v := .agg #[.string x.v0, .string x.v1, .string x.v2, .string x.v3, .int .i64 n0, .bool x.asks, .int .u32 x.w0, .int .u32 x.w1, .int .u32 x.w2, .string x.gp, .string x.gg, .int .i64 n1, .int .i64 n2, .int .i64 n3]) ?_ ?_ ?_ ?_ ?_ ?_ ?_ hR.raw ?_
        rotate_left 1
        · (first | (simp only [List.getElem?_toArray, List.getElem?_cons_succ, List.getElem?_cons_zero]; exact rfl) | exact rfl)
        · kernel_rfl
        · kernel_rfl
        · kernel_rfl
        · kernel_rfl
        · exact fun _ _ _ h => h
        · exact Or.inl ⟨by rfl, fun w _ => by go_simp⟩
        try simp only [Act.put, List.setIfInBounds_toArray, List.set_cons_zero, List.set_cons_succ]
        refine wpAnyE_take (i := 7) (oi := ?_) (v := .agg #[.string x.v0, .string x.v1, .string x.v2, .string x.v3, .string (bs (txt (pickO (makes l) x.t0))), .bool x.asks, .int .i64 x.w0, .int .i64 x.w1, .int .i64 x.w2, .string x.gp, .string x.gg, .string (bs (txt (pickO (makes l) x.t1))), .string (bs (txt (pickO (makes l) x.t2))), .string (bs (txt (pickO (makes l) x.t3)))]) ?_ ?_ ?_ ?_ ?_ ?_ ?_ hR.raw ?_
        rotate_left 1
        · (first | (simp only [List.getElem?_toArray, List.getElem?_cons_succ, List.getElem?_cons_zero]; exact rfl) | exact rfl)
        · kernel_rfl
        · kernel_rfl
        · kernel_rfl
        · kernel_rfl
        · exact fun _ _ _ h => h
        · exact Or.inl ⟨by rfl, fun w _ => by go_simp⟩
        try simp only [Act.put, List.setIfInBounds_toArray, List.set_cons_zero, List.set_cons_succ]
        refine wpAnyE_ready (rs := [10]) (by kernel_rfl) (by simp) ?_
        refine AllReadyE.cons (o := ?_) ?_ (fun K hK => ?_) AllReadyE.nil
        rotate_left 1
        · (first | (simp only [List.getElem?_toArray, List.getElem?_cons_succ, List.getElem?_cons_zero]; exact rfl) | exact rfl)
        have hne2 : w.heap.size ≠ b6 := fun e => by have h8 := hR.raw; have h9 := (hR.p6 b6 rfl).1; rw [e] at h8; exact blk_ty h8 h9 (by decide)
        refine step_storeW (x := .tmp 6) (y := .tmp 24) (u := .pointer (some ⟨b6, 0, none⟩)) (v := .agg #[.string x.v0, .string x.v1, .string x.v2, .string x.v3, .int .i64 n0, .bool x.asks, .int .u32 x.w0, .int .u32 x.w1, .int .u32 x.w2, .string x.gp, .string x.gg, .int .i64 n1, .int .i64 n2, .int .i64 n3]) rfl (by rfl) (by rfl) (fun ρ hρ hρ2 => st86 (cs := #[]) _ rfl ρ hρ hρ2 _ (hR.p6 _ rfl).1) ?_
        refine hK.out _ _ (sto14_far hR.raw hne2 (.string x.v0) (.string x.v1) (.string x.v2) (.string x.v3) (.int .i64 n0) (.bool x.asks) (.int .u32 x.w0) (.int .u32 x.w1) (.int .u32 x.w2) (.string x.gp) (.string x.gg) (.int .i64 n1) (.int .i64 n2) (.int .i64 n3)) (fun _ => ?_)
        clear hK K
        try simp only [Act.put, List.setIfInBounds_toArray, List.set_cons_zero, List.set_cons_succ]
        refine wpAnyE_ready (rs := [11]) (by kernel_rfl) (by simp) ?_
        refine AllReadyE.late (o := ?_) ?_ rfl (fun K hK => ?_) AllReadyE.nil
        rotate_left 1
        · (first | (simp only [List.getElem?_toArray, List.getElem?_cons_succ, List.getElem?_cons_zero]; exact rfl) | exact rfl)
        have h88 := sto14_far (hR.p7 b7 rfl).1 hne (.string x.v0) (.string x.v1) (.string x.v2) (.string x.v3) (.int .i64 n0) (.bool x.asks) (.int .u32 x.w0) (.int .u32 x.w1) (.int .u32 x.w2) (.string x.gp) (.string x.gg) (.int .i64 n1) (.int .i64 n2) (.int .i64 n3)
        have HC := hide (hR.fin hwB hi0 hi1 hi2 hi3)
        generalize sto14 W4 b6 (.string x.v0) (.string x.v1) (.string x.v2) (.string x.v3) (.int .i64 n0) (.bool x.asks) (.int .u32 x.w0) (.int .u32 x.w1) (.int .u32 x.w2) (.string x.gp) (.string x.gg) (.int .i64 n1) (.int .i64 n2) (.int .i64 n3) = wy at h88 HC ⊢
        clear hR
        refine step_storeW (x := .tmp 7) (y := .tmp 25) (u := .pointer (some ⟨b7, 0, none⟩)) (v := .agg #[.string x.v0, .string x.v1, .string x.v2, .string x.v3, .string (bs (txt (pickO (makes l) x.t0))), .bool x.asks, .int .i64 x.w0, .int .i64 x.w1, .int .i64 x.w2, .string x.gp, .string x.gg, .string (bs (txt (pickO (makes l) x.t1))), .string (bs (txt (pickO (makes l) x.t2))), .string (bs (txt (pickO (makes l) x.t3)))]) rfl (by rfl) (by rfl) (fun ρ hρ hρ2 => st88 (cs := #[]) _ rfl ρ hρ hρ2 _ h88) ?_
        refine hK.out _ _ ?_
        clear hK K
        try simp only [Act.put, List.setIfInBounds_toArray, List.set_cons_zero, List.set_cons_succ]
        refine wpAnyE_done (by kernel_rfl) ?_ _
        have hC := HC.out
        clear hT4 HC
        generalize sto14 wy b7 (.string x.v0) (.string x.v1) (.string x.v2) (.string x.v3) (.string (bs (txt (pickO (makes l) x.t0)))) (.bool x.asks) (.int .i64 x.w0) (.int .i64 x.w1) (.int .i64 x.w2) (.string x.gp) (.string x.gg) (.string (bs (txt (pickO (makes l) x.t1)))) (.string (bs (txt (pickO (makes l) x.t2)))) (.string (bs (txt (pickO (makes l) x.t3)))) = wz at hC ⊢
        go_wp2_with fail
        go_meet
        exact ⟨_, _, _, _, _, _, _, _, rfl, rfl, hC, hT5⟩
      refine AllReadyE.cons (o := ?_) ?_ (fun K hK => ?_) AllReadyE.nil
      rotate_left 1
      · (first | (simp only [List.getElem?_toArray, List.getElem?_cons_succ, List.getElem?_cons_zero]; exact rfl) | exact rfl)
      refine step_allocV (.cells z88 88) rfl (fun ρ => al88 _ rfl ρ _) ?_
      have hR := hR.new7
      refine hK.out _ _ hR.raw (fun _ => ?_)
      clear hK K
      try simp only [Act.put, List.setIfInBounds_toArray, List.set_cons_zero, List.set_cons_succ]
      obtain ⟨b7, hb7⟩ : ∃ b7, b7 = W0.heap.size := ⟨_, rfl⟩
      rw [← hb7] at hR ⊢
      have hL7 : b7 < (W0.alloc (.cells z88 88)).heap.size := by rw [hb7]; simp
      clear hb7
      generalize W0.alloc (.cells z88 88) = W1 at hR hL7 ⊢
      refine wpAnyE_ready (rs := [3, 8]) (by kernel_rfl) (by simp) ?_
      refine AllReadyE.cons (o := ?_) ?_ (fun K hK => ?_) ?_
      rotate_left 1
      · (first | (simp only [List.getElem?_toArray, List.getElem?_cons_succ, List.getElem?_cons_zero]; exact rfl) | exact rfl)
      · skip
        refine step_call2 (u := .pointer (some ⟨g, 0, none⟩)) (v := .slice A l.length c) (f := 14) rfl (callP (x := .tmp 20) (y := .tmp 21) _ rfl (.inr rfl) _ (by rfl) (by rfl) _) (makes_any hR.use ((hl.outs (Outs.of_below (R := fun _ => False) hR.bel) (fun i h => h.elim)).mono hwB) (by omega) hls (by simp; omega)) ?_
        rintro e W2 ⟨T4, S4, v1, v2, rfl, hmd, hpre4, hT4, hA4, hG4⟩
        refine ⟨_, rfl, ?_⟩
        have hM := hmd.md
        have hT5 : T4.length ≤ 1000000 := by simp at hT4; omega
        have hR := hR.grown hwB hG4 hA4 (by omega)
        have hL7 := Nat.lt_of_lt_of_le hL7 hG4.size
        clear hmd hpre4 hA4 hG4
        refine hK.out _ _ hR.raw (fun _ => ?_)
        clear hK K
        try simp only [Act.put, List.setIfInBounds_toArray, List.set_cons_zero, List.set_cons_succ]
        refine wpAnyE_ready (rs := [4, 8]) (by kernel_rfl) (by simp) ?_
        refine AllReadyE.late (o := ?_) ?_ rfl (fun K hK => ?_) ?_
        rotate_left 1
        · (first | (simp only [List.getElem?_toArray, List.getElem?_cons_succ, List.getElem?_cons_zero]; exact rfl) | exact rfl)
        · skip
          refine step_call2 (u := .agg #[.string x.v0, .string x.v1, .string x.v2, .string x.v3, .int .i64 x.t0, .int .i64 x.t1, .int .i64 x.t2, .int .i64 x.t3, .bool x.asks, .int .u32 x.w0, .int .u32 x.w1, .int .u32 x.w2, .string x.gp, .string x.gg]) (v := .agg #[v1, v2]) (f := 43) rfl (callP (x := .tmp 19) (y := .tmp 22) _ rfl (.inl rfl) _ (by rfl) (by rfl) _) (parts_any2 hM x hx (by rw [makes_len]; omega)) ?_
          rintro e W3 ⟨n0, n1, n2, n3, rfl, hi0, hi1, hi2, hi3, hb9⟩
          refine ⟨_, rfl, ?_⟩
          have hR := hR.below hb9
          have hL7 := Nat.lt_of_lt_of_le hL7 hb9.size
          clear hb9 hM
          refine hK.out _ _ ?_
          clear hK K
          try simp only [Act.put, List.setIfInBounds_toArray, List.set_cons_zero, List.set_cons_succ]
          refine wpAnyE_take (i := 5) (oi := ?_) (v := .tuple #[.agg #[.string x.v0, .string x.v1, .string x.v2, .string x.v3, .int .i64 n0, .bool x.asks, .int .u32 x.w0, .int .u32 x.w1, .int .u32 x.w2, .string x.gp, .string x.gg, .int .i64 n1, .int .i64 n2, .int .i64 n3], .agg #[.string x.v0, .string x.v1, .string x.v2, .string x.v3, .string (bs (txt (pickO (makes l) x.t0))), .bool x.asks, .int .i64 x.w0, .int .i64 x.w1, .int .i64 x.w2, .string x.gp, .string x.gg, .string (bs (txt (pickO (makes l) x.t1))), .string (bs (txt (pickO (makes l) x.t2))), .string (bs (txt (pickO (makes l) x.t3)))]]) ?_ ?_ ?_ ?_ ?_ ?_ ?_ hR.raw ?_
          rotate_left 1
          · (first | (simp only [List.getElem?_toArray, List.getElem?_cons_succ, List.getElem?_cons_zero]; exact rfl) | exact rfl)
          · kernel_rfl
          · kernel_rfl
          · kernel_rfl
          · kernel_rfl
          · exact fun _ _ _ h => h
          · exact Or.inl ⟨by rfl, fun w _ => by go_simp⟩
          try simp only [Act.put, List.setIfInBounds_toArray, List.set_cons_zero, List.set_cons_succ]
          refine wpAnyE_take (i := 6) (oi := ?_) (v := .agg #[.string x.v0, .string x.v1, .string x.v2, .string x.v3, .int .i64 n0, .bool x.asks, .int .u32 x.w0, .int .u32 x.w1, .int .u32 x.w2, .string x.gp, .string x.gg, .int .i64 n1, .int .i64 n2, .int .i64 n3]) ?_ ?_ ?_ ?_ ?_ ?_ ?_ hR.raw ?_
          rotate_left 1
          · (first | (simp only [List.getElem?_toArray, List.getElem?_cons_succ, List.getElem?_cons_zero]; exact rfl) | exact rfl)
          · kernel_rfl
          · kernel_rfl
          · kernel_rfl
          · kernel_rfl
          · exact fun _ _ _ h => h
          · exact Or.inl ⟨by rfl, fun w _ => by go_simp⟩
          try simp only [Act.put, List.setIfInBounds_toArray, List.set_cons_zero, List.set_cons_succ]
          refine wpAnyE_take (i := 7) (oi := ?_) (v := .agg #[.string x.v0, .string x.v1, .string x.v2, .string x.v3, .string (bs (txt (pickO (makes l) x.t0))), .bool x.asks, .int .i64 x.w0, .int .i64 x.w1, .int .i64 x.w2, .string x.gp, .string x.gg, .string (bs (txt (pickO (makes l) x.t1))), .string (bs (txt (pickO (makes l) x.t2))), .string (bs (txt (pickO (makes l) x.t3)))]) ?_ ?_ ?_ ?_ ?_ ?_ ?_ hR.raw ?_
          rotate_left 1
          · (first | (simp only [List.getElem?_toArray, List.getElem?_cons_succ, List.getElem?_cons_zero]; exact rfl) | exact rfl)
          · kernel_rfl
          · kernel_rfl
          · kernel_rfl
          · kernel_rfl
          · exact fun _ _ _ h => h
          · exact Or.inl ⟨by rfl, fun w _ => by go_simp⟩
          try simp only [Act.put, List.setIfInBounds_toArray, List.set_cons_zero, List.set_cons_succ]
          refine wpAnyE_ready (rs := [8]) (by kernel_rfl) (by simp) ?_
          refine AllReadyE.cons (o := ?_) ?_ (fun K hK => ?_) AllReadyE.nil
          rotate_left 1
          · (first | (simp only [List.getElem?_toArray, List.getElem?_cons_succ, List.getElem?_cons_zero]; exact rfl) | exact rfl)
          refine step_allocV (.cells z86 86) rfl (fun ρ => al86 _ rfl ρ _) ?_
          have hR := hR.new6
          refine hK.out _ _ hR.raw (fun _ => ?_)
          clear hK K
          try simp only [Act.put, List.setIfInBounds_toArray, List.set_cons_zero, List.set_cons_succ]
          obtain ⟨b6, hb6⟩ : ∃ b6, b6 = W3.heap.size := ⟨_, rfl⟩
          rw [← hb6] at hR ⊢
          have hne : b7 ≠ b6 := fun e => by rw [hb6] at e; have := hL7; omega
          clear hb6
          clear hL7
          generalize W3.alloc (.cells z86 86) = W4 at hR ⊢
          refine wpAnyE_ready (rs := [10]) (by kernel_rfl) (by simp) ?_
          refine AllReadyE.cons (o := ?_) ?_ (fun K hK => ?_) AllReadyE.nil
          rotate_left 1
          · (first | (simp only [List.getElem?_toArray, List.getElem?_cons_succ, List.getElem?_cons_zero]; exact rfl) | exact rfl)
          have hne2 : w.heap.size ≠ b6 := fun e => by have h8 := hR.raw; have h9 := (hR.p6 b6 rfl).1; rw [e] at h8; exact blk_ty h8 h9 (by decide)
          refine step_storeW (x := .tmp 6) (y := .tmp 24) (u := .pointer (some ⟨b6, 0, none⟩)) (v := .agg #[.string x.v0, .string x.v1, .string x.v2, .string x.v3, .int .i64 n0, .bool x.asks, .int .u32 x.w0, .int .u32 x.w1, .int .u32 x.w2, .string x.gp, .string x.gg, .int .i64 n1, .int .i64 n2, .int .i64 n3]) rfl (by rfl) (by rfl) (fun ρ hρ hρ2 => st86 (cs := #[]) _ rfl ρ hρ hρ2 _ (hR.p6 _ rfl).1) ?_
          refine hK.out _ _ (sto14_far hR.raw hne2 (.string x.v0) (.string x.v1) (.string x.v2) (.string x.v3) (.int .i64 n0) (.bool x.asks) (.int .u32 x.w0) (.int .u32 x.w1) (.int .u32 x.w2) (.string x.gp) (.string x.gg) (.int .i64 n1) (.int .i64 n2) (.int .i64 n3)) (fun _ => ?_)
          clear hK K
          try simp only [Act.put, List.setIfInBounds_toArray, List.set_cons_zero, List.set_cons_succ]
          refine wpAnyE_ready (rs := [11]) (by kernel_rfl) (by simp) ?_
          refine AllReadyE.late (o := ?_) ?_ rfl (fun K hK => ?_) AllReadyE.nil
          rotate_left 1
          · (first | (simp only [List.getElem?_toArray, List.getElem?_cons_succ, List.getElem?_cons_zero]; exact rfl) | exact rfl)
          have h88 := sto14_far (hR.p7 b7 rfl).1 hne (.string x.v0) (.string x.v1) (.string x.v2) (.string x.v3) (.int .i64 n0) (.bool x.asks) (.int .u32 x.w0) (.int .u32 x.w1) (.int .u32 x.w2) (.string x.gp) (.string x.gg) (.int .i64 n1) (.int .i64 n2) (.int .i64 n3)
          have HC := hide (hR.fin hwB hi0 hi1 hi2 hi3)
          generalize sto14 W4 b6 (.string x.v0) (.string x.v1) (.string x.v2) (.string x.v3) (.int .i64 n0) (.bool x.asks) (.int .u32 x.w0) (.int .u32 x.w1) (.int .u32 x.w2) (.string x.gp) (.string x.gg) (.int .i64 n1) (.int .i64 n2) (.int .i64 n3) = wy at h88 HC ⊢
          clear hR
          refine step_storeW (x := .tmp 7) (y := .tmp 25) (u := .pointer (some ⟨b7, 0, none⟩)) (v := .agg #[.string x.v0, .string x.v1, .string x.v2, .string x.v3, .string (bs (txt (pickO (makes l) x.t0))), .bool x.asks, .int .i64 x.w0, .int .i64 x.w1, .int .i64 x.w2, .string x.gp, .string x.gg, .string (bs (txt (pickO (makes l) x.t1))), .string (bs (txt (pickO (makes l) x.t2))), .string (bs (txt (pickO (makes l) x.t3)))]) rfl (by rfl) (by rfl) (fun ρ hρ hρ2 => st88 (cs := #[]) _ rfl ρ hρ hρ2 _ h88) ?_
          refine hK.out _ _ ?_
          clear hK K
          try simp only [Act.put, List.setIfInBounds_toArray, List.set_cons_zero, List.set_cons_succ]
          refine wpAnyE_done (by kernel_rfl) ?_ _
          have hC := HC.out
          clear hT4 HC
          generalize sto14 wy b7 (.string x.v0) (.string x.v1) (.string x.v2) (.string x.v3) (.string (bs (txt (pickO (makes l) x.t0)))) (.bool x.asks) (.int .i64 x.w0) (.int .i64 x.w1) (.int .i64 x.w2) (.string x.gp) (.string x.gg) (.string (bs (txt (pickO (makes l) x.t1)))) (.string (bs (txt (pickO (makes l) x.t2)))) (.string (bs (txt (pickO (makes l) x.t3)))) = wz at hC ⊢
          go_wp2_with fail
          go_meet
          exact ⟨_, _, _, _, _, _, _, _, rfl, rfl, hC, hT5⟩
        refine AllReadyE.cons (o := ?_) ?_ (fun K hK => ?_) AllReadyE.nil
        rotate_left 1
        · (first | (simp only [List.getElem?_toArray, List.getElem?_cons_succ, List.getElem?_cons_zero]; exact rfl) | exact rfl)
        refine step_allocV (.cells z86 86) rfl (fun ρ => al86 _ rfl ρ _) ?_
        have hR := hR.new6
        have hM := hM.below (bel_new (.cells z86 86))
        refine hK.out _ _ hR.raw (fun _ => ?_)
        clear hK K
        try simp only [Act.put, List.setIfInBounds_toArray, List.set_cons_zero, List.set_cons_succ]
        obtain ⟨b6, hb6⟩ : ∃ b6, b6 = W2.heap.size := ⟨_, rfl⟩
        rw [← hb6] at hR ⊢
        have hne : b7 ≠ b6 := fun e => by rw [hb6] at e; have := hL7; omega
        clear hb6
        clear hL7
        generalize W2.alloc (.cells z86 86) = W3 at hR hM ⊢
        refine wpAnyE_ready (rs := [4]) (by kernel_rfl) (by simp) ?_
        refine AllReadyE.late (o := ?_) ?_ rfl (fun K hK => ?_) AllReadyE.nil
        rotate_left 1
        · (first | (simp only [List.getElem?_toArray, List.getElem?_cons_succ, List.getElem?_cons_zero]; exact rfl) | exact rfl)
        refine step_call2 (u := .agg #[.string x.v0, .string x.v1, .string x.v2, .string x.v3, .int .i64 x.t0, .int .i64 x.t1, .int .i64 x.t2, .int .i64 x.t3, .bool x.asks, .int .u32 x.w0, .int .u32 x.w1, .int .u32 x.w2, .string x.gp, .string x.gg]) (v := .agg #[v1, v2]) (f := 43) rfl (callP (x := .tmp 19) (y := .tmp 22) _ rfl (.inl rfl) _ (by rfl) (by rfl) _) (parts_any2 hM x hx (by rw [makes_len]; omega)) ?_
        rintro e W4 ⟨n0, n1, n2, n3, rfl, hi0, hi1, hi2, hi3, hb9⟩
        refine ⟨_, rfl, ?_⟩
        have hR := hR.below hb9
        clear hb9 hM
        refine hK.out _ _ ?_
        clear hK K
        try simp only [Act.put, List.setIfInBounds_toArray, List.set_cons_zero, List.set_cons_succ]
        refine wpAnyE_take (i := 5) (oi := ?_) (v := .tuple #[.agg #[.string x.v0, .string x.v1, .string x.v2, .string x.v3, .int .i64 n0, .bool x.asks, .int .u32 x.w0, .int .u32 x.w1, .int .u32 x.w2, .string x.gp, .string x.gg, .int .i64 n1, .int .i64 n2, .int .i64 n3], .agg #[.string x.v0, .string x.v1, .string x.v2, .string x.v3, .string (bs (txt (pickO (makes l) x.t0))), .bool x.asks, .int .i64 x.w0, .int .i64 x.w1, .int .i64 x.w2, .string x.gp, .string x.gg, .string (bs (txt (pickO (makes l) x.t1))), .string (bs (txt (pickO (makes l) x.t2))), .string (bs (txt (pickO (makes l) x.t3)))]]) ?_ ?_ ?_ ?_ ?_ ?_ ?_ hR.raw ?_
        rotate_left 1
        · (first | (simp only [List.getElem?_toArray, List.getElem?_cons_succ, List.getElem?_cons_zero]; exact rfl) | exact rfl)
        · kernel_rfl
        · kernel_rfl
        · kernel_rfl
        · kernel_rfl
        · exact fun _ _ _ h => h
        · exact Or.inl ⟨by rfl, fun w _ => by go_simp⟩
        try simp only [Act.put, List.setIfInBounds_toArray, List.set_cons_zero, List.set_cons_succ]
        refine wpAnyE_take (i := 6) (oi := ?_) (v := .agg #[.string x.v0, .string x.v1, .string x.v2, .string x.v3, .int .i64 n0, .bool x.asks, .int .u32 x.w0, .int .u32 x.w1, .int .u32 x.w2, .string x.gp, .string x.gg, .int .i64 n1, .int .i64 n2, .int .i64 n3]) ?_ ?_ ?_ ?_ ?_ ?_ ?_ hR.raw ?_
        rotate_left 1
        · (first | (simp only [List.getElem?_toArray, List.getElem?_cons_succ, List.getElem?_cons_zero]; exact rfl) | exact rfl)
        · kernel_rfl
        · kernel_rfl
        · kernel_rfl
        · kernel_rfl
        · exact fun _ _ _ h => h
        · exact Or.inl ⟨by rfl, fun w _ => by go_simp⟩
        try simp only [Act.put, List.setIfInBounds_toArray, List.set_cons_zero, List.set_cons_succ]
        refine wpAnyE_take (i := 7) (oi := ?_) (v := .agg #[.string x.v0, .string x.v1, .string x.v2, .string x.v3, .string (bs (txt (pickO (makes l) x.t0))), .bool x.asks, .int .i64 x.w0, .int .i64 x.w1, .int .i64 x.w2, .string x.gp, .string x.gg, .string (bs (txt (pickO (makes l) x.t1))), .string (bs (txt (pickO (makes l) x.t2))), .string (bs (txt (pickO (makes l) x.t3)))]) ?_ ?_ ?_ ?_ ?_ ?_ ?_ hR.raw ?_
        rotate_left 1
        · (first | (simp only [List.getElem?_toArray, List.getElem?_cons_succ, List.getElem?_cons_zero]; exact rfl) | exact rfl)
        · kernel_rfl
        · kernel_rfl
        · kernel_rfl
        · kernel_rfl
        · exact fun _ _ _ h => h
        · exact Or.inl ⟨by rfl, fun w _ => by go_simp⟩
        try simp only [Act.put, List.setIfInBounds_toArray, List.set_cons_zero, List.set_cons_succ]
        refine wpAnyE_ready (rs := [10]) (by kernel_rfl) (by simp) ?_
        refine AllReadyE.cons (o := ?_) ?_ (fun K hK => ?_) AllReadyE.nil
        rotate_left 1
        · (first | (simp only [List.getElem?_toArray, List.getElem?_cons_succ, List.getElem?_cons_zero]; exact rfl) | exact rfl)
        have hne2 : w.heap.size ≠ b6 := fun e => by have h8 := hR.raw; have h9 := (hR.p6 b6 rfl).1; rw [e] at h8; exact blk_ty h8 h9 (by decide)
        refine step_storeW (x := .tmp 6) (y := .tmp 24) (u := .pointer (some ⟨b6, 0, none⟩)) (v := .agg #[.string x.v0, .string x.v1, .string x.v2, .string x.v3, .int .i64 n0, .bool x.asks, .int .u32 x.w0, .int .u32 x.w1, .int .u32 x.w2, .string x.gp, .string x.gg, .int .i64 n1, .int .i64 n2, .int .i64 n3]) rfl (by rfl) (by rfl) (fun ρ hρ hρ2 => st86 (cs := #[]) _ rfl ρ hρ hρ2 _ (hR.p6 _ rfl).1) ?_
        refine hK.out _ _ (sto14_far hR.raw hne2 (.string x.v0) (.string x.v1) (.string x.v2) (.string x.v3) (.int .i64 n0) (.bool x.asks) (.int .u32 x.w0) (.int .u32 x.w1) (.int .u32 x.w2) (.string x.gp) (.string x.gg) (.int .i64 n1) (.int .i64 n2) (.int .i64 n3)) (fun _ => ?_)
        clear hK K
        try simp only [Act.put, List.setIfInBounds_toArray, List.set_cons_zero, List.set_cons_succ]
        refine wpAnyE_ready (rs := [11]) (by kernel_rfl) (by simp) ?_
        refine AllReadyE.late (o := ?_) ?_ rfl (fun K hK => ?_) AllReadyE.nil
        rotate_left 1
        · (first | (simp only [List.getElem?_toArray, List.getElem?_cons_succ, List.getElem?_cons_zero]; exact rfl) | exact rfl)
        have h88 := sto14_far (hR.p7 b7 rfl).1 hne (.string x.v0) (.string x.v1) (.string x.v2) (.string x.v3) (.int .i64 n0) (.bool x.asks) (.int .u32 x.w0) (.int .u32 x.w1) (.int .u32 x.w2) (.string x.gp) (.string x.gg) (.int .i64 n1) (.int .i64 n2) (.int .i64 n3)
        have HC := hide (hR.fin hwB hi0 hi1 hi2 hi3)
        generalize sto14 W4 b6 (.string x.v0) (.string x.v1) (.string x.v2) (.string x.v3) (.int .i64 n0) (.bool x.asks) (.int .u32 x.w0) (.int .u32 x.w1) (.int .u32 x.w2) (.string x.gp) (.string x.gg) (.int .i64 n1) (.int .i64 n2) (.int .i64 n3) = wy at h88 HC ⊢
        clear hR
        refine step_storeW (x := .tmp 7) (y := .tmp 25) (u := .pointer (some ⟨b7, 0, none⟩)) (v := .agg #[.string x.v0, .string x.v1, .string x.v2, .string x.v3, .string (bs (txt (pickO (makes l) x.t0))), .bool x.asks, .int .i64 x.w0, .int .i64 x.w1, .int .i64 x.w2, .string x.gp, .string x.gg, .string (bs (txt (pickO (makes l) x.t1))), .string (bs (txt (pickO (makes l) x.t2))), .string (bs (txt (pickO (makes l) x.t3)))]) rfl (by rfl) (by rfl) (fun ρ hρ hρ2 => st88 (cs := #[]) _ rfl ρ hρ hρ2 _ h88) ?_
        refine hK.out _ _ ?_
        clear hK K
        try simp only [Act.put, List.setIfInBounds_toArray, List.set_cons_zero, List.set_cons_succ]
        refine wpAnyE_done (by kernel_rfl) ?_ _
        have hC := HC.out
        clear hT4 HC
        generalize sto14 wy b7 (.string x.v0) (.string x.v1) (.string x.v2) (.string x.v3) (.string (bs (txt (pickO (makes l) x.t0)))) (.bool x.asks) (.int .i64 x.w0) (.int .i64 x.w1) (.int .i64 x.w2) (.string x.gp) (.string x.gg) (.string (bs (txt (pickO (makes l) x.t1)))) (.string (bs (txt (pickO (makes l) x.t2)))) (.string (bs (txt (pickO (makes l) x.t3)))) = wz at hC ⊢
        go_wp2_with fail
        go_meet
        exact ⟨_, _, _, _, _, _, _, _, rfl, rfl, hC, hT5⟩
      refine AllReadyE.cons (o := ?_) ?_ (fun K hK => ?_) AllReadyE.nil
      rotate_left 1
      · (first | (simp only [List.getElem?_toArray, List.getElem?_cons_succ, List.getElem?_cons_zero]; exact rfl) | exact rfl)
      refine step_allocV (.cells z86 86) rfl (fun ρ => al86 _ rfl ρ _) ?_
      have hR := hR.new6
      refine hK.out _ _ hR.raw (fun _ => ?_)
      clear hK K
      try simp only [Act.put, List.setIfInBounds_toArray, List.set_cons_zero, List.set_cons_succ]
      obtain ⟨b6, hb6⟩ : ∃ b6, b6 = W1.heap.size := ⟨_, rfl⟩
      rw [← hb6] at hR ⊢
      have hne : b7 ≠ b6 := fun e => by rw [hb6] at e; have := hL7; omega
      clear hb6
      clear hL7
      generalize W1.alloc (.cells z86 86) = W2 at hR ⊢
      refine wpAnyE_ready (rs := [3]) (by kernel_rfl) (by simp) ?_
      refine AllReadyE.cons (o := ?_) ?_ (fun K hK => ?_) AllReadyE.nil
      rotate_left 1
      · (first | (simp only [List.getElem?_toArray, List.getElem?_cons_succ, List.getElem?_cons_zero]; exact rfl) | exact rfl)
      refine step_call2 (u := .pointer (some ⟨g, 0, none⟩)) (v := .slice A l.length c) (f := 14) rfl (callP (x := .tmp 20) (y := .tmp 21) _ rfl (.inr rfl) _ (by rfl) (by rfl) _) (makes_any hR.use ((hl.outs (Outs.of_below (R := fun _ => False) hR.bel) (fun i h => h.elim)).mono hwB) (by omega) hls (by simp; omega)) ?_
      rintro e W3 ⟨T4, S4, v1, v2, rfl, hmd, hpre4, hT4, hA4, hG4⟩
      refine ⟨_, rfl, ?_⟩
      have hM := hmd.md
      have hT5 : T4.length ≤ 1000000 := by simp at hT4; omega
      have hR := hR.grown hwB hG4 hA4 (by omega)
      clear hmd hpre4 hA4 hG4
      refine hK.out _ _ hR.raw (fun _ => ?_)
      clear hK K
      try simp only [Act.put, List.setIfInBounds_toArray, List.set_cons_zero, List.set_cons_succ]
      refine wpAnyE_ready (rs := [4]) (by kernel_rfl) (by simp) ?_
      refine AllReadyE.late (o := ?_) ?_ rfl (fun K hK => ?_) AllReadyE.nil
      rotate_left 1
      · (first | (simp only [List.getElem?_toArray, List.getElem?_cons_succ, List.getElem?_cons_zero]; exact rfl) | exact rfl)
      refine step_call2 (u := .agg #[.string x.v0, .string x.v1, .string x.v2, .string x.v3, .int .i64 x.t0, .int .i64 x.t1, .int .i64 x.t2, .int .i64 x.t3, .bool x.asks, .int .u32 x.w0, .int .u32 x.w1, .int .u32 x.w2, .string x.gp, .string x.gg]) (v := .agg #[v1, v2]) (f := 43) rfl (callP (x := .tmp 19) (y := .tmp 22) _ rfl (.inl rfl) _ (by rfl) (by rfl) _) (parts_any2 hM x hx (by rw [makes_len]; omega)) ?_
      rintro e W4 ⟨n0, n1, n2, n3, rfl, hi0, hi1, hi2, hi3, hb9⟩
      refine ⟨_, rfl, ?_⟩
      have hR := hR.below hb9
      clear hb9 hM
      refine hK.out _ _ ?_
      clear hK K
      try simp only [Act.put, List.setIfInBounds_toArray, List.set_cons_zero, List.set_cons_succ]
      refine wpAnyE_take (i := 5) (oi := ?_) (v := .tuple #[.agg #[.string x.v0, .string x.v1, .string x.v2, .string x.v3, .int .i64 n0, .bool x.asks, .int .u32 x.w0, .int .u32 x.w1, .int .u32 x.w2, .string x.gp, .string x.gg, .int .i64 n1, .int .i64 n2, .int .i64 n3], .agg #[.string x.v0, .string x.v1, .string x.v2, .string x.v3, .string (bs (txt (pickO (makes l) x.t0))), .bool x.asks, .int .i64 x.w0, .int .i64 x.w1, .int .i64 x.w2, .string x.gp, .string x.gg, .string (bs (txt (pickO (makes l) x.t1))), .string (bs (txt (pickO (makes l) x.t2))), .string (bs (txt (pickO (makes l) x.t3)))]]) ?_ ?_ ?_ ?_ ?_ ?_ ?_ hR.raw ?_
      rotate_left 1
      · (first | (simp only [List.getElem?_toArray, List.getElem?_cons_succ, List.getElem?_cons_zero]; exact rfl) | exact rfl)
      · kernel_rfl
      · kernel_rfl
      · kernel_rfl
      · kernel_rfl
      · exact fun _ _ _ h => h
      · exact Or.inl ⟨by rfl, fun w _ => by go_simp⟩
      try simp only [Act.put, List.setIfInBounds_toArray, List.set_cons_zero, List.set_cons_succ]
      refine wpAnyE_take (i := 6) (oi := ?_) (v := .agg #[.string x.v0, .string x.v1, .string x.v2, .string x.v3, .int .i64 n0, .bool x.asks, .int .u32 x.w0, .int .u32 x.w1, .int .u32 x.w2, .string x.gp, .string x.gg, .int .i64 n1, .int .i64 n2, .int .i64 n3]) ?_ ?_ ?_ ?_ ?_ ?_ ?_ hR.raw ?_
      rotate_left 1
      · (first | (simp only [List.getElem?_toArray, List.getElem?_cons_succ, List.getElem?_cons_zero]; exact rfl) | exact rfl)
      · kernel_rfl
      · kernel_rfl
      · kernel_rfl
      · kernel_rfl
      · exact fun _ _ _ h => h
      · exact Or.inl ⟨by rfl, fun w _ => by go_simp⟩
      try simp only [Act.put, List.setIfInBounds_toArray, List.set_cons_zero, List.set_cons_succ]
      refine wpAnyE_take (i := 7) (oi := ?_) (v := .agg #[.string x.v0, .string x.v1, .string x.v2, .string x.v3, .string (bs (txt (pickO (makes l) x.t0))), .bool x.asks, .int .i64 x.w0, .int .i64 x.w1, .int .i64 x.w2, .string x.gp, .string x.gg, .string (bs (txt (pickO (makes l) x.t1))), .string (bs (txt (pickO (makes l) x.t2))), .string (bs (txt (pickO (makes l) x.t3)))]) ?_ ?_ ?_ ?_ ?_ ?_ ?_ hR.raw ?_
      rotate_left 1
      · (first | (simp only [List.getElem?_toArray, List.getElem?_cons_succ, List.getElem?_cons_zero]; exact rfl) | exact rfl)
      · kernel_rfl
      · kernel_rfl
      · kernel_rfl
      · kernel_rfl
      · exact fun _ _ _ h => h
      · exact Or.inl ⟨by rfl, fun w _ => by go_simp⟩
      try simp only [Act.put, List.setIfInBounds_toArray, List.set_cons_zero, List.set_cons_succ]
      refine wpAnyE_ready (rs := [10]) (by kernel_rfl) (by simp) ?_
      refine AllReadyE.cons (o := ?_) ?_ (fun K hK => ?_) AllReadyE.nil
      rotate_left 1
      · (first | (simp only [List.getElem?_toArray, List.getElem?_cons_succ, List.getElem?_cons_zero]; exact rfl) | exact rfl)
      have hne2 : w.heap.size ≠ b6 := fun e => by have h8 := hR.raw; have h9 := (hR.p6 b6 rfl).1; rw [e] at h8; exact blk_ty h8 h9 (by decide)
      refine step_storeW (x := .tmp 6) (y := .tmp 24) (u := .pointer (some ⟨b6, 0, none⟩)) (v := .agg #[.string x.v0, .string x.v1, .string x.v2, .string x.v3, .int .i64 n0, .bool x.asks, .int .u32 x.w0, .int .u32 x.w1, .int .u32 x.w2, .string x.gp, .string x.gg, .int .i64 n1, .int .i64 n2, .int .i64 n3]) rfl (by rfl) (by rfl) (fun ρ hρ hρ2 => st86 (cs := #[]) _ rfl ρ hρ hρ2 _ (hR.p6 _ rfl).1) ?_
      refine hK.out _ _ (sto14_far hR.raw hne2 (.string x.v0) (.string x.v1) (.string x.v2) (.string x.v3) (.int .i64 n0) (.bool x.asks) (.int .u32 x.w0) (.int .u32 x.w1) (.int .u32 x.w2) (.string x.gp) (.string x.gg) (.int .i64 n1) (.int .i64 n2) (.int .i64 n3)) (fun _ => ?_)
      clear hK K
      try simp only [Act.put, List.setIfInBounds_toArray, List.set_cons_zero, List.set_cons_succ]
      refine wpAnyE_ready (rs := [11]) (by kernel_rfl) (by simp) ?_
      refine AllReadyE.late (o := ?_) ?_ rfl (fun K hK => ?_) AllReadyE.nil
      rotate_left 1
      · (first | (simp only [List.getElem?_toArray, List.getElem?_cons_succ, List.getElem?_cons_zero]; exact rfl) | exact rfl)
      have h88 := sto14_far (hR.p7 b7 rfl).1 hne (.string x.v0) (.string x.v1) (.string x.v2) (.string x.v3) (.int .i64 n0) (.bool x.asks) (.int .u32 x.w0) (.int .u32 x.w1) (.int .u32 x.w2) (.string x.gp) (.string x.gg) (.int .i64 n1) (.int .i64 n2) (.int .i64 n3)
      have HC := hide (hR.fin hwB hi0 hi1 hi2 hi3)
      generalize sto14 W4 b6 (.string x.v0) (.string x.v1) (.string x.v2) (.string x.v3) (.int .i64 n0) (.bool x.asks) (.int .u32 x.w0) (.int .u32 x.w1) (.int .u32 x.w2) (.string x.gp) (.string x.gg) (.int .i64 n1) (.int .i64 n2) (.int .i64 n3) = wy at h88 HC ⊢
      clear hR
      refine step_storeW (x := .tmp 7) (y := .tmp 25) (u := .pointer (some ⟨b7, 0, none⟩)) (v := .agg #[.string x.v0, .string x.v1, .string x.v2, .string x.v3, .string (bs (txt (pickO (makes l) x.t0))), .bool x.asks, .int .i64 x.w0, .int .i64 x.w1, .int .i64 x.w2, .string x.gp, .string x.gg, .string (bs (txt (pickO (makes l) x.t1))), .string (bs (txt (pickO (makes l) x.t2))), .string (bs (txt (pickO (makes l) x.t3)))]) rfl (by rfl) (by rfl) (fun ρ hρ hρ2 => st88 (cs := #[]) _ rfl ρ hρ hρ2 _ h88) ?_
      refine hK.out _ _ ?_
      clear hK K
      try simp only [Act.put, List.setIfInBounds_toArray, List.set_cons_zero, List.set_cons_succ]
      refine wpAnyE_done (by kernel_rfl) ?_ _
      have hC := HC.out
      clear hT4 HC
      generalize sto14 wy b7 (.string x.v0) (.string x.v1) (.string x.v2) (.string x.v3) (.string (bs (txt (pickO (makes l) x.t0)))) (.bool x.asks) (.int .i64 x.w0) (.int .i64 x.w1) (.int .i64 x.w2) (.string x.gp) (.string x.gg) (.string (bs (txt (pickO (makes l) x.t1)))) (.string (bs (txt (pickO (makes l) x.t2)))) (.string (bs (txt (pickO (makes l) x.t3)))) = wz at hC ⊢
      go_wp2_with fail
      go_meet
      exact ⟨_, _, _, _, _, _, _, _, rfl, rfl, hC, hT5⟩
  case rest =>
    obtain ⟨wx, rfl⟩ : ∃ wx : World, wx = wc := ⟨wc, rfl⟩
    obtain ⟨T, S4, b6, b7, n0, n1, n2, n3, rfl, rfl, hC, hTl⟩ := hcut
    have hfit := fitR (ms := makes l) hx hfx
    have hmf := makes_fine hls
    have f0 := pickO_fine hmf x.t0
    have f1 := pickO_fine hmf x.t1
    have f2 := pickO_fine hmf x.t2
    have f3 := pickO_fine hmf x.t3
    have fT : fineO (transO (partsR (makes l) x)) := transO_fine hfit f0 f1 f2 f3
    have HRL := hide (fun W => (parts2V_eq (makes l) x ▸ rList20_any (partsR (makes l) x) hfit f0 f1 f2 f3 W : Calls Tryz.prog 47 #[.agg #[.string x.v0, .string x.v1, .string x.v2, .string x.v3, .string (bs (txt (pickO (makes l) x.t0))), .bool x.asks, .int .i64 x.w0, .int .i64 x.w1, .int .i64 x.w2, .string x.gp, .string x.gg, .string (bs (txt (pickO (makes l) x.t1))), .string (bs (txt (pickO (makes l) x.t2))), .string (bs (txt (pickO (makes l) x.t3)))]] W (Says (txt (transO (partsR (makes l) x))) W)))
    have HRH := hide (fun W => (parts2V_eq (makes l) x ▸ rHash20_any (partsR (makes l) x) hfit f0 f1 f2 f3 fT W : Calls Tryz.prog 48 #[.agg #[.string x.v0, .string x.v1, .string x.v2, .string x.v3, .string (bs (txt (pickO (makes l) x.t0))), .bool x.asks, .int .i64 x.w0, .int .i64 x.w1, .int .i64 x.w2, .string x.gp, .string x.gg, .string (bs (txt (pickO (makes l) x.t1))), .string (bs (txt (pickO (makes l) x.t2))), .string (bs (txt (pickO (makes l) x.t3)))]] W (Says (txt (hashO (partsR (makes l) x))) W)))
    have HLI := hide (fun (W : World) (T' : List Tm) (S' : Nat → Prop) (hU : Use B W g T' S') (hp : T <+: T') (hl' : T'.length ≤ 10000000) => (partsV_eq (makes l) x n0 n1 n2 n3 ▸ list_any hU (partsR (makes l) x) hfit (hC.i0.pre hp) (hC.i1.pre hp) (hC.i2.pre hp) (hC.i3.pre hp) hl' : Calls Tryz.prog 46 #[.pointer (some ⟨g, 0, none⟩), .agg #[.string x.v0, .string x.v1, .string x.v2, .string x.v3, .int .i64 n0, .bool x.asks, .int .u32 x.w0, .int .u32 x.w1, .int .u32 x.w2, .string x.gp, .string x.gg, .int .i64 n1, .int .i64 n2, .int .i64 n3]] W (DoneL B W g T' S' (transO (partsR (makes l) x)) 10)))
    have HHA := hide (fun (W : World) (T' : List Tm) (S' : Nat → Prop) (hU : Use B W g T' S') (hp : T <+: T') (hl' : T'.length ≤ 10000000) => (partsV_eq (makes l) x n0 n1 n2 n3 ▸ hash_any hU (partsR (makes l) x) hfit (hC.i0.pre hp) (hC.i1.pre hp) (hC.i2.pre hp) (hC.i3.pre hp) hl' : Calls Tryz.prog 44 #[.pointer (some ⟨g, 0, none⟩), .agg #[.string x.v0, .string x.v1, .string x.v2, .string x.v3, .int .i64 n0, .bool x.asks, .int .u32 x.w0, .int .u32 x.w1, .int .u32 x.w2, .string x.gp, .string x.gg, .int .i64 n1, .int .i64 n2, .int .i64 n3]] W (DoneL B W g T' S' (hashO (partsR (makes l) x)) 11)))
    have HAW := hide (fun (W : World) (hb : Below w.heap.size w W) => awake20_any (HT.out.below hb))
    have q6 := hC.blk6
    have q7 := hC.blk7
    have hU := hC.use
    have hbw := hC.bel
    have hn6 := hC.n6
    have hn7 := hC.n7
    clear hfit hmf f0 f1 f2 f3 fT hC HR3 hl hf hls hT hx hfx
    go_upto_region 5 with fail
    have hdr : Below wx.heap.size wx wx.drew := (Below.refl _ _).drew
    go_region_held3 (fun W => (W.cell? ⟨b6, 0, none⟩ = some (.string x.v0) ∧ W.cell? ⟨b6, 1, none⟩ = some (.string x.v1) ∧ W.cell? ⟨b6, 2, none⟩ = some (.string x.v2) ∧ W.cell? ⟨b6, 3, none⟩ = some (.string x.v3) ∧ W.cell? ⟨b6, 4, none⟩ = some (.int .i64 n0) ∧ W.cell? ⟨b6, 5, none⟩ = some (.bool x.asks) ∧ W.cell? ⟨b6, 6, none⟩ = some (.int .u32 x.w0) ∧ W.cell? ⟨b6, 7, none⟩ = some (.int .u32 x.w1) ∧ W.cell? ⟨b6, 8, none⟩ = some (.int .u32 x.w2) ∧ W.cell? ⟨b6, 9, none⟩ = some (.string x.gp) ∧ W.cell? ⟨b6, 10, none⟩ = some (.string x.gg) ∧ W.cell? ⟨b6, 11, none⟩ = some (.int .i64 n1) ∧ W.cell? ⟨b6, 12, none⟩ = some (.int .i64 n2) ∧ W.cell? ⟨b6, 13, none⟩ = some (.int .i64 n3)) ∧ (W.cell? ⟨b7, 0, none⟩ = some (.string x.v0) ∧ W.cell? ⟨b7, 1, none⟩ = some (.string x.v1) ∧ W.cell? ⟨b7, 2, none⟩ = some (.string x.v2) ∧ W.cell? ⟨b7, 3, none⟩ = some (.string x.v3) ∧ W.cell? ⟨b7, 4, none⟩ = some (.string (bs (txt (pickO (makes l) x.t0)))) ∧ W.cell? ⟨b7, 5, none⟩ = some (.bool x.asks) ∧ W.cell? ⟨b7, 6, none⟩ = some (.int .i64 x.w0) ∧ W.cell? ⟨b7, 7, none⟩ = some (.int .i64 x.w1) ∧ W.cell? ⟨b7, 8, none⟩ = some (.int .i64 x.w2) ∧ W.cell? ⟨b7, 9, none⟩ = some (.string x.gp) ∧ W.cell? ⟨b7, 10, none⟩ = some (.string x.gg) ∧ W.cell? ⟨b7, 11, none⟩ = some (.string (bs (txt (pickO (makes l) x.t1)))) ∧ W.cell? ⟨b7, 12, none⟩ = some (.string (bs (txt (pickO (makes l) x.t2)))) ∧ W.cell? ⟨b7, 13, none⟩ = some (.string (bs (txt (pickO (makes l) x.t3))))))
      (first | exact ⟨cells14 q6, cells14 q7⟩ | exact ⟨cells14 (q6.below hdr q6.lt), cells14 (q7.below hdr q7.lt)⟩)
      (first
        | (go_at_call 42; refine (HAW.out _ (hbw.trans (hdr.mono hbw.size))).mono ?_; rintro e x1 ⟨rfl, hb1⟩; replace hb1 : Below wx.heap.size wx x1 := hdr.trans hb1; replace q6 := q6.below hb1 q6.lt; replace q7 := q7.below hb1 q7.lt; replace hU := hU.below hb1; replace hbw := hbw.trans (hb1.mono hbw.size))
        | (go_at_call 46; refine (HLI.out _ _ _ hU (List.prefix_refl _) (by omega)).mono ?_; rintro e x2 ⟨T2, m2, S2, rfl, hi2, hp2, hl2, hA2, hG2⟩; have L6 := q6.lt; have L7 := q7.lt; replace q6 := hG2.outs_.blk q6 hn6; replace q7 := hG2.outs_.blk q7 hn7; replace hbw := hbw.trans ((hG2.below hU.base hU.ar.sB).mono hwB); have hU2 := hU.grown hG2 hA2 (by omega); have HE := hide (encode_any hA2 m2); rw [hi2.1] at HE; have N6 := hide (hG2.notin hn6 L6); have N7 := hide (hG2.notin hn7 L7))
        | (go_at_call 15; refine HE.out.mono ?_; rintro e x3 ⟨rfl, hb3⟩; replace q6 := q6.below hb3 q6.lt; replace q7 := q7.below hb3 q7.lt; replace hU2 := hU2.below hb3; replace hbw := hbw.trans (hb3.mono hbw.size))
        | (go_at_call 47; refine (HRL.out _).mono ?_; rintro e x4 ⟨rfl, hb4⟩; replace q6 := q6.below hb4 q6.lt; replace q7 := q7.below hb4 q7.lt; replace hU2 := hU2.below hb4; replace hbw := hbw.trans (hb4.mono hbw.size))
        | (go_at_call 44; refine (HHA.out _ _ _ hU2 hp2 (by omega)).mono ?_; rintro e x5 ⟨T5, m5, S5, rfl, hi5, hp5, hl5, hA5, hG5⟩; replace q6 := hG5.outs_.blk q6 N6.out; replace q7 := hG5.outs_.blk q7 N7.out; replace hbw := hbw.trans ((hG5.below hU2.base hU2.ar.sB).mono hwB); have HE5 := hide (encode_any hA5 m5); rw [hi5.1] at HE5)
        | (go_at_call 15; refine HE5.out.mono ?_; rintro e x6 ⟨rfl, hb6⟩; replace q6 := q6.below hb6 q6.lt; replace q7 := q7.below hb6 q7.lt; replace hbw := hbw.trans (hb6.mono hbw.size))
        | (go_at_call 48; refine (HRH.out _).mono ?_; rintro e x7 ⟨rfl, hb7⟩; replace q6 := q6.below hb7 q6.lt; replace q7 := q7.below hb7 q7.lt; replace hbw := hbw.trans (hb7.mono hbw.size))
        | fail)
    all_goals go_wp2
    all_goals go_ret
    all_goals exact ⟨by simp, hbw⟩
end
end Go.Proofs.YtfjegckomjpkdaaGreatDoor
