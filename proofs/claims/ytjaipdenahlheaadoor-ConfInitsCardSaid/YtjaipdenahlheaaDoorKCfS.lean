/-
  The contract of the reference's Init of a conf; steps for blocks of any type. Conditions: none.
-/
import Derived.Test.YtjaipdenahlheaaDoorKCfR
set_option linter.unusedVariables false
set_option linter.unusedSimpArgs false
namespace Go.Proofs.YtjaipdenahlheaaDoor
open Go.RowKit Go.ChangeShapes Go.WideShapes Go.Sort
section
variable {w : World}
theorem rangeB {b : Nat} {ty : TypeId} {cs : Array Value} (hX : Blk w b ty cs) : w.rangeAt b 0 cs.toList := rangeC (by rw [Array.toArray_toList]; exact hX)
theorem wpList_load_blk {ops : Array Oper} {rest : List Oper} {op : Oper} {a : Act} {Q : Exit → Act → World → Prop} (hgd : op.guard = none) {ty : TypeId} (x : Operand) (ho : op.op = .load ty x) {b : Nat} (hx : a.eval x = .pointer (some ⟨b, 0, none⟩)) {cv : Array Value} {d : TypeDesc} (hX : Blk w b ty cv)
    (hu : Tryd.prog.underlying ty = some d) (hd : d.isRow = true) (hi : (Tryd.prog.info? ty).map (·.size) = some cv.toList.length) (h : wpList Tryd.prog ops Q rest (a.put op.dst (.agg cv)) w) : wpList Tryd.prog ops Q (op :: rest) a w :=
  wpList_load_mid hgd ty x ho b 0 hx cv.toList d (rangeB hX) hu hd hi (by rw [Array.toArray_toList]; exact h)
theorem wpList_store_blk {ops : Array Oper} {rest : List Oper} {op : Oper} {a : Act} {Q : Exit → Act → World → Prop} (hgd : op.guard = none) {ty : TypeId} (x y : Operand) (ho : op.op = .store ty x y) {b : Nat} (hx : a.eval x = .pointer (some ⟨b, 0, none⟩)) {cv cs : Array Value} (hy : a.eval y = .agg cv)
    (hX : Blk w b ty cs) (hc : cv.size = cs.size) (hi : (Tryd.prog.info? ty).map (·.size) = some cv.size) (h1 : cv.all (·.oneCell') = true)
    (h : wpList Tryd.prog ops Q rest (a.put op.dst undef) (w.setCells b 0 cv.toList)) : wpList Tryd.prog ops Q (op :: rest) a w :=
  wpList_store_mid hgd ty x y ho b 0 cv hx hy (blk_there hX (by omega)) hi h1 h
theorem wpList_skipped {ops : Array Oper} {rest : List Oper} {op : Oper} {a : Act} {Q : Exit → Act → World → Prop} (hw : Region.wanted op (yielded ops a.tmps) = false)
    (h : wpList Tryd.prog ops Q rest (a.put op.dst undef) w) : wpList Tryd.prog ops Q (op :: rest) a w :=
  _root_.Go.wpList_skip hw h
theorem range_sub {b o : Nat} {ty : TypeId} {cs vs : Array Value} (hX : Blk w b ty cs) (h : ∀ (j : Nat) v, vs[j]? = some v → cs[o + j]? = some v) : w.rangeAt b o vs.toList := fun j v hv => by
  rw [hX.cell]
  exact h j v (by simpa using hv)
end
theorem callRCk {x y : Operand} {u v : Value} {ts : Array TypeId} (o : Oper) (ho : o.op = .call { callee := .value (.func 31), args := #[x, y], argTypes := ts }) (a : Act) (hx : a.eval x = u) (hy : a.eval y = v) (w : World) : (execOp a.eval o).run Tryd.prog w = .ok (.enter 31 #[u, v]) w := by
  obtain ⟨d, op, t, p, af, gd⟩ := o
  simp only at ho
  subst ho
  have h1 : a.eval (.func 31) = .func (.func 31) #[] #[] := rfl
  subst hx
  subst hy
  go_simp
theorem infoP8 : (Tryd.prog.info? 24).map (·.size) = some 8 := by kernel_rfl
section
variable {w : World}
set_option maxHeartbeats 8000000 in
set_option maxRecDepth 100000 in
theorem rinit_s {ex ge : Bool} {sw cm us : List UInt8} {A0 A1 A2 A3 A4 A5 A6 A7 A8 A9 A10 : Option Addr} {n0 n1 n2 n3 n4 n5 n6 n7 c0 c1 c2 c3 c4 c5 c6 c7 c8 c9 c10 : Nat} {al : List (List UInt8)} {own lim peer q0 q1 q2 : Int} {gr : List (List UInt8 × Int)} {ky : List Int} {ls : List (List (List UInt8))} {x e : Int} (hx : x ≤ 9223372036854775807) (he : e ≤ 9223372036854775807) : Calls Tryd.prog 14 #[.agg #[.bool true, .string (bs sw), .string (bs cm), .slice A0 n0 c0, .slice A1 n1 c1, .slice A2 n2 c2, .slice A3 n3 c3, .slice A4 n4 c4, .slice A5 n5 c5, .slice A6 n6 c6, .slice A7 n7 c7, .slice A8 al.length c8, .int .i64 own, .slice A9 gr.length c9, .int .i64 lim, .int .i64 peer, .string (bs us), .slice A10 ky.length c10, .bool ex, .bool ge, .int .u32 q0, .int .u32 q1, .int .u32 q2], .int .i64 x, .int .i64 e] w (fun o w' => ∃ r, o = .returned (.agg #[.string r, .slice A0 n0 c0, .slice A1 n1 c1, .slice A2 n2 c2, .slice A3 n3 c3, .slice A4 n4 c4, .slice A5 n5 c5, .slice A6 n6 c6, .slice A7 n7 c7, .slice none 0 0, .slice none 0 0, .bool false, .bool false, .bool false, .bool (e == 0), .bool false]) ∧ r.data.toList = cookie x e ∧ Below w.heap.size w w') := by
  obtain ⟨W0, hW0⟩ : ∃ W0, W0 = (w.alloc (.cells #[.bool true, .string (bs sw), .string (bs cm), .slice A0 n0 c0, .slice A1 n1 c1, .slice A2 n2 c2, .slice A3 n3 c3, .slice A4 n4 c4, .slice A5 n5 c5, .slice A6 n6 c6, .slice A7 n7 c7, .slice A8 al.length c8, .int .i64 own, .slice A9 gr.length c9, .int .i64 lim, .int .i64 peer, .string (bs us), .slice A10 ky.length c10, .bool ex, .bool ge, .int .u32 q0, .int .u32 q1, .int .u32 q2] 30)).alloc (.cells zeroI 46) := ⟨_, rfl⟩
  have hb0 : Below w.heap.size w W0 := by rw [hW0]; (repeat (first | exact Below.refl _ _ | refine below_drewN ?_ _ | refine Below.drew ?_ | refine Below.alloc ?_ (by first | omega | (simp; done) | (simp; omega)) _ | refine Below.setCell ?_ (by first | omega | (simp; done) | (simp; omega)) _ | refine bel_alloc ?_ _ | refine bel_trans ?_ (by assumption) | refine Below.trans ?_ (Below.mono (by assumption) (by first | omega | (simp; done) | (simp; omega)))))
  have hX0 : Blk W0 w.heap.size 30 #[.bool true, .string (bs sw), .string (bs cm), .slice A0 n0 c0, .slice A1 n1 c1, .slice A2 n2 c2, .slice A3 n3 c3, .slice A4 n4 c4, .slice A5 n5 c5, .slice A6 n6 c6, .slice A7 n7 c7, .slice A8 al.length c8, .int .i64 own, .slice A9 gr.length c9, .int .i64 lim, .int .i64 peer, .string (bs us), .slice A10 ky.length c10, .bool ex, .bool ge, .int .u32 q0, .int .u32 q1, .int .u32 q2] := by rw [hW0]; exact (Blk.new w _ _).alloc _
  have hR0 : Blk W0 (w.heap.size + 1) 46 zeroI := by rw [hW0]; exact blk_new2 w _ _ _
  have HK := hide (fun (W : World) => rcookie_any x e W hx he)
  have HX := hide (And.intro hb0 (And.intro hX0 hR0))
  have hltX := hX0.lt
  have hltR := hR0.lt
  have HR3 := hide (show ∀ W, Below W0.heap.size W0 W → W.rangeAt w.heap.size 3 [.slice A0 n0 c0, .slice A1 n1 c1, .slice A2 n2 c2, .slice A3 n3 c3, .slice A4 n4 c4, .slice A5 n5 c5, .slice A6 n6 c6, .slice A7 n7 c7] from fun W hb => range_sub (vs := #[.slice A0 n0 c0, .slice A1 n1 c1, .slice A2 n2 c2, .slice A3 n3 c3, .slice A4 n4 c4, .slice A5 n5 c5, .slice A6 n6 c6, .slice A7 n7 c7]) (hX0.below hb hltX) (fun j v hv => by
    match j, hv with
    | 0, hv => exact hv
    | 1, hv => exact hv
    | 2, hv => exact hv
    | 3, hv => exact hv
    | 4, hv => exact hv
    | 5, hv => exact hv
    | 6, hv => exact hv
    | 7, hv => exact hv
    | n + 8, hv => simp at hv))
  clear hb0 hX0 hR0 hx he
  go_enter Tryd.func14, Tryd.ntmps14
  go_upto_region 1 with fail
  unfold zeroI at hW0
  rw [← hW0]
  clear hW0
  obtain ⟨cv, hcv⟩ : ∃ c : Array Value, c = #[.bool true, .string (bs sw), .string (bs cm), .slice A0 n0 c0, .slice A1 n1 c1, .slice A2 n2 c2, .slice A3 n3 c3, .slice A4 n4 c4, .slice A5 n5 c5, .slice A6 n6 c6, .slice A7 n7 c7, .slice A8 al.length c8, .int .i64 own, .slice A9 gr.length c9, .int .i64 lim, .int .i64 peer, .string (bs us), .slice A10 ky.length c10, .bool ex, .bool ge, .int .u32 q0, .int .u32 q1, .int .u32 q2] := ⟨_, rfl⟩
  rw [← hcv]
  have HX3c := hide (show Blk W0 w.heap.size 30 cv from by rw [hcv]; exact HX.out.2.1)
  clear hcv
  have hb03 := HX.out.1
  refine wp_region_E (fun W => Below W0.heap.size W0 W) (fun i => decide (i < 7)) (by kernel_rfl) ?_
  obtain ⟨Wd, hWd⟩ : ∃ Wd, Wd = W0.drew := ⟨_, rfl⟩
  have hSd : Below W0.heap.size W0 Wd := by rw [hWd]; exact (Below.refl _ _).drew
  rw [← hWd]
  clear hWd
  refine wpAnyE_take (i := 0) (oi := ?_) (v := .int .i64 x) ?_ ?_ ?_ ?_ ?_ ?_ ?_ hSd ?_
  rotate_left 1
  · (first | (simp only [List.getElem?_toArray, List.getElem?_cons_succ, List.getElem?_cons_zero]; exact rfl) | exact rfl)
  · kernel_rfl
  · kernel_rfl
  · kernel_rfl
  · kernel_rfl
  · exact fun _ _ _ h => h
  · refine Or.inl ⟨by rfl, fun w hSw => ?_⟩
    clear hSw
    go_simp
  try simp only [Act.put, List.setIfInBounds_toArray, List.set_cons_zero, List.set_cons_succ]
  refine wpAnyE_take (i := 1) (oi := ?_) (v := .int .i64 e) ?_ ?_ ?_ ?_ ?_ ?_ ?_ hSd ?_
  rotate_left 1
  · (first | (simp only [List.getElem?_toArray, List.getElem?_cons_succ, List.getElem?_cons_zero]; exact rfl) | exact rfl)
  · kernel_rfl
  · kernel_rfl
  · kernel_rfl
  · kernel_rfl
  · exact fun _ _ _ h => h
  · refine Or.inl ⟨by rfl, fun w hSw => ?_⟩
    clear hSw
    go_simp
  try simp only [Act.put, List.setIfInBounds_toArray, List.set_cons_zero, List.set_cons_succ]
  refine wpAnyE_take (i := 3) (oi := ?_) (v := .pointer (some ⟨w.heap.size, 3, none⟩)) ?_ ?_ ?_ ?_ ?_ ?_ ?_ hSd ?_
  rotate_left 1
  · (first | (simp only [List.getElem?_toArray, List.getElem?_cons_succ, List.getElem?_cons_zero]; exact rfl) | exact rfl)
  · kernel_rfl
  · kernel_rfl
  · kernel_rfl
  · kernel_rfl
  · exact fun _ _ _ h => h
  · refine Or.inl ⟨by rfl, fun w hSw => ?_⟩
    clear hSw
    go_simp
  try simp only [Act.put, List.setIfInBounds_toArray, List.set_cons_zero, List.set_cons_succ]
  refine wpAnyE_take (i := 4) (oi := ?_) (v := .agg #[.slice A0 n0 c0, .slice A1 n1 c1, .slice A2 n2 c2, .slice A3 n3 c3, .slice A4 n4 c4, .slice A5 n5 c5, .slice A6 n6 c6, .slice A7 n7 c7]) ?_ ?_ ?_ ?_ ?_ ?_ ?_ hSd ?_
  rotate_left 1
  · (first | (simp only [List.getElem?_toArray, List.getElem?_cons_succ, List.getElem?_cons_zero]; exact rfl) | exact rfl)
  · kernel_rfl
  · kernel_rfl
  · kernel_rfl
  · kernel_rfl
  · exact fun _ _ _ h => h
  · exact yieldsIf_load_mid (by rfl) 24 (.tmp 11) rfl w.heap.size 3 (by rfl) [.slice A0 n0 c0, .slice A1 n1 c1, .slice A2 n2 c2, .slice A3 n3 c3, .slice A4 n4 c4, .slice A5 n5 c5, .slice A6 n6 c6, .slice A7 n7 c7] _ (fun w2 hS2 => HR3.out w2 hS2) Tryd.underlying24 rfl infoP8
  try simp only [Act.put, List.setIfInBounds_toArray, List.set_cons_zero, List.set_cons_succ]
  refine wpAnyE_mkD (P := Tryd.prog) (S := fun W => Below W0.heap.size W0 W) 3 (fun p => ([2, 6, 5] : List Nat).getD p 0) (fun p q => p == 2 && q == 0) (fun gs => ⟨#[.agg cv, .int .i64 x, .int .i64 e, .pointer (some ⟨w.heap.size, 0, none⟩), undef, undef, .pointer (some ⟨w.heap.size + 1, 0, none⟩), (gs.getD 1 undef), .int .i64 x, .int .i64 e, (gs.getD 0 undef), .pointer (some ⟨w.heap.size, 3, none⟩), .agg #[.slice A0 n0 c0, .slice A1 n1 c1, .slice A2 n2 c2, .slice A3 n3 c3, .slice A4 n4 c4, .slice A5 n5 c5, .slice A6 n6 c6, .slice A7 n7 c7], (gs.getD 2 undef), undef, undef, undef, undef, undef, undef, undef, undef, undef, undef, undef, undef, undef, undef, undef, undef, undef, undef, undef, undef], []⟩) (fun ds => #[true, true, (ds.getD 0 true), true, true, (ds.getD 2 true), (ds.getD 1 true), false]) (fun p v W => if p = 0 then ∃ r, v = .string r ∧ r.data.toList = cookie x e else if p = 1 then ∃ b, v = .pointer (some ⟨b, 0, none⟩) ∧ W0.heap.size ≤ b ∧ Blk W b 46 zeroI else ∃ r, v = .agg #[.string r, .slice A0 n0 c0, .slice A1 n1 c1, .slice A2 n2 c2, .slice A3 n3 c3, .slice A4 n4 c4, .slice A5 n5 c5, .slice A6 n6 c6, .slice A7 n7 c7, .slice none 0 0, .slice none 0 0, .bool false, .bool false, .bool false, .bool false, .bool false] ∧ r.data.toList = cookie x e) 1 ?_ ?_ ?_ ?_ (rdyD_spec (by kernel_rfl)) ?_ ?_ 3 [false, false, false] [undef, undef, undef] Wd rfl rfl rfl hSd ?_
  · intro p v w2 w3 h hb
    by_cases hp : p = 0
    · rw [if_pos hp] at h ⊢; exact h
    · rw [if_neg hp] at h ⊢
      by_cases hp : p = 1
      · rw [if_pos hp] at h ⊢
        obtain ⟨b, h1, h2, h3⟩ := h
        exact ⟨b, h1, h2, h3.below hb h3.lt⟩
      · rw [if_neg hp] at h ⊢; exact h
  · exact fun w2 w3 h hb => h.trans (hb.mono h.size)
  · intro p hp
    match p, hp with
    | 0, _ => exact ⟨_, rfl, fun gs w2 hg hS2 hD => by
        match gs, hg with
        | [g0, g1, g2], _ => exact ⟨fun v => rfl, mk_call (f := 31) rfl (callRCk (x := .tmp 8) (y := .tmp 9) _ rfl _ (by rfl) (by rfl) _) ((HK.out w2).mono fun o w' h => let ⟨r, h1, h2, h3⟩ := h; ⟨_, h1, h3, by rw [if_pos rfl]; exact ⟨r, rfl, h2⟩⟩)⟩⟩
    | 1, _ => exact ⟨_, rfl, fun gs w2 hg hS2 hD => by
        match gs, hg with
        | [g0, g1, g2], _ => exact ⟨fun v => rfl, mk_val (w' := w2.alloc (.cells zeroI 46)) rfl (show (execOp _ _).run Tryd.prog w2 = _ from by unfold zeroI; go_simp; first | rfl | exact ⟨rfl, rfl⟩) (bel_newN _) (by rw [if_neg (by decide), if_pos rfl]; exact ⟨_, rfl, hS2.size, Blk.new w2 _ _⟩)⟩⟩
    | 2, _ => exact ⟨_, rfl, fun gs w2 hg hS2 hD => by
        match gs, hg with
        | [g0, g1, g2], _ =>
          obtain ⟨r, rfl, hr⟩ := (if_pos (c := 0 = 0) rfl).mp (hD 0 _ rfl rfl)
          exact ⟨fun v => rfl, mk_val (v := .agg #[.string r, .slice A0 n0 c0, .slice A1 n1 c1, .slice A2 n2 c2, .slice A3 n3 c3, .slice A4 n4 c4, .slice A5 n5 c5, .slice A6 n6 c6, .slice A7 n7 c7, .slice none 0 0, .slice none 0 0, .bool false, .bool false, .bool false, .bool false, .bool false]) (w' := w2) rfl (by go_simp; first | done | rfl | exact ⟨rfl, rfl⟩) (Below.refl _ _) (by rw [if_neg (by decide), if_neg (by decide)]; exact ⟨r, rfl, hr⟩)⟩⟩
  · intro ds p hd hp
    match ds, hd with
    | [b0, b1, b2], _ =>
      match p, hp with
      | 0, _ => rfl
      | 1, _ => rfl
      | 2, _ => rfl
  · intro p q h
    simp only [Bool.and_eq_true, beq_iff_eq] at h
    omega
  · intro gs W hg hSW hall
    match gs, hg with
    | [g0, g1, g2], _ =>
      obtain ⟨b, rfl, hbl, hBb⟩ := (if_pos (c := 1 = 1) rfl).mp ((if_neg (c := 1 = 0) (by decide)).mp (hall 1 _ rfl))
      obtain ⟨r, rfl, hr⟩ := (if_neg (c := 2 = 1) (by decide)).mp ((if_neg (c := 2 = 0) (by decide)).mp (hall 2 _ rfl))
      have hB0 := HX.out.2.2.below hSW hltR
      have hX0 := HX3c.out.below hSW HX3c.out.lt
      have hbW := hb03.trans (hSW.mono hb03.size)
      clear hall HK HR3 hSd
      simp only [List.getD_cons_zero, List.getD_cons_succ, List.replicate]
      refine wpAnyE_ready (rs := [7]) (by kernel_rfl) (by simp) ?_
      refine AllReadyE.late (o := ?_) ?_ rfl (fun K hK => ?_) AllReadyE.nil
      rotate_left 1
      · (first | (simp only [List.getElem?_toArray, List.getElem?_cons_succ, List.getElem?_cons_zero]; exact rfl) | exact rfl)
      refine step_store_mid rfl 46 (.tmp 7) (.tmp 13) rfl b 0 #[.string r, .slice A0 n0 c0, .slice A1 n1 c1, .slice A2 n2 c2, .slice A3 n3 c3, .slice A4 n4 c4, .slice A5 n5 c5, .slice A6 n6 c6, .slice A7 n7 c7, .slice none 0 0, .slice none 0 0, .bool false, .bool false, .bool false, .bool false, .bool false] (by rfl) (by rfl) (blk_there_at hBb (by simp [zeroI])) infoInit16 (by simp [Value.oneCell']) ?_
      refine hK.out _ _ ?_
      clear hK K
      try simp only [Act.put, List.setIfInBounds_toArray, List.set_cons_zero, List.set_cons_succ]
      refine wpAnyE_done (by kernel_rfl) ?_ _
      have hbs := hb03.size
      have HB := hide (show Blk (W.setCells b 0 [.string r, .slice A0 n0 c0, .slice A1 n1 c1, .slice A2 n2 c2, .slice A3 n3 c3, .slice A4 n4 c4, .slice A5 n5 c5, .slice A6 n6 c6, .slice A7 n7 c7, .slice none 0 0, .slice none 0 0, .bool false, .bool false, .bool false, .bool false, .bool false]) b 46 #[.string r, .slice A0 n0 c0, .slice A1 n1 c1, .slice A2 n2 c2, .slice A3 n3 c3, .slice A4 n4 c4, .slice A5 n5 c5, .slice A6 n6 c6, .slice A7 n7 c7, .slice none 0 0, .slice none 0 0, .bool false, .bool false, .bool false, .bool false, .bool false] from by
        have h9 := Blk.setCells [.string r, .slice A0 n0 c0, .slice A1 n1 c1, .slice A2 n2 c2, .slice A3 n3 c3, .slice A4 n4 c4, .slice A5 n5 c5, .slice A6 n6 c6, .slice A7 n7 c7, .slice none 0 0, .slice none 0 0, .bool false, .bool false, .bool false, .bool false, .bool false] 0 hBb
        rw [wrA_all (by rfl)] at h9
        exact h9)
      have HR := hide (Blk.setCells_far (b := b) (g := w.heap.size + 1) (by omega) [.string r, .slice A0 n0 c0, .slice A1 n1 c1, .slice A2 n2 c2, .slice A3 n3 c3, .slice A4 n4 c4, .slice A5 n5 c5, .slice A6 n6 c6, .slice A7 n7 c7, .slice none 0 0, .slice none 0 0, .bool false, .bool false, .bool false, .bool false, .bool false] 0 hB0)
      have HC := hide (Blk.setCells_far (b := b) (g := w.heap.size) (by omega) [.string r, .slice A0 n0 c0, .slice A1 n1 c1, .slice A2 n2 c2, .slice A3 n3 c3, .slice A4 n4 c4, .slice A5 n5 c5, .slice A6 n6 c6, .slice A7 n7 c7, .slice none 0 0, .slice none 0 0, .bool false, .bool false, .bool false, .bool false, .bool false] 0 (HX.out.2.1.below hSW hltX))
      have HW := hide (below_setCells (b := b) (by omega) [.string r, .slice A0 n0 c0, .slice A1 n1 c1, .slice A2 n2 c2, .slice A3 n3 c3, .slice A4 n4 c4, .slice A5 n5 c5, .slice A6 n6 c6, .slice A7 n7 c7, .slice none 0 0, .slice none 0 0, .bool false, .bool false, .bool false, .bool false, .bool false] 0 hbW)
      generalize W.setCells b 0 [.string r, .slice A0 n0 c0, .slice A1 n1 c1, .slice A2 n2 c2, .slice A3 n3 c3, .slice A4 n4 c4, .slice A5 n5 c5, .slice A6 n6 c6, .slice A7 n7 c7, .slice none 0 0, .slice none 0 0, .bool false, .bool false, .bool false, .bool false, .bool false] = w10 at HB HR HC HW ⊢
      clear hBb hB0 hX0 hbW hSW HX HX3c
      obtain ⟨fz, hfz⟩ : ∃ q, (e == (0 : Int)) = q := ⟨_, rfl⟩
      have HZ := hide hfz
      clear hfz
      go_upto_region 2 with fail
      refine wp_region_lit ?_
      have y := HC.out.cell 0
      have z := HC.out.frozen 0
      simp only [List.getElem?_toArray, List.getElem?_cons_zero, List.getElem?_cons_succ] at y
      refine wpList_val (v := .pointer (some ⟨w.heap.size, 0, none⟩)) (w' := w10) rfl (by go_simp) ?_
      try simp only [Act.put, List.setIfInBounds_toArray, List.set_cons_zero, List.set_cons_succ]
      refine wpList_val (v := .bool true) (w' := w10) rfl (by go_simp) ?_
      try simp only [Act.put, List.setIfInBounds_toArray, List.set_cons_zero, List.set_cons_succ]
      clear y z
      go_upto_region 3 with fail
      refine wp_region_lit ?_
      refine wpList_val (v := .int .i64 e) (w' := w10) rfl (by go_simp) ?_
      try simp only [Act.put, List.setIfInBounds_toArray, List.set_cons_zero, List.set_cons_succ]
      refine wpList_val (v := .bool fz) (w' := w10) rfl (by rw [← HZ.out]; go_simp) ?_
      try simp only [Act.put, List.setIfInBounds_toArray, List.set_cons_zero, List.set_cons_succ]
      have y := HB.out.cell 14
      have z := HB.out.frozen 14
      simp only [List.getElem?_toArray, List.getElem?_cons_zero, List.getElem?_cons_succ] at y
      refine wpList_val (v := .pointer (some ⟨b, 14, none⟩)) (w' := w10) rfl (by go_simp) ?_
      try simp only [Act.put, List.setIfInBounds_toArray, List.set_cons_zero, List.set_cons_succ]
      refine wpList_skip (w' := w10.setCell ⟨b, 14, none⟩ (.bool fz)) rfl (by go_simp) ?_
      try simp only [Act.put, List.setIfInBounds_toArray, List.set_cons_zero, List.set_cons_succ]
      clear y z
      have HB2 := hide (show Blk (w10.setCell ⟨b, 14, none⟩ (.bool fz)) b 46 #[.string r, .slice A0 n0 c0, .slice A1 n1 c1, .slice A2 n2 c2, .slice A3 n3 c3, .slice A4 n4 c4, .slice A5 n5 c5, .slice A6 n6 c6, .slice A7 n7 c7, .slice none 0 0, .slice none 0 0, .bool false, .bool false, .bool false, .bool fz, .bool false] from by
        have h9 := HB.out.set_ 14 (.bool fz)
        simpa using h9)
      have HR2 := hide (HR.out.far (p := ⟨b, 14, none⟩) (by show w.heap.size + 1 ≠ b; omega) (.bool fz))
      have HC2 := hide (HC.out.far (p := ⟨b, 14, none⟩) (by show w.heap.size ≠ b; omega) (.bool fz))
      have HW2 := hide (HW.out.setCell (p := ⟨b, 14, none⟩) (by show w.heap.size ≤ b; omega) (.bool fz))
      generalize w10.setCell ⟨b, 14, none⟩ (.bool fz) = w11 at HB2 HR2 HC2 HW2 ⊢
      clear HB HR HC HW
      have HB := HB2
      have HR := HR2
      have HC := HC2
      have HW := HW2
      clear HB2 HR2 HC2 HW2
      go_upto_region 4 with fail
      refine wp_region_lit ?_
      obtain ⟨cF, hcF⟩ : ∃ c : Array Value, c = #[.string r, .slice A0 n0 c0, .slice A1 n1 c1, .slice A2 n2 c2, .slice A3 n3 c3, .slice A4 n4 c4, .slice A5 n5 c5, .slice A6 n6 c6, .slice A7 n7 c7, .slice none 0 0, .slice none 0 0, .bool false, .bool false, .bool false, .bool fz, .bool false] := ⟨_, rfl⟩
      have hlF : cF.toList.length = 16 := by rw [hcF]; rfl
      have hone : cF.all (·.oneCell') = true := by rw [hcF]; simp [Value.oneCell']
      have hBF := HB.out
      rw [← hcF] at hBF
      refine wpList_load_blk rfl (.tmp 7) rfl (by rfl) hBF Tryd.underlying46 rfl (by rw [hlF]; exact infoInit16) ?_
      try simp only [Act.put, List.setIfInBounds_toArray, List.set_cons_zero, List.set_cons_succ]
      refine wpList_store_blk rfl (.tmp 6) (.tmp 19) rfl (by rfl) (by rfl) HR.out (by rw [← Array.length_toList, hlF]; rfl) (by rw [← Array.length_toList, hlF]; exact infoInit16) hone ?_
      try simp only [Act.put, List.setIfInBounds_toArray, List.set_cons_zero, List.set_cons_succ]
      have hRF : Blk (w11.setCells (w.heap.size + 1) 0 cF.toList) (w.heap.size + 1) 46 cF := by
        have h9 := Blk.setCells cF.toList 0 HR.out
        rw [wrA_all (by rw [hlF]; rfl), Array.toArray_toList] at h9
        exact h9
      have HBel := hide (below_setCells (b := w.heap.size + 1) (by omega) cF.toList 0 HW.out)
      generalize w11.setCells (w.heap.size + 1) 0 cF.toList = wF at hRF HBel ⊢
      have HRF := hide hRF
      clear hRF hBF hone HB HR HC HW
      go_wp2_with fail
      refine bodyPost_ret (results_init rfl (by rfl) HRF.out hlF) rfl ?_
      subst hcF
      have hz := HZ.out
      subst hz
      exact ⟨r, by rfl, hr, HBel.out⟩
  · exact fun p v h1 => by
      match p, h1 with
      | 0, h1 => cases h1
      | 1, h1 => cases h1
      | 2, h1 => cases h1
      | n + 3, h1 => simp at h1
set_option maxHeartbeats 8000000 in
set_option maxRecDepth 100000 in
theorem rinit_c {ex ge : Bool} {sw cm us : List UInt8} {A0 A1 A2 A3 A4 A5 A6 A7 A8 A9 A10 : Option Addr} {n0 n1 n2 n3 n4 n5 n6 n7 c0 c1 c2 c3 c4 c5 c6 c7 c8 c9 c10 : Nat} {al : List (List UInt8)} {own lim peer q0 q1 q2 : Int} {gr : List (List UInt8 × Int)} {ky : List Int} {ls : List (List (List UInt8))} {x e : Int} (hx : x ≤ 9223372036854775807) (he : e ≤ 9223372036854775807) : Calls Tryd.prog 14 #[.agg #[.bool false, .string (bs sw), .string (bs cm), .slice A0 n0 c0, .slice A1 n1 c1, .slice A2 n2 c2, .slice A3 n3 c3, .slice A4 n4 c4, .slice A5 n5 c5, .slice A6 n6 c6, .slice A7 n7 c7, .slice A8 al.length c8, .int .i64 own, .slice A9 gr.length c9, .int .i64 lim, .int .i64 peer, .string (bs us), .slice A10 ky.length c10, .bool ex, .bool ge, .int .u32 q0, .int .u32 q1, .int .u32 q2], .int .i64 x, .int .i64 e] w (fun o w' => ∃ r, o = .returned (.agg #[.string r, .slice A0 n0 c0, .slice A1 n1 c1, .slice A2 n2 c2, .slice A3 n3 c3, .slice A4 n4 c4, .slice A5 n5 c5, .slice A6 n6 c6, .slice A7 n7 c7, .slice none 0 0, .slice none 0 0, .bool (ex && (e == 0)), .bool false, .bool (e == 0), .bool false, .bool ge]) ∧ r.data.toList = cookie x e ∧ Below w.heap.size w w') := by
  obtain ⟨W0, hW0⟩ : ∃ W0, W0 = (w.alloc (.cells #[.bool false, .string (bs sw), .string (bs cm), .slice A0 n0 c0, .slice A1 n1 c1, .slice A2 n2 c2, .slice A3 n3 c3, .slice A4 n4 c4, .slice A5 n5 c5, .slice A6 n6 c6, .slice A7 n7 c7, .slice A8 al.length c8, .int .i64 own, .slice A9 gr.length c9, .int .i64 lim, .int .i64 peer, .string (bs us), .slice A10 ky.length c10, .bool ex, .bool ge, .int .u32 q0, .int .u32 q1, .int .u32 q2] 30)).alloc (.cells zeroI 46) := ⟨_, rfl⟩
  have hb0 : Below w.heap.size w W0 := by rw [hW0]; (repeat (first | exact Below.refl _ _ | refine below_drewN ?_ _ | refine Below.drew ?_ | refine Below.alloc ?_ (by first | omega | (simp; done) | (simp; omega)) _ | refine Below.setCell ?_ (by first | omega | (simp; done) | (simp; omega)) _ | refine bel_alloc ?_ _ | refine bel_trans ?_ (by assumption) | refine Below.trans ?_ (Below.mono (by assumption) (by first | omega | (simp; done) | (simp; omega)))))
  have hX0 : Blk W0 w.heap.size 30 #[.bool false, .string (bs sw), .string (bs cm), .slice A0 n0 c0, .slice A1 n1 c1, .slice A2 n2 c2, .slice A3 n3 c3, .slice A4 n4 c4, .slice A5 n5 c5, .slice A6 n6 c6, .slice A7 n7 c7, .slice A8 al.length c8, .int .i64 own, .slice A9 gr.length c9, .int .i64 lim, .int .i64 peer, .string (bs us), .slice A10 ky.length c10, .bool ex, .bool ge, .int .u32 q0, .int .u32 q1, .int .u32 q2] := by rw [hW0]; exact (Blk.new w _ _).alloc _
  have hR0 : Blk W0 (w.heap.size + 1) 46 zeroI := by rw [hW0]; exact blk_new2 w _ _ _
  have HK := hide (fun (W : World) => rcookie_any x e W hx he)
  have HX := hide (And.intro hb0 (And.intro hX0 hR0))
  have hltX := hX0.lt
  have hltR := hR0.lt
  have HR3 := hide (show ∀ W, Below W0.heap.size W0 W → W.rangeAt w.heap.size 3 [.slice A0 n0 c0, .slice A1 n1 c1, .slice A2 n2 c2, .slice A3 n3 c3, .slice A4 n4 c4, .slice A5 n5 c5, .slice A6 n6 c6, .slice A7 n7 c7] from fun W hb => range_sub (vs := #[.slice A0 n0 c0, .slice A1 n1 c1, .slice A2 n2 c2, .slice A3 n3 c3, .slice A4 n4 c4, .slice A5 n5 c5, .slice A6 n6 c6, .slice A7 n7 c7]) (hX0.below hb hltX) (fun j v hv => by
    match j, hv with
    | 0, hv => exact hv
    | 1, hv => exact hv
    | 2, hv => exact hv
    | 3, hv => exact hv
    | 4, hv => exact hv
    | 5, hv => exact hv
    | 6, hv => exact hv
    | 7, hv => exact hv
    | n + 8, hv => simp at hv))
  clear hb0 hX0 hR0 hx he
  go_enter Tryd.func14, Tryd.ntmps14
  go_upto_region 1 with fail
  unfold zeroI at hW0
  rw [← hW0]
  clear hW0
  obtain ⟨cv, hcv⟩ : ∃ c : Array Value, c = #[.bool false, .string (bs sw), .string (bs cm), .slice A0 n0 c0, .slice A1 n1 c1, .slice A2 n2 c2, .slice A3 n3 c3, .slice A4 n4 c4, .slice A5 n5 c5, .slice A6 n6 c6, .slice A7 n7 c7, .slice A8 al.length c8, .int .i64 own, .slice A9 gr.length c9, .int .i64 lim, .int .i64 peer, .string (bs us), .slice A10 ky.length c10, .bool ex, .bool ge, .int .u32 q0, .int .u32 q1, .int .u32 q2] := ⟨_, rfl⟩
  rw [← hcv]
  have HX3c := hide (show Blk W0 w.heap.size 30 cv from by rw [hcv]; exact HX.out.2.1)
  clear hcv
  have hb03 := HX.out.1
  refine wp_region_E (fun W => Below W0.heap.size W0 W) (fun i => decide (i < 7)) (by kernel_rfl) ?_
  obtain ⟨Wd, hWd⟩ : ∃ Wd, Wd = W0.drew := ⟨_, rfl⟩
  have hSd : Below W0.heap.size W0 Wd := by rw [hWd]; exact (Below.refl _ _).drew
  rw [← hWd]
  clear hWd
  refine wpAnyE_take (i := 0) (oi := ?_) (v := .int .i64 x) ?_ ?_ ?_ ?_ ?_ ?_ ?_ hSd ?_
  rotate_left 1
  · (first | (simp only [List.getElem?_toArray, List.getElem?_cons_succ, List.getElem?_cons_zero]; exact rfl) | exact rfl)
  · kernel_rfl
  · kernel_rfl
  · kernel_rfl
  · kernel_rfl
  · exact fun _ _ _ h => h
  · refine Or.inl ⟨by rfl, fun w hSw => ?_⟩
    clear hSw
    go_simp
  try simp only [Act.put, List.setIfInBounds_toArray, List.set_cons_zero, List.set_cons_succ]
  refine wpAnyE_take (i := 1) (oi := ?_) (v := .int .i64 e) ?_ ?_ ?_ ?_ ?_ ?_ ?_ hSd ?_
  rotate_left 1
  · (first | (simp only [List.getElem?_toArray, List.getElem?_cons_succ, List.getElem?_cons_zero]; exact rfl) | exact rfl)
  · kernel_rfl
  · kernel_rfl
  · kernel_rfl
  · kernel_rfl
  · exact fun _ _ _ h => h
  · refine Or.inl ⟨by rfl, fun w hSw => ?_⟩
    clear hSw
    go_simp
  try simp only [Act.put, List.setIfInBounds_toArray, List.set_cons_zero, List.set_cons_succ]
  refine wpAnyE_take (i := 3) (oi := ?_) (v := .pointer (some ⟨w.heap.size, 3, none⟩)) ?_ ?_ ?_ ?_ ?_ ?_ ?_ hSd ?_
  rotate_left 1
  · (first | (simp only [List.getElem?_toArray, List.getElem?_cons_succ, List.getElem?_cons_zero]; exact rfl) | exact rfl)
  · kernel_rfl
  · kernel_rfl
  · kernel_rfl
  · kernel_rfl
  · exact fun _ _ _ h => h
  · refine Or.inl ⟨by rfl, fun w hSw => ?_⟩
    clear hSw
    go_simp
  try simp only [Act.put, List.setIfInBounds_toArray, List.set_cons_zero, List.set_cons_succ]
  refine wpAnyE_take (i := 4) (oi := ?_) (v := .agg #[.slice A0 n0 c0, .slice A1 n1 c1, .slice A2 n2 c2, .slice A3 n3 c3, .slice A4 n4 c4, .slice A5 n5 c5, .slice A6 n6 c6, .slice A7 n7 c7]) ?_ ?_ ?_ ?_ ?_ ?_ ?_ hSd ?_
  rotate_left 1
  · (first | (simp only [List.getElem?_toArray, List.getElem?_cons_succ, List.getElem?_cons_zero]; exact rfl) | exact rfl)
  · kernel_rfl
  · kernel_rfl
  · kernel_rfl
  · kernel_rfl
  · exact fun _ _ _ h => h
  · exact yieldsIf_load_mid (by rfl) 24 (.tmp 11) rfl w.heap.size 3 (by rfl) [.slice A0 n0 c0, .slice A1 n1 c1, .slice A2 n2 c2, .slice A3 n3 c3, .slice A4 n4 c4, .slice A5 n5 c5, .slice A6 n6 c6, .slice A7 n7 c7] _ (fun w2 hS2 => HR3.out w2 hS2) Tryd.underlying24 rfl infoP8
  try simp only [Act.put, List.setIfInBounds_toArray, List.set_cons_zero, List.set_cons_succ]
  refine wpAnyE_mkD (P := Tryd.prog) (S := fun W => Below W0.heap.size W0 W) 3 (fun p => ([2, 6, 5] : List Nat).getD p 0) (fun p q => p == 2 && q == 0) (fun gs => ⟨#[.agg cv, .int .i64 x, .int .i64 e, .pointer (some ⟨w.heap.size, 0, none⟩), undef, undef, .pointer (some ⟨w.heap.size + 1, 0, none⟩), (gs.getD 1 undef), .int .i64 x, .int .i64 e, (gs.getD 0 undef), .pointer (some ⟨w.heap.size, 3, none⟩), .agg #[.slice A0 n0 c0, .slice A1 n1 c1, .slice A2 n2 c2, .slice A3 n3 c3, .slice A4 n4 c4, .slice A5 n5 c5, .slice A6 n6 c6, .slice A7 n7 c7], (gs.getD 2 undef), undef, undef, undef, undef, undef, undef, undef, undef, undef, undef, undef, undef, undef, undef, undef, undef, undef, undef, undef, undef], []⟩) (fun ds => #[true, true, (ds.getD 0 true), true, true, (ds.getD 2 true), (ds.getD 1 true), false]) (fun p v W => if p = 0 then ∃ r, v = .string r ∧ r.data.toList = cookie x e else if p = 1 then ∃ b, v = .pointer (some ⟨b, 0, none⟩) ∧ W0.heap.size ≤ b ∧ Blk W b 46 zeroI else ∃ r, v = .agg #[.string r, .slice A0 n0 c0, .slice A1 n1 c1, .slice A2 n2 c2, .slice A3 n3 c3, .slice A4 n4 c4, .slice A5 n5 c5, .slice A6 n6 c6, .slice A7 n7 c7, .slice none 0 0, .slice none 0 0, .bool false, .bool false, .bool false, .bool false, .bool false] ∧ r.data.toList = cookie x e) 1 ?_ ?_ ?_ ?_ (rdyD_spec (by kernel_rfl)) ?_ ?_ 3 [false, false, false] [undef, undef, undef] Wd rfl rfl rfl hSd ?_
  · intro p v w2 w3 h hb
    by_cases hp : p = 0
    · rw [if_pos hp] at h ⊢; exact h
    · rw [if_neg hp] at h ⊢
      by_cases hp : p = 1
      · rw [if_pos hp] at h ⊢
        obtain ⟨b, h1, h2, h3⟩ := h
        exact ⟨b, h1, h2, h3.below hb h3.lt⟩
      · rw [if_neg hp] at h ⊢; exact h
  · exact fun w2 w3 h hb => h.trans (hb.mono h.size)
  · intro p hp
    match p, hp with
    | 0, _ => exact ⟨_, rfl, fun gs w2 hg hS2 hD => by
        match gs, hg with
        | [g0, g1, g2], _ => exact ⟨fun v => rfl, mk_call (f := 31) rfl (callRCk (x := .tmp 8) (y := .tmp 9) _ rfl _ (by rfl) (by rfl) _) ((HK.out w2).mono fun o w' h => let ⟨r, h1, h2, h3⟩ := h; ⟨_, h1, h3, by rw [if_pos rfl]; exact ⟨r, rfl, h2⟩⟩)⟩⟩
    | 1, _ => exact ⟨_, rfl, fun gs w2 hg hS2 hD => by
        match gs, hg with
        | [g0, g1, g2], _ => exact ⟨fun v => rfl, mk_val (w' := w2.alloc (.cells zeroI 46)) rfl (show (execOp _ _).run Tryd.prog w2 = _ from by unfold zeroI; go_simp; first | rfl | exact ⟨rfl, rfl⟩) (bel_newN _) (by rw [if_neg (by decide), if_pos rfl]; exact ⟨_, rfl, hS2.size, Blk.new w2 _ _⟩)⟩⟩
    | 2, _ => exact ⟨_, rfl, fun gs w2 hg hS2 hD => by
        match gs, hg with
        | [g0, g1, g2], _ =>
          obtain ⟨r, rfl, hr⟩ := (if_pos (c := 0 = 0) rfl).mp (hD 0 _ rfl rfl)
          exact ⟨fun v => rfl, mk_val (v := .agg #[.string r, .slice A0 n0 c0, .slice A1 n1 c1, .slice A2 n2 c2, .slice A3 n3 c3, .slice A4 n4 c4, .slice A5 n5 c5, .slice A6 n6 c6, .slice A7 n7 c7, .slice none 0 0, .slice none 0 0, .bool false, .bool false, .bool false, .bool false, .bool false]) (w' := w2) rfl (by go_simp; first | done | rfl | exact ⟨rfl, rfl⟩) (Below.refl _ _) (by rw [if_neg (by decide), if_neg (by decide)]; exact ⟨r, rfl, hr⟩)⟩⟩
  · intro ds p hd hp
    match ds, hd with
    | [b0, b1, b2], _ =>
      match p, hp with
      | 0, _ => rfl
      | 1, _ => rfl
      | 2, _ => rfl
  · intro p q h
    simp only [Bool.and_eq_true, beq_iff_eq] at h
    omega
  · intro gs W hg hSW hall
    match gs, hg with
    | [g0, g1, g2], _ =>
      obtain ⟨b, rfl, hbl, hBb⟩ := (if_pos (c := 1 = 1) rfl).mp ((if_neg (c := 1 = 0) (by decide)).mp (hall 1 _ rfl))
      obtain ⟨r, rfl, hr⟩ := (if_neg (c := 2 = 1) (by decide)).mp ((if_neg (c := 2 = 0) (by decide)).mp (hall 2 _ rfl))
      have hB0 := HX.out.2.2.below hSW hltR
      have hX0 := HX3c.out.below hSW HX3c.out.lt
      have hbW := hb03.trans (hSW.mono hb03.size)
      clear hall HK HR3 hSd
      simp only [List.getD_cons_zero, List.getD_cons_succ, List.replicate]
      refine wpAnyE_ready (rs := [7]) (by kernel_rfl) (by simp) ?_
      refine AllReadyE.late (o := ?_) ?_ rfl (fun K hK => ?_) AllReadyE.nil
      rotate_left 1
      · (first | (simp only [List.getElem?_toArray, List.getElem?_cons_succ, List.getElem?_cons_zero]; exact rfl) | exact rfl)
      refine step_store_mid rfl 46 (.tmp 7) (.tmp 13) rfl b 0 #[.string r, .slice A0 n0 c0, .slice A1 n1 c1, .slice A2 n2 c2, .slice A3 n3 c3, .slice A4 n4 c4, .slice A5 n5 c5, .slice A6 n6 c6, .slice A7 n7 c7, .slice none 0 0, .slice none 0 0, .bool false, .bool false, .bool false, .bool false, .bool false] (by rfl) (by rfl) (blk_there_at hBb (by simp [zeroI])) infoInit16 (by simp [Value.oneCell']) ?_
      refine hK.out _ _ ?_
      clear hK K
      try simp only [Act.put, List.setIfInBounds_toArray, List.set_cons_zero, List.set_cons_succ]
      refine wpAnyE_done (by kernel_rfl) ?_ _
      have hbs := hb03.size
      have HB := hide (show Blk (W.setCells b 0 [.string r, .slice A0 n0 c0, .slice A1 n1 c1, .slice A2 n2 c2, .slice A3 n3 c3, .slice A4 n4 c4, .slice A5 n5 c5, .slice A6 n6 c6, .slice A7 n7 c7, .slice none 0 0, .slice none 0 0, .bool false, .bool false, .bool false, .bool false, .bool false]) b 46 #[.string r, .slice A0 n0 c0, .slice A1 n1 c1, .slice A2 n2 c2, .slice A3 n3 c3, .slice A4 n4 c4, .slice A5 n5 c5, .slice A6 n6 c6, .slice A7 n7 c7, .slice none 0 0, .slice none 0 0, .bool false, .bool false, .bool false, .bool false, .bool false] from by
        have h9 := Blk.setCells [.string r, .slice A0 n0 c0, .slice A1 n1 c1, .slice A2 n2 c2, .slice A3 n3 c3, .slice A4 n4 c4, .slice A5 n5 c5, .slice A6 n6 c6, .slice A7 n7 c7, .slice none 0 0, .slice none 0 0, .bool false, .bool false, .bool false, .bool false, .bool false] 0 hBb
        rw [wrA_all (by rfl)] at h9
        exact h9)
      have HR := hide (Blk.setCells_far (b := b) (g := w.heap.size + 1) (by omega) [.string r, .slice A0 n0 c0, .slice A1 n1 c1, .slice A2 n2 c2, .slice A3 n3 c3, .slice A4 n4 c4, .slice A5 n5 c5, .slice A6 n6 c6, .slice A7 n7 c7, .slice none 0 0, .slice none 0 0, .bool false, .bool false, .bool false, .bool false, .bool false] 0 hB0)
      have HC := hide (Blk.setCells_far (b := b) (g := w.heap.size) (by omega) [.string r, .slice A0 n0 c0, .slice A1 n1 c1, .slice A2 n2 c2, .slice A3 n3 c3, .slice A4 n4 c4, .slice A5 n5 c5, .slice A6 n6 c6, .slice A7 n7 c7, .slice none 0 0, .slice none 0 0, .bool false, .bool false, .bool false, .bool false, .bool false] 0 (HX.out.2.1.below hSW hltX))
      have HW := hide (below_setCells (b := b) (by omega) [.string r, .slice A0 n0 c0, .slice A1 n1 c1, .slice A2 n2 c2, .slice A3 n3 c3, .slice A4 n4 c4, .slice A5 n5 c5, .slice A6 n6 c6, .slice A7 n7 c7, .slice none 0 0, .slice none 0 0, .bool false, .bool false, .bool false, .bool false, .bool false] 0 hbW)
      generalize W.setCells b 0 [.string r, .slice A0 n0 c0, .slice A1 n1 c1, .slice A2 n2 c2, .slice A3 n3 c3, .slice A4 n4 c4, .slice A5 n5 c5, .slice A6 n6 c6, .slice A7 n7 c7, .slice none 0 0, .slice none 0 0, .bool false, .bool false, .bool false, .bool false, .bool false] = w10 at HB HR HC HW ⊢
      clear hBb hB0 hX0 hbW hSW HX HX3c
      obtain ⟨fz, hfz⟩ : ∃ q, (e == (0 : Int)) = q := ⟨_, rfl⟩
      have HZ := hide hfz
      clear hfz
      go_upto_region 2 with fail
      refine wp_region_lit ?_
      have y := HC.out.cell 0
      have z := HC.out.frozen 0
      simp only [List.getElem?_toArray, List.getElem?_cons_zero, List.getElem?_cons_succ] at y
      refine wpList_val (v := .pointer (some ⟨w.heap.size, 0, none⟩)) (w' := w10) rfl (by go_simp) ?_
      try simp only [Act.put, List.setIfInBounds_toArray, List.set_cons_zero, List.set_cons_succ]
      refine wpList_val (v := .bool false) (w' := w10) rfl (by go_simp) ?_
      try simp only [Act.put, List.setIfInBounds_toArray, List.set_cons_zero, List.set_cons_succ]
      clear y z
      go_upto_region 5 with fail
      refine wp_region_lit ?_
      refine wpList_val (v := .int .i64 e) (w' := w10) rfl (by go_simp) ?_
      try simp only [Act.put, List.setIfInBounds_toArray, List.set_cons_zero, List.set_cons_succ]
      refine wpList_val (v := .bool fz) (w' := w10) rfl (by rw [← HZ.out]; go_simp) ?_
      try simp only [Act.put, List.setIfInBounds_toArray, List.set_cons_zero, List.set_cons_succ]
      have y := HB.out.cell 13
      have z := HB.out.frozen 13
      simp only [List.getElem?_toArray, List.getElem?_cons_zero, List.getElem?_cons_succ] at y
      refine wpList_val (v := .pointer (some ⟨b, 13, none⟩)) (w' := w10) rfl (by go_simp) ?_
      try simp only [Act.put, List.setIfInBounds_toArray, List.set_cons_zero, List.set_cons_succ]
      refine wpList_skip (w' := w10.setCell ⟨b, 13, none⟩ (.bool fz)) rfl (by go_simp) ?_
      try simp only [Act.put, List.setIfInBounds_toArray, List.set_cons_zero, List.set_cons_succ]
      clear y z
      have HB2 := hide (show Blk (w10.setCell ⟨b, 13, none⟩ (.bool fz)) b 46 #[.string r, .slice A0 n0 c0, .slice A1 n1 c1, .slice A2 n2 c2, .slice A3 n3 c3, .slice A4 n4 c4, .slice A5 n5 c5, .slice A6 n6 c6, .slice A7 n7 c7, .slice none 0 0, .slice none 0 0, .bool false, .bool false, .bool fz, .bool false, .bool false] from by
        have h9 := HB.out.set_ 13 (.bool fz)
        simpa using h9)
      have HR2 := hide (HR.out.far (p := ⟨b, 13, none⟩) (by show w.heap.size + 1 ≠ b; omega) (.bool fz))
      have HC2 := hide (HC.out.far (p := ⟨b, 13, none⟩) (by show w.heap.size ≠ b; omega) (.bool fz))
      have HW2 := hide (HW.out.setCell (p := ⟨b, 13, none⟩) (by show w.heap.size ≤ b; omega) (.bool fz))
      generalize w10.setCell ⟨b, 13, none⟩ (.bool fz) = w11 at HB2 HR2 HC2 HW2 ⊢
      clear HB HR HC HW
      have HB := HB2
      have HR := HR2
      have HC := HC2
      have HW := HW2
      clear HB2 HR2 HC2 HW2
      go_upto_region 6 with fail
      refine wp_region_lit ?_
      cases ex with
      | true =>
        have y := HC.out.cell 18
        have z := HC.out.frozen 18
        simp only [List.getElem?_toArray, List.getElem?_cons_zero, List.getElem?_cons_succ] at y
        refine wpList_val (v := .pointer (some ⟨w.heap.size, 18, none⟩)) (w' := w11) rfl (by go_simp) ?_
        try simp only [Act.put, List.setIfInBounds_toArray, List.set_cons_zero, List.set_cons_succ]
        refine wpList_val (v := .bool true) (w' := w11) rfl (by go_simp) ?_
        try simp only [Act.put, List.setIfInBounds_toArray, List.set_cons_zero, List.set_cons_succ]
        clear y z
        refine wpList_val (v := .bool true) (w' := w11) rfl (by go_simp) ?_
        try simp only [Act.put, List.setIfInBounds_toArray, List.set_cons_zero, List.set_cons_succ]
        refine wpList_valG (v := .int .i64 e) (w' := w11) (by rfl) (by go_simp) ?_
        try simp only [Act.put, List.setIfInBounds_toArray, List.set_cons_zero, List.set_cons_succ]
        refine wpList_valG (v := .bool fz) (w' := w11) (by rfl) (by rw [← HZ.out]; go_simp) ?_
        try simp only [Act.put, List.setIfInBounds_toArray, List.set_cons_zero, List.set_cons_succ]
        refine wpList_val (v := .bool fz) (w' := w11) rfl (by go_simp) ?_
        try simp only [Act.put, List.setIfInBounds_toArray, List.set_cons_zero, List.set_cons_succ]
        have y := HB.out.cell 11
        have z := HB.out.frozen 11
        simp only [List.getElem?_toArray, List.getElem?_cons_zero, List.getElem?_cons_succ] at y
        refine wpList_val (v := .pointer (some ⟨b, 11, none⟩)) (w' := w11) rfl (by go_simp) ?_
        try simp only [Act.put, List.setIfInBounds_toArray, List.set_cons_zero, List.set_cons_succ]
        refine wpList_skip (w' := w11.setCell ⟨b, 11, none⟩ (.bool fz)) rfl (by go_simp) ?_
        try simp only [Act.put, List.setIfInBounds_toArray, List.set_cons_zero, List.set_cons_succ]
        clear y z
        have HB2 := hide (show Blk (w11.setCell ⟨b, 11, none⟩ (.bool fz)) b 46 #[.string r, .slice A0 n0 c0, .slice A1 n1 c1, .slice A2 n2 c2, .slice A3 n3 c3, .slice A4 n4 c4, .slice A5 n5 c5, .slice A6 n6 c6, .slice A7 n7 c7, .slice none 0 0, .slice none 0 0, .bool fz, .bool false, .bool fz, .bool false, .bool false] from by
          have h9 := HB.out.set_ 11 (.bool fz)
          simpa using h9)
        have HR2 := hide (HR.out.far (p := ⟨b, 11, none⟩) (by show w.heap.size + 1 ≠ b; omega) (.bool fz))
        have HC2 := hide (HC.out.far (p := ⟨b, 11, none⟩) (by show w.heap.size ≠ b; omega) (.bool fz))
        have HW2 := hide (HW.out.setCell (p := ⟨b, 11, none⟩) (by show w.heap.size ≤ b; omega) (.bool fz))
        generalize w11.setCell ⟨b, 11, none⟩ (.bool fz) = w12 at HB2 HR2 HC2 HW2 ⊢
        clear HB HR HC HW
        have HB := HB2
        have HR := HR2
        have HC := HC2
        have HW := HW2
        clear HB2 HR2 HC2 HW2
        go_upto_region 7 with fail
        refine wp_region_lit ?_
        have y := HC.out.cell 19
        have z := HC.out.frozen 19
        simp only [List.getElem?_toArray, List.getElem?_cons_zero, List.getElem?_cons_succ] at y
        refine wpList_val (v := .pointer (some ⟨w.heap.size, 19, none⟩)) (w' := w12) rfl (by go_simp) ?_
        try simp only [Act.put, List.setIfInBounds_toArray, List.set_cons_zero, List.set_cons_succ]
        refine wpList_val (v := .bool ge) (w' := w12) rfl (by go_simp) ?_
        try simp only [Act.put, List.setIfInBounds_toArray, List.set_cons_zero, List.set_cons_succ]
        clear y z
        have y := HB.out.cell 15
        have z := HB.out.frozen 15
        simp only [List.getElem?_toArray, List.getElem?_cons_zero, List.getElem?_cons_succ] at y
        refine wpList_val (v := .pointer (some ⟨b, 15, none⟩)) (w' := w12) rfl (by go_simp) ?_
        try simp only [Act.put, List.setIfInBounds_toArray, List.set_cons_zero, List.set_cons_succ]
        refine wpList_skip (w' := w12.setCell ⟨b, 15, none⟩ (.bool ge)) rfl (by go_simp) ?_
        try simp only [Act.put, List.setIfInBounds_toArray, List.set_cons_zero, List.set_cons_succ]
        clear y z
        have HB2 := hide (show Blk (w12.setCell ⟨b, 15, none⟩ (.bool ge)) b 46 #[.string r, .slice A0 n0 c0, .slice A1 n1 c1, .slice A2 n2 c2, .slice A3 n3 c3, .slice A4 n4 c4, .slice A5 n5 c5, .slice A6 n6 c6, .slice A7 n7 c7, .slice none 0 0, .slice none 0 0, .bool fz, .bool false, .bool fz, .bool false, .bool ge] from by
          have h9 := HB.out.set_ 15 (.bool ge)
          simpa using h9)
        have HR2 := hide (HR.out.far (p := ⟨b, 15, none⟩) (by show w.heap.size + 1 ≠ b; omega) (.bool ge))
        have HC2 := hide (HC.out.far (p := ⟨b, 15, none⟩) (by show w.heap.size ≠ b; omega) (.bool ge))
        have HW2 := hide (HW.out.setCell (p := ⟨b, 15, none⟩) (by show w.heap.size ≤ b; omega) (.bool ge))
        generalize w12.setCell ⟨b, 15, none⟩ (.bool ge) = w13 at HB2 HR2 HC2 HW2 ⊢
        clear HB HR HC HW
        have HB := HB2
        have HR := HR2
        have HC := HC2
        have HW := HW2
        clear HB2 HR2 HC2 HW2
        go_upto_region 8 with fail
        refine wp_region_lit ?_
        obtain ⟨cF, hcF⟩ : ∃ c : Array Value, c = #[.string r, .slice A0 n0 c0, .slice A1 n1 c1, .slice A2 n2 c2, .slice A3 n3 c3, .slice A4 n4 c4, .slice A5 n5 c5, .slice A6 n6 c6, .slice A7 n7 c7, .slice none 0 0, .slice none 0 0, .bool fz, .bool false, .bool fz, .bool false, .bool ge] := ⟨_, rfl⟩
        have hlF : cF.toList.length = 16 := by rw [hcF]; rfl
        have hone : cF.all (·.oneCell') = true := by rw [hcF]; simp [Value.oneCell']
        have hBF := HB.out
        rw [← hcF] at hBF
        refine wpList_load_blk rfl (.tmp 7) rfl (by rfl) hBF Tryd.underlying46 rfl (by rw [hlF]; exact infoInit16) ?_
        try simp only [Act.put, List.setIfInBounds_toArray, List.set_cons_zero, List.set_cons_succ]
        refine wpList_store_blk rfl (.tmp 6) (.tmp 33) rfl (by rfl) (by rfl) HR.out (by rw [← Array.length_toList, hlF]; rfl) (by rw [← Array.length_toList, hlF]; exact infoInit16) hone ?_
        try simp only [Act.put, List.setIfInBounds_toArray, List.set_cons_zero, List.set_cons_succ]
        have hRF : Blk (w13.setCells (w.heap.size + 1) 0 cF.toList) (w.heap.size + 1) 46 cF := by
          have h9 := Blk.setCells cF.toList 0 HR.out
          rw [wrA_all (by rw [hlF]; rfl), Array.toArray_toList] at h9
          exact h9
        have HBel := hide (below_setCells (b := w.heap.size + 1) (by omega) cF.toList 0 HW.out)
        generalize w13.setCells (w.heap.size + 1) 0 cF.toList = wF at hRF HBel ⊢
        have HRF := hide hRF
        clear hRF hBF hone HB HR HC HW
        go_wp2_with fail
        refine bodyPost_ret (results_init rfl (by rfl) HRF.out hlF) rfl ?_
        subst hcF
        have hz := HZ.out
        subst hz
        exact ⟨r, by rfl, hr, HBel.out⟩
      | false =>
        have y := HC.out.cell 18
        have z := HC.out.frozen 18
        simp only [List.getElem?_toArray, List.getElem?_cons_zero, List.getElem?_cons_succ] at y
        refine wpList_val (v := .pointer (some ⟨w.heap.size, 18, none⟩)) (w' := w11) rfl (by go_simp) ?_
        try simp only [Act.put, List.setIfInBounds_toArray, List.set_cons_zero, List.set_cons_succ]
        refine wpList_val (v := .bool false) (w' := w11) rfl (by go_simp) ?_
        try simp only [Act.put, List.setIfInBounds_toArray, List.set_cons_zero, List.set_cons_succ]
        clear y z
        refine wpList_val (v := .bool false) (w' := w11) rfl (by go_simp) ?_
        try simp only [Act.put, List.setIfInBounds_toArray, List.set_cons_zero, List.set_cons_succ]
        refine wpList_skipped (by rfl) ?_
        try simp only [Act.put, List.setIfInBounds_toArray, List.set_cons_zero, List.set_cons_succ]
        refine wpList_skipped (by rfl) ?_
        try simp only [Act.put, List.setIfInBounds_toArray, List.set_cons_zero, List.set_cons_succ]
        refine wpList_val (v := .bool false) (w' := w11) rfl (by go_simp) ?_
        try simp only [Act.put, List.setIfInBounds_toArray, List.set_cons_zero, List.set_cons_succ]
        have y := HB.out.cell 11
        have z := HB.out.frozen 11
        simp only [List.getElem?_toArray, List.getElem?_cons_zero, List.getElem?_cons_succ] at y
        refine wpList_val (v := .pointer (some ⟨b, 11, none⟩)) (w' := w11) rfl (by go_simp) ?_
        try simp only [Act.put, List.setIfInBounds_toArray, List.set_cons_zero, List.set_cons_succ]
        refine wpList_skip (w' := w11.setCell ⟨b, 11, none⟩ (.bool false)) rfl (by go_simp) ?_
        try simp only [Act.put, List.setIfInBounds_toArray, List.set_cons_zero, List.set_cons_succ]
        clear y z
        have HB2 := hide (show Blk (w11.setCell ⟨b, 11, none⟩ (.bool false)) b 46 #[.string r, .slice A0 n0 c0, .slice A1 n1 c1, .slice A2 n2 c2, .slice A3 n3 c3, .slice A4 n4 c4, .slice A5 n5 c5, .slice A6 n6 c6, .slice A7 n7 c7, .slice none 0 0, .slice none 0 0, .bool false, .bool false, .bool fz, .bool false, .bool false] from by
          have h9 := HB.out.set_ 11 (.bool false)
          simpa using h9)
        have HR2 := hide (HR.out.far (p := ⟨b, 11, none⟩) (by show w.heap.size + 1 ≠ b; omega) (.bool false))
        have HC2 := hide (HC.out.far (p := ⟨b, 11, none⟩) (by show w.heap.size ≠ b; omega) (.bool false))
        have HW2 := hide (HW.out.setCell (p := ⟨b, 11, none⟩) (by show w.heap.size ≤ b; omega) (.bool false))
        generalize w11.setCell ⟨b, 11, none⟩ (.bool false) = w12 at HB2 HR2 HC2 HW2 ⊢
        clear HB HR HC HW
        have HB := HB2
        have HR := HR2
        have HC := HC2
        have HW := HW2
        clear HB2 HR2 HC2 HW2
        go_upto_region 7 with fail
        refine wp_region_lit ?_
        have y := HC.out.cell 19
        have z := HC.out.frozen 19
        simp only [List.getElem?_toArray, List.getElem?_cons_zero, List.getElem?_cons_succ] at y
        refine wpList_val (v := .pointer (some ⟨w.heap.size, 19, none⟩)) (w' := w12) rfl (by go_simp) ?_
        try simp only [Act.put, List.setIfInBounds_toArray, List.set_cons_zero, List.set_cons_succ]
        refine wpList_val (v := .bool ge) (w' := w12) rfl (by go_simp) ?_
        try simp only [Act.put, List.setIfInBounds_toArray, List.set_cons_zero, List.set_cons_succ]
        clear y z
        have y := HB.out.cell 15
        have z := HB.out.frozen 15
        simp only [List.getElem?_toArray, List.getElem?_cons_zero, List.getElem?_cons_succ] at y
        refine wpList_val (v := .pointer (some ⟨b, 15, none⟩)) (w' := w12) rfl (by go_simp) ?_
        try simp only [Act.put, List.setIfInBounds_toArray, List.set_cons_zero, List.set_cons_succ]
        refine wpList_skip (w' := w12.setCell ⟨b, 15, none⟩ (.bool ge)) rfl (by go_simp) ?_
        try simp only [Act.put, List.setIfInBounds_toArray, List.set_cons_zero, List.set_cons_succ]
        clear y z
        have HB2 := hide (show Blk (w12.setCell ⟨b, 15, none⟩ (.bool ge)) b 46 #[.string r, .slice A0 n0 c0, .slice A1 n1 c1, .slice A2 n2 c2, .slice A3 n3 c3, .slice A4 n4 c4, .slice A5 n5 c5, .slice A6 n6 c6, .slice A7 n7 c7, .slice none 0 0, .slice none 0 0, .bool false, .bool false, .bool fz, .bool false, .bool ge] from by
          have h9 := HB.out.set_ 15 (.bool ge)
          simpa using h9)
        have HR2 := hide (HR.out.far (p := ⟨b, 15, none⟩) (by show w.heap.size + 1 ≠ b; omega) (.bool ge))
        have HC2 := hide (HC.out.far (p := ⟨b, 15, none⟩) (by show w.heap.size ≠ b; omega) (.bool ge))
        have HW2 := hide (HW.out.setCell (p := ⟨b, 15, none⟩) (by show w.heap.size ≤ b; omega) (.bool ge))
        generalize w12.setCell ⟨b, 15, none⟩ (.bool ge) = w13 at HB2 HR2 HC2 HW2 ⊢
        clear HB HR HC HW
        have HB := HB2
        have HR := HR2
        have HC := HC2
        have HW := HW2
        clear HB2 HR2 HC2 HW2
        go_upto_region 8 with fail
        refine wp_region_lit ?_
        obtain ⟨cF, hcF⟩ : ∃ c : Array Value, c = #[.string r, .slice A0 n0 c0, .slice A1 n1 c1, .slice A2 n2 c2, .slice A3 n3 c3, .slice A4 n4 c4, .slice A5 n5 c5, .slice A6 n6 c6, .slice A7 n7 c7, .slice none 0 0, .slice none 0 0, .bool false, .bool false, .bool fz, .bool false, .bool ge] := ⟨_, rfl⟩
        have hlF : cF.toList.length = 16 := by rw [hcF]; rfl
        have hone : cF.all (·.oneCell') = true := by rw [hcF]; simp [Value.oneCell']
        have hBF := HB.out
        rw [← hcF] at hBF
        refine wpList_load_blk rfl (.tmp 7) rfl (by rfl) hBF Tryd.underlying46 rfl (by rw [hlF]; exact infoInit16) ?_
        try simp only [Act.put, List.setIfInBounds_toArray, List.set_cons_zero, List.set_cons_succ]
        refine wpList_store_blk rfl (.tmp 6) (.tmp 33) rfl (by rfl) (by rfl) HR.out (by rw [← Array.length_toList, hlF]; rfl) (by rw [← Array.length_toList, hlF]; exact infoInit16) hone ?_
        try simp only [Act.put, List.setIfInBounds_toArray, List.set_cons_zero, List.set_cons_succ]
        have hRF : Blk (w13.setCells (w.heap.size + 1) 0 cF.toList) (w.heap.size + 1) 46 cF := by
          have h9 := Blk.setCells cF.toList 0 HR.out
          rw [wrA_all (by rw [hlF]; rfl), Array.toArray_toList] at h9
          exact h9
        have HBel := hide (below_setCells (b := w.heap.size + 1) (by omega) cF.toList 0 HW.out)
        generalize w13.setCells (w.heap.size + 1) 0 cF.toList = wF at hRF HBel ⊢
        have HRF := hide hRF
        clear hRF hBF hone HB HR HC HW
        go_wp2_with fail
        refine bodyPost_ret (results_init rfl (by rfl) HRF.out hlF) rfl ?_
        subst hcF
        have hz := HZ.out
        subst hz
        exact ⟨r, by rfl, hr, HBel.out⟩
  · exact fun p v h1 => by
      match p, h1 with
      | 0, h1 => cases h1
      | 1, h1 => cases h1
      | 2, h1 => cases h1
      | n + 3, h1 => simp at h1
end
end Go.Proofs.YtjaipdenahlheaaDoor
