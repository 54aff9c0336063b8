/-
  Several of my texts in one: R4, PX, HB.
-/
import Derived.Test.YtfjegckomjpkdaaGreatDoorRawB
import Derived.Test.YtfjegckomjpkdaaGreatDoorMakesA
import Derived.Test.YtfjegckomjpkdaaGreatDoorAwake20
set_option linter.unusedVariables false
set_option linter.unusedSimpArgs false
/-
  What stands at each moment while makes and parts are made, in whatever order the variables' cells are made. Conditions: none.
-/
namespace Go.Proofs.YtfjegckomjpkdaaGreatDoor
open Go.RowKit Go.ChangeShapes Go.WideShapes Go.Sort

theorem Mks.mono {lo lo' : Nat} {w : World} {A : Option Addr} {l : List Mk} (h : Mks lo w A l) (hl : lo ≤ lo') : Mks lo' w A l := ⟨fun i x hx => by
  obtain ⟨ad, e, h1, h2⟩ := h.at_ i x hx
  exact ⟨ad, e, Nat.lt_of_lt_of_le h1 hl, h2⟩⟩
theorem sto14_only (w : World) (g : Nat) (v0 v1 v2 v3 v4 v5 v6 v7 v8 v9 v10 v11 v12 v13 : Value) : w.grownBy (sto14 w g v0 v1 v2 v3 v4 v5 v6 v7 v8 v9 v10 v11 v12 v13) (some g) :=
  (only_setCell (only_setCell (only_setCell (only_setCell (only_setCell (only_setCell (only_setCell (only_setCell (only_setCell (only_setCell (only_setCell (only_setCell (only_setCell (only_setCell (only_refl w (some g)) (p := ⟨g, 0, none⟩) (.inl rfl) v0) (p := ⟨g, 1, none⟩) (.inl rfl) v1) (p := ⟨g, 2, none⟩) (.inl rfl) v2) (p := ⟨g, 3, none⟩) (.inl rfl) v3) (p := ⟨g, 4, none⟩) (.inl rfl) v4) (p := ⟨g, 5, none⟩) (.inl rfl) v5) (p := ⟨g, 6, none⟩) (.inl rfl) v6) (p := ⟨g, 7, none⟩) (.inl rfl) v7) (p := ⟨g, 8, none⟩) (.inl rfl) v8) (p := ⟨g, 9, none⟩) (.inl rfl) v9) (p := ⟨g, 10, none⟩) (.inl rfl) v10) (p := ⟨g, 11, none⟩) (.inl rfl) v11) (p := ⟨g, 12, none⟩) (.inl rfl) v12) (p := ⟨g, 13, none⟩) (.inl rfl) v13)
def rawC (x : RawP) : Array Value := #[.string x.v0, .string x.v1, .string x.v2, .string x.v3, .int .i64 x.t0, .int .i64 x.t1, .int .i64 x.t2, .int .i64 x.t3, .bool x.asks, .int .u32 x.w0, .int .u32 x.w1, .int .u32 x.w2, .string x.gp, .string x.gg]
def z86 : Array Value := #[.string ⟨#[]⟩, .string ⟨#[]⟩, .string ⟨#[]⟩, .string ⟨#[]⟩, .int .i64 0, .bool false, .int .u32 0, .int .u32 0, .int .u32 0, .string ⟨#[]⟩, .string ⟨#[]⟩, .int .i64 0, .int .i64 0, .int .i64 0]
def z88 : Array Value := #[.string ⟨#[]⟩, .string ⟨#[]⟩, .string ⟨#[]⟩, .string ⟨#[]⟩, .string ⟨#[]⟩, .bool false, .int .i64 0, .int .i64 0, .int .i64 0, .string ⟨#[]⟩, .string ⟨#[]⟩, .string ⟨#[]⟩, .string ⟨#[]⟩, .string ⟨#[]⟩]
/-- Cells of a call's own, beside an arena. -/
structure R4 (B g : Nat) (w : World) (b0 : Nat) (t0 : TypeId) (c0 : Array Value) (T : List Tm) (S : Nat → Prop) (o6 o7 : Option Nat) (W : World) : Prop where
  bel : Below w.heap.size w W
  raw : Blk W b0 t0 c0
  nr : ¬ S b0
  use : Use B W g T S
  p6 : ∀ b, o6 = some b → Blk W b 86 z86 ∧ ¬ S b ∧ B ≤ b
  p7 : ∀ b, o7 = some b → Blk W b 88 z88 ∧ ¬ S b ∧ B ≤ b
section
variable {B g b0 : Nat} {t0 : TypeId} {c0 : Array Value} {w W W' : World} {T T' : List Tm} {S S' : Nat → Prop} {o6 o7 : Option Nat}
theorem Grown.notin (h : Grown S W S' W') {b : Nat} (hb : ¬ S b) (hlt : b < W.heap.size) : ¬ S' b := fun h2 => by
  rcases h.new b h2 with h3 | h3
  · exact hb h3
  · omega
theorem R4.below (h : R4 B g w b0 t0 c0 T S o6 o7 W) (hb : Below W.heap.size W W') : R4 B g w b0 t0 c0 T S o6 o7 W' :=
  ⟨h.bel.trans (hb.mono h.bel.size), h.raw.below hb h.raw.lt, h.nr, h.use.below hb, fun b e => ⟨(h.p6 b e).1.below hb (h.p6 b e).1.lt, (h.p6 b e).2⟩, fun b e => ⟨(h.p7 b e).1.below hb (h.p7 b e).1.lt, (h.p7 b e).2⟩⟩
theorem R4.grown (h : R4 B g w b0 t0 c0 T S o6 o7 W) (hwB : w.heap.size ≤ B) (hG : Grown S W S' W') (hA : Ar B W' g T' S') (hf : T'.length ≤ 1000000000) : R4 B g w b0 t0 c0 T' S' o6 o7 W' :=
  ⟨h.bel.trans ((hG.below h.use.base h.use.ar.sB).mono hwB), hG.outs_.blk h.raw h.nr, hG.notin h.nr h.raw.lt, h.use.grown hG hA hf,
    fun b e => ⟨hG.outs_.blk (h.p6 b e).1 (h.p6 b e).2.1, hG.notin (h.p6 b e).2.1 (h.p6 b e).1.lt, (h.p6 b e).2.2⟩,
    fun b e => ⟨hG.outs_.blk (h.p7 b e).1 (h.p7 b e).2.1, hG.notin (h.p7 b e).2.1 (h.p7 b e).1.lt, (h.p7 b e).2.2⟩⟩
theorem R4.new6 (h : R4 B g w b0 t0 c0 T S none o7 W) : R4 B g w b0 t0 c0 T S (some W.heap.size) o7 (W.alloc (.cells z86 86)) := by
  have h2 := h.below (bel_new (.cells z86 86))
  refine ⟨h2.bel, h2.raw, h2.nr, h2.use, fun b e => ?_, h2.p7⟩
  cases e
  exact ⟨Blk.new _ _ _, fun hc => by have := h.use.ar.sL _ hc; omega, h.use.base⟩
theorem R4.new7 (h : R4 B g w b0 t0 c0 T S o6 none W) : R4 B g w b0 t0 c0 T S o6 (some W.heap.size) (W.alloc (.cells z88 88)) := by
  have h2 := h.below (bel_new (.cells z88 88))
  refine ⟨h2.bel, h2.raw, h2.nr, h2.use, h2.p6, fun b e => ?_⟩
  cases e
  exact ⟨Blk.new _ _ _, fun hc => by have := h.use.ar.sL _ hc; omega, h.use.base⟩
end
/-- The terms' numbers, and parts' cells, behind it all. -/
structure C4 (B g : Nat) (w : World) (ms : List (Option Tm)) (x : RawP) (T : List Tm) (S : Nat → Prop) (b6 b7 : Nat) (nk ne nf ns : Int) (W : World) : Prop where
  bel : Below w.heap.size w W
  use : Use B W g T S
  blk6 : Blk W b6 86 #[.string x.v0, .string x.v1, .string x.v2, .string x.v3, .int .i64 nk, .bool x.asks, .int .u32 x.w0, .int .u32 x.w1, .int .u32 x.w2, .string x.gp, .string x.gg, .int .i64 ne, .int .i64 nf, .int .i64 ns]
  blk7 : Blk W b7 88 #[.string x.v0, .string x.v1, .string x.v2, .string x.v3, .string (bs (txt (pickO ms x.t0))), .bool x.asks, .int .i64 x.w0, .int .i64 x.w1, .int .i64 x.w2, .string x.gp, .string x.gg, .string (bs (txt (pickO ms x.t1))), .string (bs (txt (pickO ms x.t2))), .string (bs (txt (pickO ms x.t3)))]
  n6 : ¬ S b6
  n7 : ¬ S b7
  i0 : Idn T (pickO ms x.t0) nk
  i1 : Idn T (pickO ms x.t1) ne
  i2 : Idn T (pickO ms x.t2) nf
  i3 : Idn T (pickO ms x.t3) ns
theorem R4.fin {B g b0 : Nat} {t0 : TypeId} {c0 : Array Value} {w W : World} {T : List Tm} {S : Nat → Prop} {b6 b7 : Nat} {ms : List (Option Tm)} {x : RawP} {nk ne nf ns : Int} (h : R4 B g w b0 t0 c0 T S (some b6) (some b7) W) (hwB : w.heap.size ≤ B)
    (i0 : Idn T (pickO ms x.t0) nk) (i1 : Idn T (pickO ms x.t1) ne) (i2 : Idn T (pickO ms x.t2) nf) (i3 : Idn T (pickO ms x.t3) ns) :
    C4 B g w ms x T S b6 b7 nk ne nf ns (sto14 (sto14 W b6 (.string x.v0) (.string x.v1) (.string x.v2) (.string x.v3) (.int .i64 nk) (.bool x.asks) (.int .u32 x.w0) (.int .u32 x.w1) (.int .u32 x.w2) (.string x.gp) (.string x.gg) (.int .i64 ne) (.int .i64 nf) (.int .i64 ns)) b7 (.string x.v0) (.string x.v1) (.string x.v2) (.string x.v3) (.string (bs (txt (pickO ms x.t0)))) (.bool x.asks) (.int .i64 x.w0) (.int .i64 x.w1) (.int .i64 x.w2) (.string x.gp) (.string x.gg) (.string (bs (txt (pickO ms x.t1)))) (.string (bs (txt (pickO ms x.t2)))) (.string (bs (txt (pickO ms x.t3))))) := by
  obtain ⟨h6, n6, l6⟩ := h.p6 b6 rfl
  obtain ⟨h7, n7, l7⟩ := h.p7 b7 rfl
  have hne : b6 ≠ b7 := fun e => by
    subst e
    have := h6.symm.trans h7
    simp at this
  refine ⟨sto14_below (sto14_below h.bel (Nat.le_trans hwB l6) _ _ _ _ _ _ _ _ _ _ _ _ _ _) (Nat.le_trans hwB l7) _ _ _ _ _ _ _ _ _ _ _ _ _ _, ?_, sto14_far (sto14_blk h6 _ _ _ _ _ _ _ _ _ _ _ _ _ _) hne _ _ _ _ _ _ _ _ _ _ _ _ _ _, sto14_blk (sto14_far h7 (Ne.symm hne) _ _ _ _ _ _ _ _ _ _ _ _ _ _) _ _ _ _ _ _ _ _ _ _ _ _ _ _, n6, n7, i0, i1, i2, i3⟩
  refine (h.use.kept (sto14_only W b6 _ _ _ _ _ _ _ _ _ _ _ _ _ _) fun b e => ?_).kept (sto14_only _ b7 _ _ _ _ _ _ _ _ _ _ _ _ _ _) fun b e => ?_
  · cases e; exact ⟨n6, l6⟩
  · cases e; exact ⟨n7, l7⟩
section
variable {P : Program} {Q : Exit → Act → World → Prop} {ops : Array Oper}
theorem step_allocV (O : Obj) {o : Oper} {a : Act} {w : World} {K : Act → World → Prop} {F : Prop} (hgd : o.guard = none)
    (hr : ∀ ρ : Operand → Value, (execOp ρ o).run P w = .ok (.value (.pointer (some ⟨w.heap.size, 0, none⟩))) (w.alloc O)) (h : K (a.put o.dst (.pointer (some ⟨w.heap.size, 0, none⟩))) (w.alloc O)) : if Region.wanted o (yielded ops a.tmps) = true then Oper.wp P o a w K Q else F := by
  rw [if_pos (by simp [Region.wanted, hgd])]
  unfold Oper.wp
  rw [hr a.eval]
  exact h
theorem step_storeW {o : Oper} {a : Act} {w w2 : World} {x y : Operand} {u v : Value} {K : Act → World → Prop} {F : Prop} (hgd : o.guard = none) (hx : a.eval x = u) (hy : a.eval y = v)
    (hr : ∀ ρ : Operand → Value, ρ x = u → ρ y = v → (execOp ρ o).run P w = .ok .skip w2) (h : K (a.put o.dst undef) w2) : if Region.wanted o (yielded ops a.tmps) = true then Oper.wp P o a w K Q else F := by
  rw [if_pos (by simp [Region.wanted, hgd])]
  unfold Oper.wp
  rw [hr a.eval hx hy]
  exact h
end
theorem al86 (o : Oper) (ho : o.op = .alloc 86) (ρ : Operand → Value) (w : World) : (execOp ρ o).run Tryz.prog w = .ok (.value (.pointer (some ⟨w.heap.size, 0, none⟩))) (w.alloc (.cells z86 86)) := by
  obtain ⟨d, op, t, p, af, gd⟩ := o
  simp only at ho
  subst ho
  unfold z86
  go_simp
theorem al88 (o : Oper) (ho : o.op = .alloc 88) (ρ : Operand → Value) (w : World) : (execOp ρ o).run Tryz.prog w = .ok (.value (.pointer (some ⟨w.heap.size, 0, none⟩))) (w.alloc (.cells z88 88)) := by
  obtain ⟨d, op, t, p, af, gd⟩ := o
  simp only at ho
  subst ho
  unfold z88
  go_simp
set_option maxHeartbeats 1000000 in
theorem st86 {x y : Operand} {g : Nat} {cs : Array Value} {u0 u1 u2 u3 u4 u5 u6 u7 u8 u9 u10 u11 u12 u13 : Value} {v0 v1 v2 v3 v9 v10 : ByteArray} {n4 n6 n7 n8 n11 n12 n13 : Int} {b5 : Bool} (o : Oper) (ho : o.op = .store 86 x y) (ρ : Operand → Value) (hρ : ρ x = .pointer (some ⟨g, 0, none⟩))
    (hρ2 : ρ y = .agg #[.string v0, .string v1, .string v2, .string v3, .int .i64 n4, .bool b5, .int .u32 n6, .int .u32 n7, .int .u32 n8, .string v9, .string v10, .int .i64 n11, .int .i64 n12, .int .i64 n13]) (w : World) (hb : Blk w g 86 #[u0, u1, u2, u3, u4, u5, u6, u7, u8, u9, u10, u11, u12, u13]) :
    (execOp ρ o).run Tryz.prog w = .ok .skip (sto14 w g (.string v0) (.string v1) (.string v2) (.string v3) (.int .i64 n4) (.bool b5) (.int .u32 n6) (.int .u32 n7) (.int .u32 n8) (.string v9) (.string v10) (.int .i64 n11) (.int .i64 n12) (.int .i64 n13)) := by
  obtain ⟨d, op, t, p, af, gd⟩ := o
  simp only at ho
  subst ho
  obtain ⟨c0, c1, c2, c3, c4, c5, c6, c7, c8, c9, c10, c11, c12, c13⟩ := cells14 hb
  have f0 := hb.frozen 0
  have f1 := hb.frozen 1
  have f2 := hb.frozen 2
  have f3 := hb.frozen 3
  have f4 := hb.frozen 4
  have f5 := hb.frozen 5
  have f6 := hb.frozen 6
  have f7 := hb.frozen 7
  have f8 := hb.frozen 8
  have f9 := hb.frozen 9
  have f10 := hb.frozen 10
  have f11 := hb.frozen 11
  have f12 := hb.frozen 12
  have f13 := hb.frozen 13
  unfold sto14
  go_simp
set_option maxHeartbeats 1000000 in
theorem st88 {x y : Operand} {g : Nat} {cs : Array Value} {u0 u1 u2 u3 u4 u5 u6 u7 u8 u9 u10 u11 u12 u13 : Value} {v0 v1 v2 v3 v4 v9 v10 v11 v12 v13 : ByteArray} {n6 n7 n8 : Int} {b5 : Bool} (o : Oper) (ho : o.op = .store 88 x y) (ρ : Operand → Value) (hρ : ρ x = .pointer (some ⟨g, 0, none⟩))
    (hρ2 : ρ y = .agg #[.string v0, .string v1, .string v2, .string v3, .string v4, .bool b5, .int .i64 n6, .int .i64 n7, .int .i64 n8, .string v9, .string v10, .string v11, .string v12, .string v13]) (w : World) (hb : Blk w g 88 #[u0, u1, u2, u3, u4, u5, u6, u7, u8, u9, u10, u11, u12, u13]) :
    (execOp ρ o).run Tryz.prog w = .ok .skip (sto14 w g (.string v0) (.string v1) (.string v2) (.string v3) (.string v4) (.bool b5) (.int .i64 n6) (.int .i64 n7) (.int .i64 n8) (.string v9) (.string v10) (.string v11) (.string v12) (.string v13)) := by
  obtain ⟨d, op, t, p, af, gd⟩ := o
  simp only at ho
  subst ho
  obtain ⟨c0, c1, c2, c3, c4, c5, c6, c7, c8, c9, c10, c11, c12, c13⟩ := cells14 hb
  have f0 := hb.frozen 0
  have f1 := hb.frozen 1
  have f2 := hb.frozen 2
  have f3 := hb.frozen 3
  have f4 := hb.frozen 4
  have f5 := hb.frozen 5
  have f6 := hb.frozen 6
  have f7 := hb.frozen 7
  have f8 := hb.frozen 8
  have f9 := hb.frozen 9
  have f10 := hb.frozen 10
  have f11 := hb.frozen 11
  have f12 := hb.frozen 12
  have f13 := hb.frozen 13
  unfold sto14
  go_simp
end Go.Proofs.YtfjegckomjpkdaaGreatDoor

/-
  The contract of the law's parts, its results spelled out. Conditions: numbers fit.
-/
namespace Go.Proofs.YtfjegckomjpkdaaGreatDoor
open Go.RowKit Go.ChangeShapes Go.WideShapes Go.Sort
theorem partsV_eq (ms : List (Option Tm)) (x : RawP) (n0 n1 n2 n3 : Int) : partsV (partsR ms x) n0 n1 n2 n3 = .agg #[.string x.v0, .string x.v1, .string x.v2, .string x.v3, .int .i64 n0, .bool x.asks, .int .u32 x.w0, .int .u32 x.w1, .int .u32 x.w2, .string x.gp, .string x.gg, .int .i64 n1, .int .i64 n2, .int .i64 n3] := by
  simp only [partsV, partsR]
theorem parts2V_eq (ms : List (Option Tm)) (x : RawP) : parts2V (partsR ms x) = .agg #[.string x.v0, .string x.v1, .string x.v2, .string x.v3, .string (bs (txt (pickO ms x.t0))), .bool x.asks, .int .i64 x.w0, .int .i64 x.w1, .int .i64 x.w2, .string x.gp, .string x.gg, .string (bs (txt (pickO ms x.t1))), .string (bs (txt (pickO ms x.t2))), .string (bs (txt (pickO ms x.t3)))] := by
  simp only [parts2V, partsR]
theorem parts_any2 {w : World} {T : List Tm} {ms : List (Option Tm)} {v1 v2 : Value} (h : Md w T ms v1 v2) (x : RawP) (hf : RawFit x) (hm : ms.length ≤ 1000000000) : Calls Tryz.prog 43 #[.agg #[.string x.v0, .string x.v1, .string x.v2, .string x.v3, .int .i64 x.t0, .int .i64 x.t1, .int .i64 x.t2, .int .i64 x.t3, .bool x.asks, .int .u32 x.w0, .int .u32 x.w1, .int .u32 x.w2, .string x.gp, .string x.gg], .agg #[v1, v2]] w (fun e w' => ∃ n0 n1 n2 n3, e = .returned (.tuple #[.agg #[.string x.v0, .string x.v1, .string x.v2, .string x.v3, .int .i64 n0, .bool x.asks, .int .u32 x.w0, .int .u32 x.w1, .int .u32 x.w2, .string x.gp, .string x.gg, .int .i64 n1, .int .i64 n2, .int .i64 n3], .agg #[.string x.v0, .string x.v1, .string x.v2, .string x.v3, .string (bs (txt (pickO ms x.t0))), .bool x.asks, .int .i64 x.w0, .int .i64 x.w1, .int .i64 x.w2, .string x.gp, .string x.gg, .string (bs (txt (pickO ms x.t1))), .string (bs (txt (pickO ms x.t2))), .string (bs (txt (pickO ms x.t3)))]]) ∧ Idn T (pickO ms x.t0) n0 ∧ Idn T (pickO ms x.t1) n1 ∧ Idn T (pickO ms x.t2) n2 ∧ Idn T (pickO ms x.t3) n3 ∧ Below w.heap.size w w') := by
  have hp := parts_any h x hf hm
  unfold rawV at hp
  refine hp.mono ?_
  rintro e w' ⟨n0, n1, n2, n3, he, h4⟩
  refine ⟨n0, n1, n2, n3, ?_, h4⟩
  rw [he, partsV_eq, parts2V_eq]
theorem step_call2 {P : Program} {Q : Exit → Act → World → Prop} {ops : Array Oper} {o : Oper} {a : Act} {w : World} {u v : Value} {f : FuncId} {K : Act → World → Prop} {F : Prop} (hgd : o.guard = none)
    (hr : (execOp a.eval o).run P w = .ok (.enter f #[u, v]) w) {post : Ending → World → Prop} (hc : Calls P f #[u, v] w post) (h : ∀ e w', post e w' → ∃ r, e = .returned r ∧ K (a.put o.dst r) w') : if Region.wanted o (yielded ops a.tmps) = true then Oper.wp P o a w K Q else F := by
  rw [if_pos (by simp [Region.wanted, hgd])]
  unfold Oper.wp
  rw [hr, Oper.upon_enter]
  refine hc.mono fun e w' hp => ?_
  obtain ⟨r, rfl, hk⟩ := h e w' hp
  exact hk
theorem callP {x y : Operand} {u v : Value} {f : FuncId} {ts : Array TypeId} (o : Oper) (ho : o.op = .call { callee := .value (.func f), args := #[x, y], argTypes := ts }) (hf : f = 43 ∨ f = 14) (a : Act) (hx : a.eval x = u) (hy : a.eval y = v) (w : World) : (execOp a.eval o).run Tryz.prog w = .ok (.enter f #[u, v]) w := by
  obtain ⟨d, op, t, p, af, gd⟩ := o
  simp only at ho
  subst ho
  have h1 : ∀ n : Nat, a.eval (.func n) = .func (.func n) #[] #[] := fun n => rfl
  subst hx hy
  rcases hf with rfl | rfl <;> go_simp
end Go.Proofs.YtfjegckomjpkdaaGreatDoor

/-
  What TransHashes asks of its parts. Conditions: few makes, fitting numbers.
-/
namespace Go.Proofs.YtfjegckomjpkdaaGreatDoor
open Go.RowKit Go.ChangeShapes Go.WideShapes Go.Sort
theorem fitR {ms : List (Option Tm)} {x : RawP} (hx : RawFit x) (hf : fewR x = true) : PFit (partsR ms x) := by
  have h := fewR_iff.1 hf
  exact ⟨hx.w0, hx.w1, hx.w2, by show x.v0.size ≤ _; omega, by show x.v1.size ≤ _; omega, by show x.v2.size ≤ _; omega, by show x.v3.size ≤ _; omega, by show x.gp.size ≤ _; omega, by show x.gg.size ≤ _; omega⟩
theorem transO_fine {p : PartsP} (hf : PFit p) (fk : fineO p.key) (fe : fineO p.e) (ff : fineO p.f) (fs : fineO p.k) : fineO (transO p) := tList_fine (partsO_fine p hf fk fe ff fs)
end Go.Proofs.YtfjegckomjpkdaaGreatDoor
