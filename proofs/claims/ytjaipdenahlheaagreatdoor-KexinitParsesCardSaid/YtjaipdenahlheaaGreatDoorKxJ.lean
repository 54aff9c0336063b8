/-
  Steps of drawn regions: msg.Get's call; an api.Init that is made and written; two cells that are written. Conditions: none.
-/
import Derived.Test.YtjaipdenahlheaaGreatDoorKxI
set_option linter.unusedVariables false
set_option linter.unusedSimpArgs false
namespace Go.Proofs.YtjaipdenahlheaaGreatDoor
open Go.RowKit Go.ChangeShapes Go.WideShapes Go.Sort
theorem step_call2K {P : Program} {Q : Exit → Act → World → Prop} {ops : Array Oper} {o : Oper} {a : Act} {w : World} {u v : Value} {f : FuncId} {K : Act → World → Prop} {F : Prop} (hgd : o.guard = none)
    (hr : (execOp a.eval o).run P w = .ok (.enter f #[u, v]) w) {post : Ending → World → Prop} (hc : Calls P f #[u, v] w post) (h : ∀ e w', post e w' → ∃ r, e = .returned r ∧ K (a.put o.dst r) w') : if Region.wanted o (yielded ops a.tmps) = true then Oper.wp P o a w K Q else F := by
  rw [if_pos (by simp [Region.wanted, hgd])]
  unfold Oper.wp
  rw [hr, Oper.upon_enter]
  refine hc.mono fun e w' hp => ?_
  obtain ⟨r, rfl, hk⟩ := h e w' hp
  exact hk
theorem callG {x : Operand} {u : Value} {j : Int} {ts : Array TypeId} (o : Oper) (ho : o.op = .call { callee := .value (.func 50), args := #[x, .const (.int .i64 j)], argTypes := ts }) (a : Act) (hx : a.eval x = u) (w : World) : (execOp a.eval o).run Tryz.prog w = .ok (.enter 50 #[u, .int .i64 j]) w := by
  obtain ⟨d, op, t, p, af, gd⟩ := o
  simp only at ho
  subst ho
  have h1 : a.eval (.func 50) = .func (.func 50) #[] #[] := rfl
  have h2 : a.eval (.const (.int .i64 j)) = .int .i64 j := rfl
  subst hx
  go_simp
theorem step_skipA {P : Program} {Q : Exit → Act → World → Prop} {ops : Array Oper} {o : Oper} {a : Act} {w w' : World} {K : Act → World → Prop} {F : Prop} (hgd : o.guard = none)
    (hr : (execOp a.eval o).run P w = .ok .skip w') (h : K (a.put o.dst undef) w') : if Region.wanted o (yielded ops a.tmps) = true then Oper.wp P o a w K Q else F := by
  rw [if_pos (by simp [Region.wanted, hgd])]
  unfold Oper.wp
  rw [hr]
  exact h
theorem allI (o : Oper) (ho : o.op = .alloc 45) (ρ : Operand → Value) (w : World) : (execOp ρ o).run Tryz.prog w = .ok (.value (.pointer (some ⟨w.heap.size, 0, none⟩))) (w.alloc (.cells #[.string ⟨#[]⟩, .slice none 0 0, .slice none 0 0, .slice none 0 0, .slice none 0 0, .slice none 0 0, .slice none 0 0, .slice none 0 0, .slice none 0 0, .slice none 0 0, .slice none 0 0, .bool false, .bool false, .bool false, .bool false, .bool false] 45)) := by
  obtain ⟨d, op, t, p, af, gd⟩ := o
  simp only at ho
  subst ho
  go_simp
def sto16 (w : World) (g : Nat) (v0 v1 v2 v3 v4 v5 v6 v7 v8 v9 v10 v11 v12 v13 v14 v15 : Value) : World := ((((((((((((((((w.setCell ⟨g, 0, none⟩ v0).setCell ⟨g, 1, none⟩ v1).setCell ⟨g, 2, none⟩ v2).setCell ⟨g, 3, none⟩ v3).setCell ⟨g, 4, none⟩ v4).setCell ⟨g, 5, none⟩ v5).setCell ⟨g, 6, none⟩ v6).setCell ⟨g, 7, none⟩ v7).setCell ⟨g, 8, none⟩ v8).setCell ⟨g, 9, none⟩ v9).setCell ⟨g, 10, none⟩ v10).setCell ⟨g, 11, none⟩ v11).setCell ⟨g, 12, none⟩ v12).setCell ⟨g, 13, none⟩ v13).setCell ⟨g, 14, none⟩ v14).setCell ⟨g, 15, none⟩ v15)
theorem sto16_blk {w : World} {r : Nat} {t : TypeId} {o0 o1 o2 o3 o4 o5 o6 o7 o8 o9 o10 o11 o12 o13 o14 o15 : Value} (h : Blk w r t #[o0, o1, o2, o3, o4, o5, o6, o7, o8, o9, o10, o11, o12, o13, o14, o15]) (v0 v1 v2 v3 v4 v5 v6 v7 v8 v9 v10 v11 v12 v13 v14 v15 : Value) : Blk (sto16 w r v0 v1 v2 v3 v4 v5 v6 v7 v8 v9 v10 v11 v12 v13 v14 v15) r t #[v0, v1, v2, v3, v4, v5, v6, v7, v8, v9, v10, v11, v12, v13, v14, v15] := fin16 h v0 v1 v2 v3 v4 v5 v6 v7 v8 v9 v10 v11 v12 v13 v14 v15
theorem sto16_bel {B : Nat} {w0 w : World} {r : Nat} (h : Below B w0 w) (hr : B ≤ r) (v0 v1 v2 v3 v4 v5 v6 v7 v8 v9 v10 v11 v12 v13 v14 v15 : Value) : Below B w0 (sto16 w r v0 v1 v2 v3 v4 v5 v6 v7 v8 v9 v10 v11 v12 v13 v14 v15) := bel16 h hr v0 v1 v2 v3 v4 v5 v6 v7 v8 v9 v10 v11 v12 v13 v14 v15
theorem sto16_new {lo : Nat} {w : World} {r : Nat} {v : Value} {l : List (List UInt8)} (h : NewC lo w v l) (hr : r < lo) (v0 v1 v2 v3 v4 v5 v6 v7 v8 v9 v10 v11 v12 v13 v14 v15 : Value) : NewC lo (sto16 w r v0 v1 v2 v3 v4 v5 v6 v7 v8 v9 v10 v11 v12 v13 v14 v15) v l := newC16 h hr v0 v1 v2 v3 v4 v5 v6 v7 v8 v9 v10 v11 v12 v13 v14 v15
theorem sto16_err {w : World} {r : Nat} {cs : Array Value} (hB : Blk w r 45 cs) {v : Value} {ps : List (List UInt8)} {k : Int} (h : IsErr w v ps k) (v0 v1 v2 v3 v4 v5 v6 v7 v8 v9 v10 v11 v12 v13 v14 v15 : Value) : IsErr (sto16 w r v0 v1 v2 v3 v4 v5 v6 v7 v8 v9 v10 v11 v12 v13 v14 v15) v ps k := err16 hB h v0 v1 v2 v3 v4 v5 v6 v7 v8 v9 v10 v11 v12 v13 v14 v15
set_option maxHeartbeats 4000000 in
set_option maxRecDepth 100000 in
theorem stoI {x y : Operand} {g : Nat} {s : ByteArray} {b : Bool} (o : Oper) (ho : o.op = .store 45 x y) (ρ : Operand → Value) (hρ : ρ x = .pointer (some ⟨g, 0, none⟩)) (hρ2 : ρ y = .agg #[.string s, .slice none 0 0, .slice none 0 0, .slice none 0 0, .slice none 0 0, .slice none 0 0, .slice none 0 0, .slice none 0 0, .slice none 0 0, .slice none 0 0, .slice none 0 0, .bool false, .bool false, .bool false, .bool false, .bool b]) (w : World) (hb : Blk w g 45 #[.string ⟨#[]⟩, .slice none 0 0, .slice none 0 0, .slice none 0 0, .slice none 0 0, .slice none 0 0, .slice none 0 0, .slice none 0 0, .slice none 0 0, .slice none 0 0, .slice none 0 0, .bool false, .bool false, .bool false, .bool false, .bool false]) :
    (execOp ρ o).run Tryz.prog w = .ok .skip (sto16 w g (.string s) (.slice none 0 0) (.slice none 0 0) (.slice none 0 0) (.slice none 0 0) (.slice none 0 0) (.slice none 0 0) (.slice none 0 0) (.slice none 0 0) (.slice none 0 0) (.slice none 0 0) (.bool false) (.bool false) (.bool false) (.bool false) (.bool b)) := by
  obtain ⟨d, op, t, p, af, gd⟩ := o
  simp only at ho
  subst ho
  have c0 := hb.cell 0
  have f0 := hb.frozen 0
  have c1 := hb.cell 1
  have f1 := hb.frozen 1
  have c2 := hb.cell 2
  have f2 := hb.frozen 2
  have c3 := hb.cell 3
  have f3 := hb.frozen 3
  have c4 := hb.cell 4
  have f4 := hb.frozen 4
  have c5 := hb.cell 5
  have f5 := hb.frozen 5
  have c6 := hb.cell 6
  have f6 := hb.frozen 6
  have c7 := hb.cell 7
  have f7 := hb.frozen 7
  have c8 := hb.cell 8
  have f8 := hb.frozen 8
  have c9 := hb.cell 9
  have f9 := hb.frozen 9
  have c10 := hb.cell 10
  have f10 := hb.frozen 10
  have c11 := hb.cell 11
  have f11 := hb.frozen 11
  have c12 := hb.cell 12
  have f12 := hb.frozen 12
  have c13 := hb.cell 13
  have f13 := hb.frozen 13
  have c14 := hb.cell 14
  have f14 := hb.frozen 14
  have c15 := hb.cell 15
  have f15 := hb.frozen 15
  simp at c0 c1 c2 c3 c4 c5 c6 c7 c8 c9 c10 c11 c12 c13 c14 c15
  clear hb
  unfold sto16
  go_simp
theorem stoL2 {x y : Operand} {g : Nat} {T : TypeId} {cs : Array Value} {B0 B1 : Option Addr} {n0 n1 d0 d1 : Nat} (o : Oper) (ho : o.op = .store 43 x y) (ρ : Operand → Value) (hρ : ρ x = .pointer (some ⟨g, 9, none⟩)) (hρ2 : ρ y = .agg #[.slice B0 n0 d0, .slice B1 n1 d1]) (w : World) (hb : Blk w g T cs) (hc : 11 ≤ cs.size) :
    (execOp ρ o).run Tryz.prog w = .ok .skip ((w.setCell ⟨g, 9, none⟩ (.slice B0 n0 d0)).setCell ⟨g, 10, none⟩ (.slice B1 n1 d1)) := by
  obtain ⟨d, op, t, p, af, gd⟩ := o
  simp only at ho
  subst ho
  have c9 : w.cell? ⟨g, 9, none⟩ = some cs[9] := (hb.cell 9).trans (Array.getElem?_eq_getElem (by omega))
  have f9 := hb.frozen 9
  have c10 : w.cell? ⟨g, 10, none⟩ = some cs[10] := (hb.cell 10).trans (Array.getElem?_eq_getElem (by omega))
  have f10 := hb.frozen 10
  generalize cs[9] = q9 at c9
  generalize cs[10] = q10 at c10
  clear hb hc
  go_simp
theorem fin8o {w : World} {r : Nat} {t : TypeId} {o0 o1 o2 o3 o4 o5 o6 o7 o8 o9 o10 o11 o12 o13 o14 o15 : Value} (h : Blk w r t #[o0, o1, o2, o3, o4, o5, o6, o7, o8, o9, o10, o11, o12, o13, o14, o15]) (v1 v2 v3 v4 v5 v6 v7 v8 : Value) :
    Blk ((((((((w.setCell ⟨r, 1, none⟩ v1).setCell ⟨r, 2, none⟩ v2).setCell ⟨r, 3, none⟩ v3).setCell ⟨r, 4, none⟩ v4).setCell ⟨r, 5, none⟩ v5).setCell ⟨r, 6, none⟩ v6).setCell ⟨r, 7, none⟩ v7).setCell ⟨r, 8, none⟩ v8) r t #[o0, v1, v2, v3, v4, v5, v6, v7, v8, o9, o10, o11, o12, o13, o14, o15] := by
  have h1 := ((((((((h.set_ 1 v1).set_ 2 v2).set_ 3 v3).set_ 4 v4).set_ 5 v5).set_ 6 v6).set_ 7 v7).set_ 8 v8)
  simpa using h1
theorem bel8o {B : Nat} {w0 w : World} {r : Nat} (h : Below B w0 w) (hr : B ≤ r) (v1 v2 v3 v4 v5 v6 v7 v8 : Value) : Below B w0 ((((((((w.setCell ⟨r, 1, none⟩ v1).setCell ⟨r, 2, none⟩ v2).setCell ⟨r, 3, none⟩ v3).setCell ⟨r, 4, none⟩ v4).setCell ⟨r, 5, none⟩ v5).setCell ⟨r, 6, none⟩ v6).setCell ⟨r, 7, none⟩ v7).setCell ⟨r, 8, none⟩ v8) :=
  ((((((((h.setCell (p := ⟨r, 1, none⟩) hr v1).setCell (p := ⟨r, 2, none⟩) hr v2).setCell (p := ⟨r, 3, none⟩) hr v3).setCell (p := ⟨r, 4, none⟩) hr v4).setCell (p := ⟨r, 5, none⟩) hr v5).setCell (p := ⟨r, 6, none⟩) hr v6).setCell (p := ⟨r, 7, none⟩) hr v7).setCell (p := ⟨r, 8, none⟩) hr v8)
theorem newC8o {lo : Nat} {w : World} {r : Nat} {v : Value} {l : List (List UInt8)} (h : NewC lo w v l) (hr : r < lo) (v1 v2 v3 v4 v5 v6 v7 v8 : Value) : NewC lo ((((((((w.setCell ⟨r, 1, none⟩ v1).setCell ⟨r, 2, none⟩ v2).setCell ⟨r, 3, none⟩ v3).setCell ⟨r, 4, none⟩ v4).setCell ⟨r, 5, none⟩ v5).setCell ⟨r, 6, none⟩ v6).setCell ⟨r, 7, none⟩ v7).setCell ⟨r, 8, none⟩ v8) v l :=
  ((((((((h.set_ (p := ⟨r, 1, none⟩) hr v1).set_ (p := ⟨r, 2, none⟩) hr v2).set_ (p := ⟨r, 3, none⟩) hr v3).set_ (p := ⟨r, 4, none⟩) hr v4).set_ (p := ⟨r, 5, none⟩) hr v5).set_ (p := ⟨r, 6, none⟩) hr v6).set_ (p := ⟨r, 7, none⟩) hr v7).set_ (p := ⟨r, 8, none⟩) hr v8)
end Go.Proofs.YtjaipdenahlheaaGreatDoor
