/-
  Two confs that are the same: the statement's test says so. Conditions: lists of at most 1,000,000 texts.
-/
import Derived.Test.YtjaipdenahlheaaDoorKCfS
import Derived.Test.YtjaipdenahlheaaDoorKCfN
import Derived.Laws.StructEq
import Derived.DeepKeys
set_option linter.unusedVariables false
set_option linter.unusedSimpArgs false
namespace Go.Proofs.YtjaipdenahlheaaDoor
open Go.RowKit Go.ChangeShapes Go.WideShapes Go.Sort
theorem neqGr (a : ByteArray) (n : Int) (w : World) : (binOp .neq 36 (.agg #[.string a, .int .i64 n]) (.agg #[.string a, .int .i64 n])).run Tryd.prog w = .ok (.bool false) w := by
  go_simp
theorem eqWi (q0 q1 q2 : Int) (w : World) : (Op.equalIn 10000 28 (.agg #[.int .u32 q0, .int .u32 q1, .int .u32 q2]) (.agg #[.int .u32 q0, .int .u32 q1, .int .u32 q2])).run Tryd.prog w = .ok true w := by
  obtain ⟨i, hi⟩ : ∃ i, Tryd.prog.info? 27 = some i := info_of_underlying Tryd.underlying27
  rw [show (10000 : Nat) = 9999 + 1 from rfl, run_equalIn_array w 9999 _ _ Tryd.underlying28 hi]
  have e : List.range 3 = [0, 1, 2] := rfl
  have hc : Tryd.prog.cellsOf 27 = 1 := by kernel_rfl
  have u := Tryd.underlying27
  rw [e]
  simp only [Op.eqItems]
  go_simp
theorem wpList_load_rngG {w : World} {ops : Array Oper} {rest : List Oper} {op : Oper} {a : Act} {Q : Exit → Act → World → Prop} (hw : Region.wanted op (yielded ops a.tmps) = true) {ty : TypeId} (x : Operand) (ho : op.op = .load ty x) {b o : Nat} (hx : a.eval x = .pointer (some ⟨b, o, none⟩)) {vs : List Value} {d : TypeDesc} (hX : w.rangeAt b o vs)
    (hu : Tryd.prog.underlying ty = some d) (hd : d.isRow = true) (hi : (Tryd.prog.info? ty).map (·.size) = some vs.length) (h : wpList Tryd.prog ops Q rest (a.put op.dst (.agg vs.toArray)) w) : wpList Tryd.prog ops Q (op :: rest) a w :=
  wpList_valG hw (by
    unfold execOp
    have key := run_loadAt_mid (P := Tryd.prog) w b o ty vs _ hX hu hd hi
    simp only [ho, hx]
    simp [Sem.run_bind, key]) h
theorem Blk.sub8 {w : World} {b : Nat} {t : TypeId} {q0 q1 q2 q3 q4 q5 q6 q7 q8 q9 q10 q11 q12 q13 q14 q15 q16 q17 q18 q19 q20 q21 q22 : Value} (h : Blk w b t #[q0, q1, q2, q3, q4, q5, q6, q7, q8, q9, q10, q11, q12, q13, q14, q15, q16, q17, q18, q19, q20, q21, q22]) : w.rangeAt b 3 [q3, q4, q5, q6, q7, q8, q9, q10] := fun j v hv => by
  rw [h.cell]
  match j, hv with
  | 0, hv => cases hv; rfl
  | 1, hv => cases hv; rfl
  | 2, hv => cases hv; rfl
  | 3, hv => cases hv; rfl
  | 4, hv => cases hv; rfl
  | 5, hv => cases hv; rfl
  | 6, hv => cases hv; rfl
  | 7, hv => cases hv; rfl
  | n + 8, hv => simp at hv
theorem Blk.sub3 {w : World} {b : Nat} {t : TypeId} {q0 q1 q2 q3 q4 q5 q6 q7 q8 q9 q10 q11 q12 q13 q14 q15 q16 q17 q18 q19 q20 q21 q22 : Value} (h : Blk w b t #[q0, q1, q2, q3, q4, q5, q6, q7, q8, q9, q10, q11, q12, q13, q14, q15, q16, q17, q18, q19, q20, q21, q22]) : w.rangeAt b 20 [q20, q21, q22] := fun j v hv => by
  rw [h.cell]
  match j, hv with
  | 0, hv => cases hv; rfl
  | 1, hv => cases hv; rfl
  | 2, hv => cases hv; rfl
  | n + 3, hv => simp at hv
section
variable {w : World}
theorem info28 : (Tryd.prog.info? 28).map (·.size) = some 3 := by kernel_rfl
theorem neq_runW {x y : Operand} {q0 q1 q2 : Int} {tt : TypeId} (o : Oper) (ho : o.op = .binOp .neq 28 x y tt) (ρ : Operand → Value) (hx : ρ x = .agg #[.int .u32 q0, .int .u32 q1, .int .u32 q2]) (hy : ρ y = .agg #[.int .u32 q0, .int .u32 q1, .int .u32 q2]) (w : World) :
    (execOp ρ o).run Tryd.prog w = .ok (.value (.bool false)) w := by
  have key := eqWi q0 q1 q2 w
  obtain ⟨d, op, t, p, af, gd⟩ := o
  simp only at ho
  subst ho
  go_simp
set_option maxHeartbeats 8000000 in
set_option maxRecDepth 100000 in
theorem same25_true {sv ex ge : Bool} {sw cm us : List UInt8} {A0 A1 A2 A3 A4 A5 A6 A7 A8 A9 A10 : Option Addr} {n0 n1 n2 n3 n4 n5 n6 n7 c0 c1 c2 c3 c4 c5 c6 c7 c8 c9 c10 : Nat} {al : List (List UInt8)} {own lim peer q0 q1 q2 : Int} {gr : List (List UInt8 × Int)} {ky : List Int} {ls : List (List (List UInt8))} {D0 D1 D2 D3 D4 D5 D6 D7 D8 D9 D10 : Option Addr} {u0 u1 u2 u3 u4 u5 u6 u7 e0 e1 e2 e3 e4 e5 e6 e7 e8 e9 e10 : Nat} (hC : CfM w sw cm us [.slice A0 n0 c0, .slice A1 n1 c1, .slice A2 n2 c2, .slice A3 n3 c3, .slice A4 n4 c4, .slice A5 n5 c5, .slice A6 n6 c6, .slice A7 n7 c7] ls A8 c8 al A9 gr A10 ky) (hD : CfM w sw cm us [.slice D0 u0 e0, .slice D1 u1 e1, .slice D2 u2 e2, .slice D3 u3 e3, .slice D4 u4 e4, .slice D5 u5 e5, .slice D6 u6 e6, .slice D7 u7 e7] ls D8 e8 al D9 gr D10 ky) :
    Calls Tryd.prog 8 #[.agg #[.bool sv, .string (bs sw), .string (bs cm), .slice A0 n0 c0, .slice A1 n1 c1, .slice A2 n2 c2, .slice A3 n3 c3, .slice A4 n4 c4, .slice A5 n5 c5, .slice A6 n6 c6, .slice A7 n7 c7, .slice A8 al.length c8, .int .i64 own, .slice A9 gr.length c9, .int .i64 lim, .int .i64 peer, .string (bs us), .slice A10 ky.length c10, .bool ex, .bool ge, .int .u32 q0, .int .u32 q1, .int .u32 q2], .agg #[.bool sv, .string (bs sw), .string (bs cm), .slice D0 u0 e0, .slice D1 u1 e1, .slice D2 u2 e2, .slice D3 u3 e3, .slice D4 u4 e4, .slice D5 u5 e5, .slice D6 u6 e6, .slice D7 u7 e7, .slice D8 al.length e8, .int .i64 own, .slice D9 gr.length e9, .int .i64 lim, .int .i64 peer, .string (bs us), .slice D10 ky.length e10, .bool ex, .bool ge, .int .u32 q0, .int .u32 q1, .int .u32 q2]] w (fun o w' => o = .returned (.bool true) ∧ Below w.heap.size w w') := by
  obtain ⟨W0, hW0⟩ : ∃ W0, W0 = (w.alloc (.cells #[.bool sv, .string (bs sw), .string (bs cm), .slice A0 n0 c0, .slice A1 n1 c1, .slice A2 n2 c2, .slice A3 n3 c3, .slice A4 n4 c4, .slice A5 n5 c5, .slice A6 n6 c6, .slice A7 n7 c7, .slice A8 al.length c8, .int .i64 own, .slice A9 gr.length c9, .int .i64 lim, .int .i64 peer, .string (bs us), .slice A10 ky.length c10, .bool ex, .bool ge, .int .u32 q0, .int .u32 q1, .int .u32 q2] 30)).alloc (.cells #[.bool sv, .string (bs sw), .string (bs cm), .slice D0 u0 e0, .slice D1 u1 e1, .slice D2 u2 e2, .slice D3 u3 e3, .slice D4 u4 e4, .slice D5 u5 e5, .slice D6 u6 e6, .slice D7 u7 e7, .slice D8 al.length e8, .int .i64 own, .slice D9 gr.length e9, .int .i64 lim, .int .i64 peer, .string (bs us), .slice D10 ky.length e10, .bool ex, .bool ge, .int .u32 q0, .int .u32 q1, .int .u32 q2] 30) := ⟨_, rfl⟩
  have hb0 : Below w.heap.size w W0 := by rw [hW0]; (repeat (first | exact Below.refl _ _ | refine below_drewN ?_ _ | refine Below.drew ?_ | refine Below.alloc ?_ (by first | omega | (simp; done) | (simp; omega)) _ | refine Below.setCell ?_ (by first | omega | (simp; done) | (simp; omega)) _ | refine bel_alloc ?_ _ | refine bel_trans ?_ (by assumption) | refine Below.trans ?_ (Below.mono (by assumption) (by first | omega | (simp; done) | (simp; omega)))))
  have hX0 : Blk W0 w.heap.size 30 #[.bool sv, .string (bs sw), .string (bs cm), .slice A0 n0 c0, .slice A1 n1 c1, .slice A2 n2 c2, .slice A3 n3 c3, .slice A4 n4 c4, .slice A5 n5 c5, .slice A6 n6 c6, .slice A7 n7 c7, .slice A8 al.length c8, .int .i64 own, .slice A9 gr.length c9, .int .i64 lim, .int .i64 peer, .string (bs us), .slice A10 ky.length c10, .bool ex, .bool ge, .int .u32 q0, .int .u32 q1, .int .u32 q2] := by rw [hW0]; exact (Blk.new w _ _).alloc _
  have hR0 : Blk W0 (w.heap.size + 1) 30 #[.bool sv, .string (bs sw), .string (bs cm), .slice D0 u0 e0, .slice D1 u1 e1, .slice D2 u2 e2, .slice D3 u3 e3, .slice D4 u4 e4, .slice D5 u5 e5, .slice D6 u6 e6, .slice D7 u7 e7, .slice D8 al.length e8, .int .i64 own, .slice D9 gr.length e9, .int .i64 lim, .int .i64 peer, .string (bs us), .slice D10 ky.length e10, .bool ex, .bool ge, .int .u32 q0, .int .u32 q1, .int .u32 q2] := by rw [hW0]; exact blk_new2 w _ _ _
  have hC0 := hC.below hb0
  have hD0 := hD.below hb0
  have HX := hide (And.intro hb0 (And.intro hX0 hR0))
  have HP := hide (lsame15_any hC0.hl8.allS hD0.hl8.allS)
  have HAl := hide (fun (W : World) (hb : Below W0.heap.size W0 W) => same_any (hC0.hal.below hb) (hD0.hal.below hb) (by rw [List.length_map]; exact Nat.le_trans hC.all (by decide)) (by rw [List.length_map]; exact Nat.le_trans hC.all (by decide)))
  clear hb0 hX0 hR0 hC hD
  go_enter Tryd.func8, Tryd.ntmps8
  go_upto_region 1 with fail
  rw [← hW0]
  clear hW0
  refine wp_region_lit ?_
  refine wpList_val (v := .pointer (some ⟨w.heap.size, 0, none⟩)) (w' := W0) rfl (by go_simp) ?_
  try simp only [Act.put, List.setIfInBounds_toArray, List.set_cons_zero, List.set_cons_succ]
  refine wpList_val (v := .bool sv) (w' := W0) rfl (by have y := HX.out.2.1.cell 0; have z := HX.out.2.1.frozen 0; simp only [List.getElem?_toArray, List.getElem?_cons_zero, List.getElem?_cons_succ] at y; go_simp) ?_
  try simp only [Act.put, List.setIfInBounds_toArray, List.set_cons_zero, List.set_cons_succ]
  refine wpList_val (v := .pointer (some ⟨w.heap.size + 1, 0, none⟩)) (w' := W0) rfl (by go_simp) ?_
  try simp only [Act.put, List.setIfInBounds_toArray, List.set_cons_zero, List.set_cons_succ]
  refine wpList_val (v := .bool sv) (w' := W0) rfl (by have y := HX.out.2.2.cell 0; have z := HX.out.2.2.frozen 0; simp only [List.getElem?_toArray, List.getElem?_cons_zero, List.getElem?_cons_succ] at y; go_simp) ?_
  try simp only [Act.put, List.setIfInBounds_toArray, List.set_cons_zero, List.set_cons_succ]
  refine wpList_val (v := .bool false) (w' := W0) rfl (by have q : (sv != sv) = false := (by simp); go_simp) ?_
  try simp only [Act.put, List.setIfInBounds_toArray, List.set_cons_zero, List.set_cons_succ]
  refine wpList_val (v := .bool false) (w' := W0) rfl (by go_simp) ?_
  try simp only [Act.put, List.setIfInBounds_toArray, List.set_cons_zero, List.set_cons_succ]
  refine wpList_valG (v := .pointer (some ⟨w.heap.size, 1, none⟩)) (w' := W0) (by rfl) (by go_simp) ?_
  try simp only [Act.put, List.setIfInBounds_toArray, List.set_cons_zero, List.set_cons_succ]
  refine wpList_valG (v := .string (bs sw)) (w' := W0) (by rfl) (by have y := HX.out.2.1.cell 1; have z := HX.out.2.1.frozen 1; simp only [List.getElem?_toArray, List.getElem?_cons_zero, List.getElem?_cons_succ] at y; go_simp) ?_
  try simp only [Act.put, List.setIfInBounds_toArray, List.set_cons_zero, List.set_cons_succ]
  refine wpList_valG (v := .pointer (some ⟨w.heap.size + 1, 1, none⟩)) (w' := W0) (by rfl) (by go_simp) ?_
  try simp only [Act.put, List.setIfInBounds_toArray, List.set_cons_zero, List.set_cons_succ]
  refine wpList_valG (v := .string (bs sw)) (w' := W0) (by rfl) (by have y := HX.out.2.2.cell 1; have z := HX.out.2.2.frozen 1; simp only [List.getElem?_toArray, List.getElem?_cons_zero, List.getElem?_cons_succ] at y; go_simp) ?_
  try simp only [Act.put, List.setIfInBounds_toArray, List.set_cons_zero, List.set_cons_succ]
  refine wpList_valG (v := .bool false) (w' := W0) (by rfl) (by have q : ((bs sw).toList != (bs sw).toList) = false := (by simp); go_simp) ?_
  try simp only [Act.put, List.setIfInBounds_toArray, List.set_cons_zero, List.set_cons_succ]
  refine wpList_val (v := .bool false) (w' := W0) rfl (by go_simp) ?_
  try simp only [Act.put, List.setIfInBounds_toArray, List.set_cons_zero, List.set_cons_succ]
  refine wpList_val (v := .bool false) (w' := W0) rfl (by go_simp) ?_
  try simp only [Act.put, List.setIfInBounds_toArray, List.set_cons_zero, List.set_cons_succ]
  refine wpList_valG (v := .pointer (some ⟨w.heap.size, 2, none⟩)) (w' := W0) (by rfl) (by go_simp) ?_
  try simp only [Act.put, List.setIfInBounds_toArray, List.set_cons_zero, List.set_cons_succ]
  refine wpList_valG (v := .string (bs cm)) (w' := W0) (by rfl) (by have y := HX.out.2.1.cell 2; have z := HX.out.2.1.frozen 2; simp only [List.getElem?_toArray, List.getElem?_cons_zero, List.getElem?_cons_succ] at y; go_simp) ?_
  try simp only [Act.put, List.setIfInBounds_toArray, List.set_cons_zero, List.set_cons_succ]
  refine wpList_valG (v := .pointer (some ⟨w.heap.size + 1, 2, none⟩)) (w' := W0) (by rfl) (by go_simp) ?_
  try simp only [Act.put, List.setIfInBounds_toArray, List.set_cons_zero, List.set_cons_succ]
  refine wpList_valG (v := .string (bs cm)) (w' := W0) (by rfl) (by have y := HX.out.2.2.cell 2; have z := HX.out.2.2.frozen 2; simp only [List.getElem?_toArray, List.getElem?_cons_zero, List.getElem?_cons_succ] at y; go_simp) ?_
  try simp only [Act.put, List.setIfInBounds_toArray, List.set_cons_zero, List.set_cons_succ]
  refine wpList_valG (v := .bool false) (w' := W0) (by rfl) (by have q : ((bs cm).toList != (bs cm).toList) = false := (by simp); go_simp) ?_
  try simp only [Act.put, List.setIfInBounds_toArray, List.set_cons_zero, List.set_cons_succ]
  refine wpList_val (v := .bool false) (w' := W0) rfl (by go_simp) ?_
  try simp only [Act.put, List.setIfInBounds_toArray, List.set_cons_zero, List.set_cons_succ]
  refine wpList_val (v := .bool false) (w' := W0) rfl (by go_simp) ?_
  try simp only [Act.put, List.setIfInBounds_toArray, List.set_cons_zero, List.set_cons_succ]
  refine wpList_valG (v := .pointer (some ⟨w.heap.size, 12, none⟩)) (w' := W0) (by rfl) (by go_simp) ?_
  try simp only [Act.put, List.setIfInBounds_toArray, List.set_cons_zero, List.set_cons_succ]
  refine wpList_valG (v := .int .i64 own) (w' := W0) (by rfl) (by have y := HX.out.2.1.cell 12; have z := HX.out.2.1.frozen 12; simp only [List.getElem?_toArray, List.getElem?_cons_zero, List.getElem?_cons_succ] at y; go_simp) ?_
  try simp only [Act.put, List.setIfInBounds_toArray, List.set_cons_zero, List.set_cons_succ]
  refine wpList_valG (v := .pointer (some ⟨w.heap.size + 1, 12, none⟩)) (w' := W0) (by rfl) (by go_simp) ?_
  try simp only [Act.put, List.setIfInBounds_toArray, List.set_cons_zero, List.set_cons_succ]
  refine wpList_valG (v := .int .i64 own) (w' := W0) (by rfl) (by have y := HX.out.2.2.cell 12; have z := HX.out.2.2.frozen 12; simp only [List.getElem?_toArray, List.getElem?_cons_zero, List.getElem?_cons_succ] at y; go_simp) ?_
  try simp only [Act.put, List.setIfInBounds_toArray, List.set_cons_zero, List.set_cons_succ]
  refine wpList_valG (v := .bool false) (w' := W0) (by rfl) (by have q : (own != own) = false := (by simp); go_simp) ?_
  try simp only [Act.put, List.setIfInBounds_toArray, List.set_cons_zero, List.set_cons_succ]
  refine wpList_val (v := .bool false) (w' := W0) rfl (by go_simp) ?_
  try simp only [Act.put, List.setIfInBounds_toArray, List.set_cons_zero, List.set_cons_succ]
  refine wpList_val (v := .bool false) (w' := W0) rfl (by go_simp) ?_
  try simp only [Act.put, List.setIfInBounds_toArray, List.set_cons_zero, List.set_cons_succ]
  refine wpList_valG (v := .pointer (some ⟨w.heap.size, 14, none⟩)) (w' := W0) (by rfl) (by go_simp) ?_
  try simp only [Act.put, List.setIfInBounds_toArray, List.set_cons_zero, List.set_cons_succ]
  refine wpList_valG (v := .int .i64 lim) (w' := W0) (by rfl) (by have y := HX.out.2.1.cell 14; have z := HX.out.2.1.frozen 14; simp only [List.getElem?_toArray, List.getElem?_cons_zero, List.getElem?_cons_succ] at y; go_simp) ?_
  try simp only [Act.put, List.setIfInBounds_toArray, List.set_cons_zero, List.set_cons_succ]
  refine wpList_valG (v := .pointer (some ⟨w.heap.size + 1, 14, none⟩)) (w' := W0) (by rfl) (by go_simp) ?_
  try simp only [Act.put, List.setIfInBounds_toArray, List.set_cons_zero, List.set_cons_succ]
  refine wpList_valG (v := .int .i64 lim) (w' := W0) (by rfl) (by have y := HX.out.2.2.cell 14; have z := HX.out.2.2.frozen 14; simp only [List.getElem?_toArray, List.getElem?_cons_zero, List.getElem?_cons_succ] at y; go_simp) ?_
  try simp only [Act.put, List.setIfInBounds_toArray, List.set_cons_zero, List.set_cons_succ]
  refine wpList_valG (v := .bool false) (w' := W0) (by rfl) (by have q : (lim != lim) = false := (by simp); go_simp) ?_
  try simp only [Act.put, List.setIfInBounds_toArray, List.set_cons_zero, List.set_cons_succ]
  refine wpList_val (v := .bool false) (w' := W0) rfl (by go_simp) ?_
  try simp only [Act.put, List.setIfInBounds_toArray, List.set_cons_zero, List.set_cons_succ]
  refine wpList_val (v := .bool false) (w' := W0) rfl (by go_simp) ?_
  try simp only [Act.put, List.setIfInBounds_toArray, List.set_cons_zero, List.set_cons_succ]
  refine wpList_valG (v := .pointer (some ⟨w.heap.size, 15, none⟩)) (w' := W0) (by rfl) (by go_simp) ?_
  try simp only [Act.put, List.setIfInBounds_toArray, List.set_cons_zero, List.set_cons_succ]
  refine wpList_valG (v := .int .i64 peer) (w' := W0) (by rfl) (by have y := HX.out.2.1.cell 15; have z := HX.out.2.1.frozen 15; simp only [List.getElem?_toArray, List.getElem?_cons_zero, List.getElem?_cons_succ] at y; go_simp) ?_
  try simp only [Act.put, List.setIfInBounds_toArray, List.set_cons_zero, List.set_cons_succ]
  refine wpList_valG (v := .pointer (some ⟨w.heap.size + 1, 15, none⟩)) (w' := W0) (by rfl) (by go_simp) ?_
  try simp only [Act.put, List.setIfInBounds_toArray, List.set_cons_zero, List.set_cons_succ]
  refine wpList_valG (v := .int .i64 peer) (w' := W0) (by rfl) (by have y := HX.out.2.2.cell 15; have z := HX.out.2.2.frozen 15; simp only [List.getElem?_toArray, List.getElem?_cons_zero, List.getElem?_cons_succ] at y; go_simp) ?_
  try simp only [Act.put, List.setIfInBounds_toArray, List.set_cons_zero, List.set_cons_succ]
  refine wpList_valG (v := .bool false) (w' := W0) (by rfl) (by have q : (peer != peer) = false := (by simp); go_simp) ?_
  try simp only [Act.put, List.setIfInBounds_toArray, List.set_cons_zero, List.set_cons_succ]
  refine wpList_val (v := .bool false) (w' := W0) rfl (by go_simp) ?_
  try simp only [Act.put, List.setIfInBounds_toArray, List.set_cons_zero, List.set_cons_succ]
  refine wpList_val (v := .bool false) (w' := W0) rfl (by go_simp) ?_
  try simp only [Act.put, List.setIfInBounds_toArray, List.set_cons_zero, List.set_cons_succ]
  refine wpList_valG (v := .pointer (some ⟨w.heap.size, 16, none⟩)) (w' := W0) (by rfl) (by go_simp) ?_
  try simp only [Act.put, List.setIfInBounds_toArray, List.set_cons_zero, List.set_cons_succ]
  refine wpList_valG (v := .string (bs us)) (w' := W0) (by rfl) (by have y := HX.out.2.1.cell 16; have z := HX.out.2.1.frozen 16; simp only [List.getElem?_toArray, List.getElem?_cons_zero, List.getElem?_cons_succ] at y; go_simp) ?_
  try simp only [Act.put, List.setIfInBounds_toArray, List.set_cons_zero, List.set_cons_succ]
  refine wpList_valG (v := .pointer (some ⟨w.heap.size + 1, 16, none⟩)) (w' := W0) (by rfl) (by go_simp) ?_
  try simp only [Act.put, List.setIfInBounds_toArray, List.set_cons_zero, List.set_cons_succ]
  refine wpList_valG (v := .string (bs us)) (w' := W0) (by rfl) (by have y := HX.out.2.2.cell 16; have z := HX.out.2.2.frozen 16; simp only [List.getElem?_toArray, List.getElem?_cons_zero, List.getElem?_cons_succ] at y; go_simp) ?_
  try simp only [Act.put, List.setIfInBounds_toArray, List.set_cons_zero, List.set_cons_succ]
  refine wpList_valG (v := .bool false) (w' := W0) (by rfl) (by have q : ((bs us).toList != (bs us).toList) = false := (by simp); go_simp) ?_
  try simp only [Act.put, List.setIfInBounds_toArray, List.set_cons_zero, List.set_cons_succ]
  refine wpList_val (v := .bool false) (w' := W0) rfl (by go_simp) ?_
  try simp only [Act.put, List.setIfInBounds_toArray, List.set_cons_zero, List.set_cons_succ]
  refine wpList_val (v := .bool false) (w' := W0) rfl (by go_simp) ?_
  try simp only [Act.put, List.setIfInBounds_toArray, List.set_cons_zero, List.set_cons_succ]
  refine wpList_valG (v := .pointer (some ⟨w.heap.size, 18, none⟩)) (w' := W0) (by rfl) (by go_simp) ?_
  try simp only [Act.put, List.setIfInBounds_toArray, List.set_cons_zero, List.set_cons_succ]
  refine wpList_valG (v := .bool ex) (w' := W0) (by rfl) (by have y := HX.out.2.1.cell 18; have z := HX.out.2.1.frozen 18; simp only [List.getElem?_toArray, List.getElem?_cons_zero, List.getElem?_cons_succ] at y; go_simp) ?_
  try simp only [Act.put, List.setIfInBounds_toArray, List.set_cons_zero, List.set_cons_succ]
  refine wpList_valG (v := .pointer (some ⟨w.heap.size + 1, 18, none⟩)) (w' := W0) (by rfl) (by go_simp) ?_
  try simp only [Act.put, List.setIfInBounds_toArray, List.set_cons_zero, List.set_cons_succ]
  refine wpList_valG (v := .bool ex) (w' := W0) (by rfl) (by have y := HX.out.2.2.cell 18; have z := HX.out.2.2.frozen 18; simp only [List.getElem?_toArray, List.getElem?_cons_zero, List.getElem?_cons_succ] at y; go_simp) ?_
  try simp only [Act.put, List.setIfInBounds_toArray, List.set_cons_zero, List.set_cons_succ]
  refine wpList_valG (v := .bool false) (w' := W0) (by rfl) (by have q : (ex != ex) = false := (by simp); go_simp) ?_
  try simp only [Act.put, List.setIfInBounds_toArray, List.set_cons_zero, List.set_cons_succ]
  refine wpList_val (v := .bool false) (w' := W0) rfl (by go_simp) ?_
  try simp only [Act.put, List.setIfInBounds_toArray, List.set_cons_zero, List.set_cons_succ]
  refine wpList_val (v := .bool false) (w' := W0) rfl (by go_simp) ?_
  try simp only [Act.put, List.setIfInBounds_toArray, List.set_cons_zero, List.set_cons_succ]
  refine wpList_valG (v := .pointer (some ⟨w.heap.size, 19, none⟩)) (w' := W0) (by rfl) (by go_simp) ?_
  try simp only [Act.put, List.setIfInBounds_toArray, List.set_cons_zero, List.set_cons_succ]
  refine wpList_valG (v := .bool ge) (w' := W0) (by rfl) (by have y := HX.out.2.1.cell 19; have z := HX.out.2.1.frozen 19; simp only [List.getElem?_toArray, List.getElem?_cons_zero, List.getElem?_cons_succ] at y; go_simp) ?_
  try simp only [Act.put, List.setIfInBounds_toArray, List.set_cons_zero, List.set_cons_succ]
  refine wpList_valG (v := .pointer (some ⟨w.heap.size + 1, 19, none⟩)) (w' := W0) (by rfl) (by go_simp) ?_
  try simp only [Act.put, List.setIfInBounds_toArray, List.set_cons_zero, List.set_cons_succ]
  refine wpList_valG (v := .bool ge) (w' := W0) (by rfl) (by have y := HX.out.2.2.cell 19; have z := HX.out.2.2.frozen 19; simp only [List.getElem?_toArray, List.getElem?_cons_zero, List.getElem?_cons_succ] at y; go_simp) ?_
  try simp only [Act.put, List.setIfInBounds_toArray, List.set_cons_zero, List.set_cons_succ]
  refine wpList_valG (v := .bool false) (w' := W0) (by rfl) (by have q : (ge != ge) = false := (by simp); go_simp) ?_
  try simp only [Act.put, List.setIfInBounds_toArray, List.set_cons_zero, List.set_cons_succ]
  refine wpList_val (v := .bool false) (w' := W0) rfl (by go_simp) ?_
  try simp only [Act.put, List.setIfInBounds_toArray, List.set_cons_zero, List.set_cons_succ]
  refine wpList_val (v := .bool false) (w' := W0) rfl (by go_simp) ?_
  try simp only [Act.put, List.setIfInBounds_toArray, List.set_cons_zero, List.set_cons_succ]
  refine wpList_valG (v := .pointer (some ⟨w.heap.size, 20, none⟩)) (w' := W0) (by rfl) (by go_simp) ?_
  try simp only [Act.put, List.setIfInBounds_toArray, List.set_cons_zero, List.set_cons_succ]
  refine wpList_load_rngG (by rfl) (.tmp 69) rfl (by rfl) (vs := [.int .u32 q0, .int .u32 q1, .int .u32 q2]) HX.out.2.1.sub3 Tryd.underlying28 rfl info28 ?_
  try simp only [Act.put, List.setIfInBounds_toArray, List.set_cons_zero, List.set_cons_succ]
  refine wpList_valG (v := .pointer (some ⟨w.heap.size + 1, 20, none⟩)) (w' := W0) (by rfl) (by go_simp) ?_
  try simp only [Act.put, List.setIfInBounds_toArray, List.set_cons_zero, List.set_cons_succ]
  refine wpList_load_rngG (by rfl) (.tmp 71) rfl (by rfl) (vs := [.int .u32 q0, .int .u32 q1, .int .u32 q2]) HX.out.2.2.sub3 Tryd.underlying28 rfl info28 ?_
  try simp only [Act.put, List.setIfInBounds_toArray, List.set_cons_zero, List.set_cons_succ]
  refine wpList_valG (v := .bool false) (w' := W0) (by rfl) (neq_runW _ rfl _ (by rfl) (by rfl) _) ?_
  try simp only [Act.put, List.setIfInBounds_toArray, List.set_cons_zero, List.set_cons_succ]
  refine wpList_val (v := .bool false) (w' := W0) rfl (by go_simp) ?_
  try simp only [Act.put, List.setIfInBounds_toArray, List.set_cons_zero, List.set_cons_succ]
  go_upto_region 3 with fail
  refine wp_region_lit ?_
  refine wpList_val (v := .pointer (some ⟨w.heap.size, 3, none⟩)) (w' := W0) rfl (by go_simp) ?_
  try simp only [Act.put, List.setIfInBounds_toArray, List.set_cons_zero, List.set_cons_succ]
  refine wpList_load_rngG (by rfl) (.tmp 75) rfl (by rfl) (vs := [.slice A0 n0 c0, .slice A1 n1 c1, .slice A2 n2 c2, .slice A3 n3 c3, .slice A4 n4 c4, .slice A5 n5 c5, .slice A6 n6 c6, .slice A7 n7 c7]) HX.out.2.1.sub8 Tryd.underlying24 rfl infoP8 ?_
  try simp only [Act.put, List.setIfInBounds_toArray, List.set_cons_zero, List.set_cons_succ]
  refine wpList_val (v := .pointer (some ⟨w.heap.size + 1, 3, none⟩)) (w' := W0) rfl (by go_simp) ?_
  try simp only [Act.put, List.setIfInBounds_toArray, List.set_cons_zero, List.set_cons_succ]
  refine wpList_load_rngG (by rfl) (.tmp 77) rfl (by rfl) (vs := [.slice D0 u0 e0, .slice D1 u1 e1, .slice D2 u2 e2, .slice D3 u3 e3, .slice D4 u4 e4, .slice D5 u5 e5, .slice D6 u6 e6, .slice D7 u7 e7]) HX.out.2.2.sub8 Tryd.underlying24 rfl infoP8 ?_
  try simp only [Act.put, List.setIfInBounds_toArray, List.set_cons_zero, List.set_cons_succ]
  refine wpList_call_ rfl (by go_simp) (HP.out) ?_
  rintro o w2 ⟨rfl, hbw2⟩
  rw [decide_eq_true rfl]
  refine ⟨_, rfl, ?_⟩
  try simp only [Act.put, List.setIfInBounds_toArray, List.set_cons_zero, List.set_cons_succ]
  have HX2 := hide (And.intro (HX.out.2.1.below hbw2 HX.out.2.1.lt) (HX.out.2.2.below hbw2 HX.out.2.2.lt))
  refine wpList_val (v := .bool false) (w' := w2) rfl (by go_simp) ?_
  try simp only [Act.put, List.setIfInBounds_toArray, List.set_cons_zero, List.set_cons_succ]
  refine wpList_val (v := .bool false) (w' := w2) rfl (by go_simp) ?_
  try simp only [Act.put, List.setIfInBounds_toArray, List.set_cons_zero, List.set_cons_succ]
  refine wpList_valG (v := .pointer (some ⟨w.heap.size, 11, none⟩)) (w' := w2) (by rfl) (by go_simp) ?_
  try simp only [Act.put, List.setIfInBounds_toArray, List.set_cons_zero, List.set_cons_succ]
  refine wpList_valG (v := .slice A8 al.length c8) (w' := w2) (by rfl) (by have y := HX2.out.1.cell 11; have z := HX2.out.1.frozen 11; simp only [List.getElem?_toArray, List.getElem?_cons_zero, List.getElem?_cons_succ] at y; go_simp) ?_
  try simp only [Act.put, List.setIfInBounds_toArray, List.set_cons_zero, List.set_cons_succ]
  refine wpList_valG (v := .pointer (some ⟨w.heap.size + 1, 11, none⟩)) (w' := w2) (by rfl) (by go_simp) ?_
  try simp only [Act.put, List.setIfInBounds_toArray, List.set_cons_zero, List.set_cons_succ]
  refine wpList_valG (v := .slice D8 al.length e8) (w' := w2) (by rfl) (by have y := HX2.out.2.cell 11; have z := HX2.out.2.frozen 11; simp only [List.getElem?_toArray, List.getElem?_cons_zero, List.getElem?_cons_succ] at y; go_simp) ?_
  try simp only [Act.put, List.setIfInBounds_toArray, List.set_cons_zero, List.set_cons_succ]
  refine wpList_callG (by rfl) (by go_simp) (HAl.out _ hbw2) ?_
  rintro o w3 ⟨rfl, hbw3⟩
  rw [decide_eq_true rfl]
  refine ⟨_, rfl, ?_⟩
  try simp only [Act.put, List.setIfInBounds_toArray, List.set_cons_zero, List.set_cons_succ]
  have HX3 := hide (And.intro (HX2.out.1.below hbw3 HX2.out.1.lt) (HX2.out.2.below hbw3 HX2.out.2.lt))
  refine wpList_valG (v := .bool false) (w' := w3) (by rfl) (by go_simp) ?_
  try simp only [Act.put, List.setIfInBounds_toArray, List.set_cons_zero, List.set_cons_succ]
  refine wpList_val (v := .bool false) (w' := w3) rfl (by go_simp) ?_
  try simp only [Act.put, List.setIfInBounds_toArray, List.set_cons_zero, List.set_cons_succ]
  refine wpList_val (v := .bool false) (w' := w3) rfl (by go_simp) ?_
  try simp only [Act.put, List.setIfInBounds_toArray, List.set_cons_zero, List.set_cons_succ]
  refine wpList_valG (v := .pointer (some ⟨w.heap.size, 13, none⟩)) (w' := w3) (by rfl) (by go_simp) ?_
  try simp only [Act.put, List.setIfInBounds_toArray, List.set_cons_zero, List.set_cons_succ]
  refine wpList_valG (v := .slice A9 gr.length c9) (w' := w3) (by rfl) (by have y := HX3.out.1.cell 13; have z := HX3.out.1.frozen 13; simp only [List.getElem?_toArray, List.getElem?_cons_zero, List.getElem?_cons_succ] at y; go_simp) ?_
  try simp only [Act.put, List.setIfInBounds_toArray, List.set_cons_zero, List.set_cons_succ]
  refine wpList_valG (v := .int .i64 gr.length) (w' := w3) (by rfl) (by go_simp) ?_
  try simp only [Act.put, List.setIfInBounds_toArray, List.set_cons_zero, List.set_cons_succ]
  refine wpList_valG (v := .pointer (some ⟨w.heap.size + 1, 13, none⟩)) (w' := w3) (by rfl) (by go_simp) ?_
  try simp only [Act.put, List.setIfInBounds_toArray, List.set_cons_zero, List.set_cons_succ]
  refine wpList_valG (v := .slice D9 gr.length e9) (w' := w3) (by rfl) (by have y := HX3.out.2.cell 13; have z := HX3.out.2.frozen 13; simp only [List.getElem?_toArray, List.getElem?_cons_zero, List.getElem?_cons_succ] at y; go_simp) ?_
  try simp only [Act.put, List.setIfInBounds_toArray, List.set_cons_zero, List.set_cons_succ]
  refine wpList_valG (v := .int .i64 gr.length) (w' := w3) (by rfl) (by go_simp) ?_
  try simp only [Act.put, List.setIfInBounds_toArray, List.set_cons_zero, List.set_cons_succ]
  refine wpList_valG (v := .bool false) (w' := w3) (by rfl) (by have q : (((gr.length : Nat) : Int) != ((gr.length : Nat) : Int)) = false := (by simp); go_simp) ?_
  try simp only [Act.put, List.setIfInBounds_toArray, List.set_cons_zero, List.set_cons_succ]
  refine wpList_val (v := .bool false) (w' := w3) rfl (by go_simp) ?_
  try simp only [Act.put, List.setIfInBounds_toArray, List.set_cons_zero, List.set_cons_succ]
  refine wpList_val (v := .bool false) (w' := w3) rfl (by go_simp) ?_
  try simp only [Act.put, List.setIfInBounds_toArray, List.set_cons_zero, List.set_cons_succ]
  refine wpList_valG (v := .pointer (some ⟨w.heap.size, 17, none⟩)) (w' := w3) (by rfl) (by go_simp) ?_
  try simp only [Act.put, List.setIfInBounds_toArray, List.set_cons_zero, List.set_cons_succ]
  refine wpList_valG (v := .slice A10 ky.length c10) (w' := w3) (by rfl) (by have y := HX3.out.1.cell 17; have z := HX3.out.1.frozen 17; simp only [List.getElem?_toArray, List.getElem?_cons_zero, List.getElem?_cons_succ] at y; go_simp) ?_
  try simp only [Act.put, List.setIfInBounds_toArray, List.set_cons_zero, List.set_cons_succ]
  refine wpList_valG (v := .int .i64 ky.length) (w' := w3) (by rfl) (by go_simp) ?_
  try simp only [Act.put, List.setIfInBounds_toArray, List.set_cons_zero, List.set_cons_succ]
  refine wpList_valG (v := .pointer (some ⟨w.heap.size + 1, 17, none⟩)) (w' := w3) (by rfl) (by go_simp) ?_
  try simp only [Act.put, List.setIfInBounds_toArray, List.set_cons_zero, List.set_cons_succ]
  refine wpList_valG (v := .slice D10 ky.length e10) (w' := w3) (by rfl) (by have y := HX3.out.2.cell 17; have z := HX3.out.2.frozen 17; simp only [List.getElem?_toArray, List.getElem?_cons_zero, List.getElem?_cons_succ] at y; go_simp) ?_
  try simp only [Act.put, List.setIfInBounds_toArray, List.set_cons_zero, List.set_cons_succ]
  refine wpList_valG (v := .int .i64 ky.length) (w' := w3) (by rfl) (by go_simp) ?_
  try simp only [Act.put, List.setIfInBounds_toArray, List.set_cons_zero, List.set_cons_succ]
  refine wpList_valG (v := .bool false) (w' := w3) (by rfl) (by have q : (((ky.length : Nat) : Int) != ((ky.length : Nat) : Int)) = false := (by simp); go_simp) ?_
  try simp only [Act.put, List.setIfInBounds_toArray, List.set_cons_zero, List.set_cons_succ]
  refine wpList_val (v := .bool false) (w' := w3) rfl (by go_simp) ?_
  try simp only [Act.put, List.setIfInBounds_toArray, List.set_cons_zero, List.set_cons_succ]
  go_upto_region 5 with fail
  have hbA := hbw2.trans (hbw3.mono hbw2.size)
  have y1 := HX3.out.1.cell 13
  have y2 := HX3.out.2.cell 13
  have y3 := HX3.out.1.cell 17
  have y4 := HX3.out.2.cell 17
  simp only [List.getElem?_toArray, List.getElem?_cons_zero, List.getElem?_cons_succ] at y1 y2 y3 y4
  have HG1 := hide (hC0.hgr.below hbA)
  have HG2 := hide (hD0.hgr.below hbA)
  have HY1 := hide (hC0.hky.below hbA)
  have HY2 := hide (hD0.hky.below hbA)
  have hgl := hC0.grl
  have hkl := hC0.kyl
  have HBel := hide (HX.out.1.trans (hbA.mono HX.out.1.size))
  clear HX HX2 HX3 hbw2 hbw3 hbA hC0 hD0 HP HAl
  obtain ⟨b1, hb1⟩ : ∃ b, b = w.heap.size := ⟨_, rfl⟩
  obtain ⟨b2, hb2⟩ : ∃ b, b = w.heap.size + 1 := ⟨_, rfl⟩
  rw [← hb1] at y1 y2 y3 y4 hb2 ⊢
  rw [← hb2] at y2 y4 ⊢
  clear hb1 hb2
  go_wp2_with fail
  go_loopw [5] (fun i wr => ∃ k n : Nat, k ≤ gr.length ∧ i = .int .i64 k ∧ wr = w3.drewN n) (fun i _ => gr.length - (intOf i).toNat)
  case atStart => exact ⟨0, 0, Nat.zero_le _, rfl, rfl⟩
  case round =>
    obtain ⟨k, n, hk, rfl, rfl⟩ := hrel
    by_cases hlt : k < gr.length
    · obtain ⟨ad, rfl, hlo, x1, x2⟩ := HG1.out k hlt
      obtain ⟨ad', rfl, hlo', x3, x4⟩ := HG2.out k hlt
      have E := hide (neqGr (bs gr[k].1) gr[k].2)
      generalize hgk : gr[k] = gk at x1 x2 x3 x4 E
      obtain ⟨g1, g2⟩ := gk
      simp only at x1 x2 x3 x4 E
      have hE := E.out
      clear hgk E
      go_wp2_with fail
      go_quiet (fail)
      go_wp2_with fail
      go_roundw
      case rel => exact ⟨k + 1, _, hlt, by go_num, rfl⟩
      case measure => simp [intOf]; omega
    · go_wp2_with fail
      go_loopw [6] (fun i wr => ∃ k n : Nat, k ≤ ky.length ∧ i = .int .i64 k ∧ wr = w3.drewN n) (fun i _ => ky.length - (intOf i).toNat)
      case atStart => exact ⟨0, n, Nat.zero_le _, rfl, rfl⟩
      case round =>
        obtain ⟨k2, n2, hk2, rfl, rfl⟩ := hrel
        by_cases hlt2 : k2 < ky.length
        · obtain ⟨ad, rfl, hlo, x1⟩ := HY1.out k2 hlt2
          obtain ⟨ad', rfl, hlo', x3⟩ := HY2.out k2 hlt2
          generalize ky[k2] = kk at x1 x3
          have hq : (kk != kk) = false := by simp
          go_wp2_with fail
          go_quiet (fail)
          go_wp2_with fail
          go_roundw
          case rel => exact ⟨k2 + 1, _, hlt2, by go_num, rfl⟩
          case measure => simp [intOf]; omega
        · go_wp2_with fail
          go_ret
          exact ⟨rfl, below_drewN HBel.out _⟩
end
end Go.Proofs.YtjaipdenahlheaaDoor
