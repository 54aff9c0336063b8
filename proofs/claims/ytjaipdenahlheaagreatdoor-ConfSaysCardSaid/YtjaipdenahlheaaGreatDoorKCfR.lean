/-
  The contract of conf.Init. Conditions: lists of at most 1,000,000 texts.
-/
import Derived.Test.YtjaipdenahlheaaGreatDoorKCfQ
import Derived.Test.YtjaipdenahlheaaGreatDoorKDigits
set_option linter.unusedVariables false
set_option linter.unusedSimpArgs false
namespace Go.Proofs.YtjaipdenahlheaaGreatDoor
open Go.RowKit Go.ChangeShapes Go.WideShapes Go.Sort
theorem step_callN {P : Program} {Q : Exit → Act → World → Prop} {ops : Array Oper} {o : Oper} {a : Act} {w : World} {args : Array Value} {f : FuncId} {K : Act → World → Prop} {F : Prop} (hgd : o.guard = none)
    (hr : (execOp a.eval o).run P w = .ok (.enter f args) w) {post : Ending → World → Prop} (hc : Calls P f args w post) (h : ∀ e w', post e w' → ∃ r, e = .returned r ∧ K (a.put o.dst r) w') : if Region.wanted o (yielded ops a.tmps) = true then Oper.wp P o a w K Q else F := by
  rw [if_pos (by simp [Region.wanted, hgd])]
  unfold Oper.wp
  rw [hr, Oper.upon_enter]
  refine hc.mono fun e w' hp => ?_
  obtain ⟨r, rfl, hk⟩ := h e w' hp
  exact hk
theorem step_store_mid {Q : Exit → Act → World → Prop} {ops : Array Oper} {op : Oper} {a : Act} {w : World} {K : Act → World → Prop} {F : Prop} (hgd : op.guard = none) (ty : TypeId) (x y : Operand) (ho : op.op = .store ty x y)
    (b o : Nat) (cells : Array Value) (hx : a.eval x = .pointer (some ⟨b, o, none⟩)) (hy : a.eval y = .agg cells) (ht : w.there b o cells.size) (hi : (Tryz.prog.info? ty).map (·.size) = some cells.size) (h1 : cells.all (·.oneCell') = true)
    (h : K (a.put op.dst undef) (w.setCells b o cells.toList)) : if Region.wanted op (yielded ops a.tmps) = true then Oper.wp Tryz.prog op a w K Q else F := by
  rw [if_pos (by simp [Region.wanted, hgd])]
  exact wp_store_mid ty x y ho b o cells hx hy ht hi h1 h
theorem load_confR {w : World} {x : Operand} (o : Oper) (ho : o.op = .load 30 x) (ρ : Operand → Value) {b : Nat} (hx : ρ x = .pointer (some ⟨b, 0, none⟩)) {cv : Array Value} (hX : Blk w b 30 cv) (hl : cv.toList.length = 23) :
    (execOp ρ o).run Tryz.prog w = .ok (.value (.agg cv)) w := by
  unfold execOp
  have key := run_loadAt_mid (P := Tryz.prog) w b 0 30 cv.toList _ (rangeC (by rw [Array.toArray_toList]; exact hX)) Tryz.underlying30 rfl (by rw [hl]; exact infoConf)
  rw [Array.toArray_toList] at key
  simp only [ho, hx]
  simp [Sem.run_bind, key]
theorem callCk {x y : Operand} {u v : Value} {ts : Array TypeId} (o : Oper) (ho : o.op = .call { callee := .value (.func 37), args := #[x, y], argTypes := ts }) (a : Act) (hx : a.eval x = u) (hy : a.eval y = v) (w : World) : (execOp a.eval o).run Tryz.prog w = .ok (.enter 37 #[u, v]) w := by
  obtain ⟨d, op, t, p, af, gd⟩ := o
  simp only at ho
  subst ho
  have h1 : a.eval (.func 37) = .func (.func 37) #[] #[] := rfl
  subst hx
  subst hy
  go_simp
theorem callCp {x : Operand} {u : Value} {ts : Array TypeId} (o : Oper) (ho : o.op = .call { callee := .value (.func 58), args := #[x], argTypes := ts }) (a : Act) (hx : a.eval x = u) (w : World) : (execOp a.eval o).run Tryz.prog w = .ok (.enter 58 #[u]) w := by
  obtain ⟨d, op, t, p, af, gd⟩ := o
  simp only at ho
  subst ho
  have h1 : a.eval (.func 58) = .func (.func 58) #[] #[] := rfl
  subst hx
  go_simp
@[go_sem] theorem confField3 (v0 v1 v2 v3 v4 v5 v6 v7 v8 v9 v10 v11 v12 v13 v14 v15 v16 v17 v18 v19 v20 v21 v22 : Value) (w : World) : (Instr.field 30 (.agg #[v0, v1, v2, v3, v4, v5, v6, v7, v8, v9, v10, v11, v12, v13, v14, v15, v16, v17, v18, v19, v20, v21, v22]) 3).run Tryz.prog w = .ok (.agg #[v3, v4, v5, v6, v7, v8, v9, v10]) w := by kernel_rfl
theorem infoInit16 : (Tryz.prog.info? 45).map (·.size) = some 16 := by kernel_rfl
theorem results_init {w : World} {fn : Func} {t : Tmp} (h : fn.results = #[.cell t 45]) {tmps : Array Value} {b : Nat} (ht : tmps.getD t undef = .pointer (some ⟨b, 0, none⟩)) {cs : Array Value} (hX : Blk w b 45 cs) (hl : cs.toList.length = 16) :
    (results fn tmps).run Tryz.prog w = .ok (.agg cs) w := by
  have := results_cell1 h ht (cs := cs.toList) (by rw [Array.toArray_toList]; exact hX) Tryz.underlying45 rfl (by rw [hl]; exact infoInit16)
  rwa [Array.toArray_toList] at this
def zeroI : Array Value := #[.string ⟨#[]⟩, .slice none 0 0, .slice none 0 0, .slice none 0 0, .slice none 0 0, .slice none 0 0, .slice none 0 0, .slice none 0 0, .slice none 0 0, .slice none 0 0, .slice none 0 0, .bool false, .bool false, .bool false, .bool false, .bool false]
section
variable {w : World}
set_option maxHeartbeats 8000000 in
set_option maxRecDepth 100000 in
theorem cinit_s {ex ge : Bool} {sw cm us : List UInt8} {A0 A1 A2 A3 A4 A5 A6 A7 A8 A9 A10 : Option Addr} {n0 n1 n2 n3 n4 n5 n6 n7 c0 c1 c2 c3 c4 c5 c6 c7 c8 c9 c10 : Nat} {al : List (List UInt8)} {own lim peer q0 q1 q2 : Int} {gr : List (List UInt8 × Int)} {ky : List Int} {ls : List (List (List UInt8))} {x e : Int} (hx : x ≤ 9223372036854775807) (he : e ≤ 9223372036854775807) (hC : CfM w sw cm us [.slice A0 n0 c0, .slice A1 n1 c1, .slice A2 n2 c2, .slice A3 n3 c3, .slice A4 n4 c4, .slice A5 n5 c5, .slice A6 n6 c6, .slice A7 n7 c7] ls A8 c8 al A9 gr A10 ky) : Calls Tryz.prog 21 #[.agg #[.bool true, .string (bs sw), .string (bs cm), .slice A0 n0 c0, .slice A1 n1 c1, .slice A2 n2 c2, .slice A3 n3 c3, .slice A4 n4 c4, .slice A5 n5 c5, .slice A6 n6 c6, .slice A7 n7 c7, .slice A8 al.length c8, .int .i64 own, .slice A9 gr.length c9, .int .i64 lim, .int .i64 peer, .string (bs us), .slice A10 ky.length c10, .bool ex, .bool ge, .int .u32 q0, .int .u32 q1, .int .u32 q2], .int .i64 x, .int .i64 e] w (fun o w' => ∃ r B0 m0 d0 B1 m1 d1 B2 m2 d2 B3 m3 d3 B4 m4 d4 B5 m5 d5 B6 m6 d6 B7 m7 d7, o = .returned (.agg #[.string r, .slice B0 m0 d0, .slice B1 m1 d1, .slice B2 m2 d2, .slice B3 m3 d3, .slice B4 m4 d4, .slice B5 m5 d5, .slice B6 m6 d6, .slice B7 m7 d7, .slice none 0 0, .slice none 0 0, .bool false, .bool false, .bool false, .bool (e == 0), .bool false]) ∧ r.data.toList = cookie x e ∧ (∀ (i : Nat) v l, ([.slice B0 m0 d0, .slice B1 m1 d1, .slice B2 m2 d2, .slice B3 m3 d3, .slice B4 m4 d4, .slice B5 m5 d5, .slice B6 m6 d6, .slice B7 m7 d7] : List Value)[i]? = some v → ls[i]? = some l → NewC w.heap.size w' v l) ∧ Below w.heap.size w w') := by
  obtain ⟨W0, hW0⟩ : ∃ W0, W0 = (w.alloc (.cells #[.bool true, .string (bs sw), .string (bs cm), .slice A0 n0 c0, .slice A1 n1 c1, .slice A2 n2 c2, .slice A3 n3 c3, .slice A4 n4 c4, .slice A5 n5 c5, .slice A6 n6 c6, .slice A7 n7 c7, .slice A8 al.length c8, .int .i64 own, .slice A9 gr.length c9, .int .i64 lim, .int .i64 peer, .string (bs us), .slice A10 ky.length c10, .bool ex, .bool ge, .int .u32 q0, .int .u32 q1, .int .u32 q2] 30)).alloc (.cells zeroI 45) := ⟨_, rfl⟩
  have hb0 : Below w.heap.size w W0 := by rw [hW0]; (repeat (first | exact Below.refl _ _ | refine below_drewN ?_ _ | refine Below.drew ?_ | refine Below.alloc ?_ (by first | omega | (simp; done) | (simp; omega)) _ | refine Below.setCell ?_ (by first | omega | (simp; done) | (simp; omega)) _ | refine bel_alloc ?_ _ | refine bel_trans ?_ (by assumption) | refine Below.trans ?_ (Below.mono (by assumption) (by first | omega | (simp; done) | (simp; omega)))))
  have hX0 : Blk W0 w.heap.size 30 #[.bool true, .string (bs sw), .string (bs cm), .slice A0 n0 c0, .slice A1 n1 c1, .slice A2 n2 c2, .slice A3 n3 c3, .slice A4 n4 c4, .slice A5 n5 c5, .slice A6 n6 c6, .slice A7 n7 c7, .slice A8 al.length c8, .int .i64 own, .slice A9 gr.length c9, .int .i64 lim, .int .i64 peer, .string (bs us), .slice A10 ky.length c10, .bool ex, .bool ge, .int .u32 q0, .int .u32 q1, .int .u32 q2] := by rw [hW0]; exact (Blk.new w _ _).alloc _
  have hR0 : Blk W0 (w.heap.size + 1) 45 zeroI := by rw [hW0]; exact blk_new2 w _ _ _
  have HK := hide (fun (W : World) => cookie_any x e W hx he)
  have HCp := hide (fun (W : World) (hb : Below w.heap.size w W) => copy_any (sv := true) (ex := ex) (ge := ge) (own := own) (lim := lim) (peer := peer) (q0 := q0) (q1 := q1) (q2 := q2) (c9 := c9) (c10 := c10) (hC.below hb))
  have HX := hide (And.intro hb0 (And.intro hX0 hR0))
  have hltX := hX0.lt
  have hltR := hR0.lt
  clear hb0 hX0 hR0 hC hx he
  go_enter Tryz.func21, Tryz.ntmps21
  go_upto_region 1 with fail
  unfold zeroI at hW0
  rw [← hW0]
  clear hW0
  obtain ⟨fz, hfz⟩ : ∃ b, (e == (0 : Int)) = b := ⟨_, rfl⟩
  refine wp_region_lit ?_
  refine wpList_val (v := .int .i64 e) (w' := W0) rfl (by go_simp) ?_
  try simp only [Act.put, List.setIfInBounds_toArray, List.set_cons_zero, List.set_cons_succ]
  refine wpList_val (v := .bool fz) (w' := W0) rfl (by rw [← hfz]; go_simp) ?_
  try simp only [Act.put, List.setIfInBounds_toArray, List.set_cons_zero, List.set_cons_succ]
  have HZ := hide hfz
  clear hfz
  refine wpList_val (v := .bool fz) (w' := W0) rfl (by go_simp) ?_
  try simp only [Act.put, List.setIfInBounds_toArray, List.set_cons_zero, List.set_cons_succ]
  have hb03 := HX.out.1
  obtain ⟨cv, hcv⟩ : ∃ c : Array Value, c = #[.bool true, .string (bs sw), .string (bs cm), .slice A0 n0 c0, .slice A1 n1 c1, .slice A2 n2 c2, .slice A3 n3 c3, .slice A4 n4 c4, .slice A5 n5 c5, .slice A6 n6 c6, .slice A7 n7 c7, .slice A8 al.length c8, .int .i64 own, .slice A9 gr.length c9, .int .i64 lim, .int .i64 peer, .string (bs us), .slice A10 ky.length c10, .bool ex, .bool ge, .int .u32 q0, .int .u32 q1, .int .u32 q2] := ⟨_, rfl⟩
  have hcl : cv.toList.length = 23 := by rw [hcv]; rfl
  have HX3 := hide HX.out.2.1
  have HX3c := hide (show Blk W0 w.heap.size 30 cv from by rw [hcv]; exact HX.out.2.1)
  have HCp := hide (show ∀ W, Below w.heap.size w W → Calls Tryz.prog 58 #[.agg cv] W _ from by rw [hcv]; exact HCp.out)
  clear hcv
  go_upto_region 2 with fail
  refine wp_region_E (fun W => Below W0.heap.size W0 W) (fun i => decide (i < 35)) (by kernel_rfl) ?_
  obtain ⟨Wd, hWd⟩ : ∃ Wd, Wd = W0.drew := ⟨_, rfl⟩
  have hSd : Below W0.heap.size W0 Wd := by rw [hWd]; exact (Below.refl _ _).drew
  rw [← hWd]
  clear hWd
  refine wpAnyE_take (i := 0) (oi := ?_) (v := .int .i64 x) ?_ ?_ ?_ ?_ ?_ ?_ ?_ hSd ?_
  rotate_left 1
  · (first | (simp only [List.getElem?_toArray, List.getElem?_cons_succ, List.getElem?_cons_zero]; exact rfl) | exact rfl)
  · kernel_rfl
  · kernel_rfl
  · kernel_rfl
  · kernel_rfl
  · exact fun _ _ _ h => h
  · refine Or.inl ⟨by rfl, fun w hSw => ?_⟩
    clear hSw
    go_simp
  try simp only [Act.put, List.setIfInBounds_toArray, List.set_cons_zero, List.set_cons_succ]
  refine wpAnyE_take (i := 1) (oi := ?_) (v := .int .i64 e) ?_ ?_ ?_ ?_ ?_ ?_ ?_ hSd ?_
  rotate_left 1
  · (first | (simp only [List.getElem?_toArray, List.getElem?_cons_succ, List.getElem?_cons_zero]; exact rfl) | exact rfl)
  · kernel_rfl
  · kernel_rfl
  · kernel_rfl
  · kernel_rfl
  · exact fun _ _ _ h => h
  · refine Or.inl ⟨by rfl, fun w hSw => ?_⟩
    clear hSw
    go_simp
  try simp only [Act.put, List.setIfInBounds_toArray, List.set_cons_zero, List.set_cons_succ]
  refine wpAnyE_take (i := 3) (oi := ?_) (v := .agg cv) ?_ ?_ ?_ ?_ ?_ ?_ ?_ hSd ?_
  rotate_left 1
  · (first | (simp only [List.getElem?_toArray, List.getElem?_cons_succ, List.getElem?_cons_zero]; exact rfl) | exact rfl)
  · kernel_rfl
  · kernel_rfl
  · kernel_rfl
  · kernel_rfl
  · exact fun _ _ _ h => h
  · exact Or.inl ⟨by rfl, fun w hSw => load_confR (x := .tmp 3) _ rfl _ (by rfl) (HX3c.out.below hSw HX3c.out.lt) hcl⟩
  try simp only [Act.put, List.setIfInBounds_toArray, List.set_cons_zero, List.set_cons_succ]
  refine wpAnyE_take (i := 6) (oi := ?_) (v := .pointer (some ⟨w.heap.size, 0, none⟩)) ?_ ?_ ?_ ?_ ?_ ?_ ?_ hSd ?_
  rotate_left 1
  · (first | (simp only [List.getElem?_toArray, List.getElem?_cons_succ, List.getElem?_cons_zero]; exact rfl) | exact rfl)
  · kernel_rfl
  · kernel_rfl
  · kernel_rfl
  · kernel_rfl
  · exact fun _ _ _ h => h
  · refine Or.inl ⟨by rfl, fun w hSw => ?_⟩
    clear hSw
    go_simp
  try simp only [Act.put, List.setIfInBounds_toArray, List.set_cons_zero, List.set_cons_succ]
  refine wpAnyE_take (i := 7) (oi := ?_) (v := .bool true) ?_ ?_ ?_ ?_ ?_ ?_ ?_ hSd ?_
  rotate_left 1
  · (first | (simp only [List.getElem?_toArray, List.getElem?_cons_succ, List.getElem?_cons_zero]; exact rfl) | exact rfl)
  · kernel_rfl
  · kernel_rfl
  · kernel_rfl
  · kernel_rfl
  · exact fun _ _ _ h => h
  · refine Or.inl ⟨by rfl, fun w hSw => ?_⟩
    have hX := HX3.out.below hSw HX3.out.lt
    have y := hX.cell 0
    have z := hX.frozen 0
    simp only [List.getElem?_toArray, List.getElem?_cons_zero, List.getElem?_cons_succ] at y
    clear hSw
    go_simp
  try simp only [Act.put, List.setIfInBounds_toArray, List.set_cons_zero, List.set_cons_succ]
  refine wpAnyE_take (i := 8) (oi := ?_) (v := .bool false) ?_ ?_ ?_ ?_ ?_ ?_ ?_ hSd ?_
  rotate_left 1
  · (first | (simp only [List.getElem?_toArray, List.getElem?_cons_succ, List.getElem?_cons_zero]; exact rfl) | exact rfl)
  · kernel_rfl
  · kernel_rfl
  · kernel_rfl
  · kernel_rfl
  · exact fun _ _ _ h => h
  · refine Or.inl ⟨by rfl, fun w hSw => ?_⟩
    clear hSw
    go_simp
  try simp only [Act.put, List.setIfInBounds_toArray, List.set_cons_zero, List.set_cons_succ]
  refine wpAnyE_take (i := 16) (oi := ?_) (v := .pointer (some ⟨w.heap.size, 0, none⟩)) ?_ ?_ ?_ ?_ ?_ ?_ ?_ hSd ?_
  rotate_left 1
  · (first | (simp only [List.getElem?_toArray, List.getElem?_cons_succ, List.getElem?_cons_zero]; exact rfl) | exact rfl)
  · kernel_rfl
  · kernel_rfl
  · kernel_rfl
  · kernel_rfl
  · exact fun _ _ _ h => h
  · refine Or.inl ⟨by rfl, fun w hSw => ?_⟩
    clear hSw
    go_simp
  try simp only [Act.put, List.setIfInBounds_toArray, List.set_cons_zero, List.set_cons_succ]
  refine wpAnyE_take (i := 17) (oi := ?_) (v := .bool true) ?_ ?_ ?_ ?_ ?_ ?_ ?_ hSd ?_
  rotate_left 1
  · (first | (simp only [List.getElem?_toArray, List.getElem?_cons_succ, List.getElem?_cons_zero]; exact rfl) | exact rfl)
  · kernel_rfl
  · kernel_rfl
  · kernel_rfl
  · kernel_rfl
  · exact fun _ _ _ h => h
  · refine Or.inl ⟨by rfl, fun w hSw => ?_⟩
    have hX := HX3.out.below hSw HX3.out.lt
    have y := hX.cell 0
    have z := hX.frozen 0
    simp only [List.getElem?_toArray, List.getElem?_cons_zero, List.getElem?_cons_succ] at y
    clear hSw
    go_simp
  try simp only [Act.put, List.setIfInBounds_toArray, List.set_cons_zero, List.set_cons_succ]
  refine wpAnyE_take (i := 18) (oi := ?_) (v := .bool false) ?_ ?_ ?_ ?_ ?_ ?_ ?_ hSd ?_
  rotate_left 1
  · (first | (simp only [List.getElem?_toArray, List.getElem?_cons_succ, List.getElem?_cons_zero]; exact rfl) | exact rfl)
  · kernel_rfl
  · kernel_rfl
  · kernel_rfl
  · kernel_rfl
  · exact fun _ _ _ h => h
  · refine Or.inl ⟨by rfl, fun w hSw => ?_⟩
    clear hSw
    go_simp
  try simp only [Act.put, List.setIfInBounds_toArray, List.set_cons_zero, List.set_cons_succ]
  refine wpAnyE_take (i := 22) (oi := ?_) (v := .pointer (some ⟨w.heap.size, 0, none⟩)) ?_ ?_ ?_ ?_ ?_ ?_ ?_ hSd ?_
  rotate_left 1
  · (first | (simp only [List.getElem?_toArray, List.getElem?_cons_succ, List.getElem?_cons_zero]; exact rfl) | exact rfl)
  · kernel_rfl
  · kernel_rfl
  · kernel_rfl
  · kernel_rfl
  · exact fun _ _ _ h => h
  · refine Or.inl ⟨by rfl, fun w hSw => ?_⟩
    clear hSw
    go_simp
  try simp only [Act.put, List.setIfInBounds_toArray, List.set_cons_zero, List.set_cons_succ]
  refine wpAnyE_take (i := 23) (oi := ?_) (v := .bool true) ?_ ?_ ?_ ?_ ?_ ?_ ?_ hSd ?_
  rotate_left 1
  · (first | (simp only [List.getElem?_toArray, List.getElem?_cons_succ, List.getElem?_cons_zero]; exact rfl) | exact rfl)
  · kernel_rfl
  · kernel_rfl
  · kernel_rfl
  · kernel_rfl
  · exact fun _ _ _ h => h
  · refine Or.inl ⟨by rfl, fun w hSw => ?_⟩
    have hX := HX3.out.below hSw HX3.out.lt
    have y := hX.cell 0
    have z := hX.frozen 0
    simp only [List.getElem?_toArray, List.getElem?_cons_zero, List.getElem?_cons_succ] at y
    clear hSw
    go_simp
  try simp only [Act.put, List.setIfInBounds_toArray, List.set_cons_zero, List.set_cons_succ]
  refine wpAnyE_take (i := 27) (oi := ?_) (v := .pointer (some ⟨w.heap.size, 0, none⟩)) ?_ ?_ ?_ ?_ ?_ ?_ ?_ hSd ?_
  rotate_left 1
  · (first | (simp only [List.getElem?_toArray, List.getElem?_cons_succ, List.getElem?_cons_zero]; exact rfl) | exact rfl)
  · kernel_rfl
  · kernel_rfl
  · kernel_rfl
  · kernel_rfl
  · exact fun _ _ _ h => h
  · refine Or.inl ⟨by rfl, fun w hSw => ?_⟩
    clear hSw
    go_simp
  try simp only [Act.put, List.setIfInBounds_toArray, List.set_cons_zero, List.set_cons_succ]
  refine wpAnyE_take (i := 28) (oi := ?_) (v := .bool true) ?_ ?_ ?_ ?_ ?_ ?_ ?_ hSd ?_
  rotate_left 1
  · (first | (simp only [List.getElem?_toArray, List.getElem?_cons_succ, List.getElem?_cons_zero]; exact rfl) | exact rfl)
  · kernel_rfl
  · kernel_rfl
  · kernel_rfl
  · kernel_rfl
  · exact fun _ _ _ h => h
  · refine Or.inl ⟨by rfl, fun w hSw => ?_⟩
    have hX := HX3.out.below hSw HX3.out.lt
    have y := hX.cell 0
    have z := hX.frozen 0
    simp only [List.getElem?_toArray, List.getElem?_cons_zero, List.getElem?_cons_succ] at y
    clear hSw
    go_simp
  try simp only [Act.put, List.setIfInBounds_toArray, List.set_cons_zero, List.set_cons_succ]
  refine wpAnyE_take (i := 29) (oi := ?_) (v := .bool false) ?_ ?_ ?_ ?_ ?_ ?_ ?_ hSd ?_
  rotate_left 1
  · (first | (simp only [List.getElem?_toArray, List.getElem?_cons_succ, List.getElem?_cons_zero]; exact rfl) | exact rfl)
  · kernel_rfl
  · kernel_rfl
  · kernel_rfl
  · kernel_rfl
  · exact fun _ _ _ h => h
  · refine Or.inl ⟨by rfl, fun w hSw => ?_⟩
    clear hSw
    go_simp
  try simp only [Act.put, List.setIfInBounds_toArray, List.set_cons_zero, List.set_cons_succ]
  refine wpAnyE_ready (rs := [2]) (by kernel_rfl) (by simp) ?_
  refine AllReadyE.cons (o := ?_) ?_ (fun K hK => ?_) AllReadyE.nil
  rotate_left 1
  · (first | (simp only [List.getElem?_toArray, List.getElem?_cons_succ, List.getElem?_cons_zero]; exact rfl) | exact rfl)
  refine step_callN (f := 37) rfl (callCk (x := .tmp 10) (y := .tmp 11) _ rfl _ (by rfl) (by rfl) _) (HK.out _) ?_
  rintro o wp ⟨r, rfl, hr, hbp⟩
  refine ⟨_, rfl, ?_⟩
  have hSp := hSd.trans (hbp.mono hSd.size)
  refine hK.out _ _ hSp (fun _ => ?_)
  clear hK K
  try simp only [Act.put, List.setIfInBounds_toArray, List.set_cons_zero, List.set_cons_succ]
  refine wpAnyE_ready (rs := [4]) (by kernel_rfl) (by simp) ?_
  refine AllReadyE.cons (o := ?_) ?_ (fun K hK => ?_) AllReadyE.nil
  rotate_left 1
  · (first | (simp only [List.getElem?_toArray, List.getElem?_cons_succ, List.getElem?_cons_zero]; exact rfl) | exact rfl)
  refine step_callN (f := 58) rfl (callCp (x := .tmp 13) _ rfl _ (by rfl) _) (HCp.out _ (hb03.trans (hSp.mono hb03.size))) ?_
  rintro o wq ⟨B0, m0, d0, B1, m1, d1, B2, m2, d2, B3, m3, d3, B4, m4, d4, B5, m5, d5, B6, m6, d6, B7, m7, d7, B8, d8, B9, d9, B10, d10, rfl, hN, _, _, _, hbq⟩
  refine ⟨_, rfl, ?_⟩
  have hSq := hSp.trans (hbq.mono hSp.size)
  refine hK.out _ _ hSq (fun _ => ?_)
  clear hK K
  try simp only [Act.put, List.setIfInBounds_toArray, List.set_cons_zero, List.set_cons_succ]
  refine wpAnyE_take (i := 5) (oi := ?_) (v := .agg #[.slice B0 m0 d0, .slice B1 m1 d1, .slice B2 m2 d2, .slice B3 m3 d3, .slice B4 m4 d4, .slice B5 m5 d5, .slice B6 m6 d6, .slice B7 m7 d7]) ?_ ?_ ?_ ?_ ?_ ?_ ?_ hSq ?_
  rotate_left 1
  · (first | (simp only [List.getElem?_toArray, List.getElem?_cons_succ, List.getElem?_cons_zero]; exact rfl) | exact rfl)
  · kernel_rfl
  · kernel_rfl
  · kernel_rfl
  · kernel_rfl
  · exact fun _ _ _ h => h
  · refine Or.inl ⟨by rfl, fun w hSw => ?_⟩
    clear hSw
    go_simp
  try simp only [Act.put, List.setIfInBounds_toArray, List.set_cons_zero, List.set_cons_succ]
  refine wpAnyE_take (i := 9) (oi := ?_) (v := .bool false) ?_ ?_ ?_ ?_ ?_ ?_ ?_ hSq ?_
  rotate_left 1
  · (first | (simp only [List.getElem?_toArray, List.getElem?_cons_succ, List.getElem?_cons_zero]; exact rfl) | exact rfl)
  · kernel_rfl
  · kernel_rfl
  · kernel_rfl
  · kernel_rfl
  · exact fun _ _ _ h => h
  · refine Or.inl ⟨by rfl, fun w hSw => ?_⟩
    clear hSw
    go_simp
  try simp only [Act.put, List.setIfInBounds_toArray, List.set_cons_zero, List.set_cons_succ]
  refine wpAnyE_take (i := 10) (oi := ?_) (v := undef) ?_ ?_ ?_ ?_ ?_ ?_ ?_ hSq ?_
  rotate_left 1
  · (first | (simp only [List.getElem?_toArray, List.getElem?_cons_succ, List.getElem?_cons_zero]; exact rfl) | exact rfl)
  · kernel_rfl
  · kernel_rfl
  · kernel_rfl
  · kernel_rfl
  · exact fun _ _ _ h => h
  · exact Or.inr ⟨by rfl, rfl⟩
  try simp only [Act.put, List.setIfInBounds_toArray, List.set_cons_zero, List.set_cons_succ]
  refine wpAnyE_take (i := 11) (oi := ?_) (v := undef) ?_ ?_ ?_ ?_ ?_ ?_ ?_ hSq ?_
  rotate_left 1
  · (first | (simp only [List.getElem?_toArray, List.getElem?_cons_succ, List.getElem?_cons_zero]; exact rfl) | exact rfl)
  · kernel_rfl
  · kernel_rfl
  · kernel_rfl
  · kernel_rfl
  · exact fun _ _ _ h => h
  · exact Or.inr ⟨by rfl, rfl⟩
  try simp only [Act.put, List.setIfInBounds_toArray, List.set_cons_zero, List.set_cons_succ]
  refine wpAnyE_take (i := 12) (oi := ?_) (v := .bool false) ?_ ?_ ?_ ?_ ?_ ?_ ?_ hSq ?_
  rotate_left 1
  · (first | (simp only [List.getElem?_toArray, List.getElem?_cons_succ, List.getElem?_cons_zero]; exact rfl) | exact rfl)
  · kernel_rfl
  · kernel_rfl
  · kernel_rfl
  · kernel_rfl
  · exact fun _ _ _ h => h
  · refine Or.inl ⟨by rfl, fun w hSw => ?_⟩
    clear hSw
    go_simp
  try simp only [Act.put, List.setIfInBounds_toArray, List.set_cons_zero, List.set_cons_succ]
  refine wpAnyE_take (i := 13) (oi := ?_) (v := .bool false) ?_ ?_ ?_ ?_ ?_ ?_ ?_ hSq ?_
  rotate_left 1
  · (first | (simp only [List.getElem?_toArray, List.getElem?_cons_succ, List.getElem?_cons_zero]; exact rfl) | exact rfl)
  · kernel_rfl
  · kernel_rfl
  · kernel_rfl
  · kernel_rfl
  · exact fun _ _ _ h => h
  · refine Or.inl ⟨by rfl, fun w hSw => ?_⟩
    clear hSw
    go_simp
  try simp only [Act.put, List.setIfInBounds_toArray, List.set_cons_zero, List.set_cons_succ]
  refine wpAnyE_take (i := 14) (oi := ?_) (v := undef) ?_ ?_ ?_ ?_ ?_ ?_ ?_ hSq ?_
  rotate_left 1
  · (first | (simp only [List.getElem?_toArray, List.getElem?_cons_succ, List.getElem?_cons_zero]; exact rfl) | exact rfl)
  · kernel_rfl
  · kernel_rfl
  · kernel_rfl
  · kernel_rfl
  · exact fun _ _ _ h => h
  · exact Or.inr ⟨by rfl, rfl⟩
  try simp only [Act.put, List.setIfInBounds_toArray, List.set_cons_zero, List.set_cons_succ]
  refine wpAnyE_take (i := 15) (oi := ?_) (v := .bool false) ?_ ?_ ?_ ?_ ?_ ?_ ?_ hSq ?_
  rotate_left 1
  · (first | (simp only [List.getElem?_toArray, List.getElem?_cons_succ, List.getElem?_cons_zero]; exact rfl) | exact rfl)
  · kernel_rfl
  · kernel_rfl
  · kernel_rfl
  · kernel_rfl
  · exact fun _ _ _ h => h
  · refine Or.inl ⟨by rfl, fun w hSw => ?_⟩
    clear hSw
    go_simp
  try simp only [Act.put, List.setIfInBounds_toArray, List.set_cons_zero, List.set_cons_succ]
  refine wpAnyE_take (i := 19) (oi := ?_) (v := .bool false) ?_ ?_ ?_ ?_ ?_ ?_ ?_ hSq ?_
  rotate_left 1
  · (first | (simp only [List.getElem?_toArray, List.getElem?_cons_succ, List.getElem?_cons_zero]; exact rfl) | exact rfl)
  · kernel_rfl
  · kernel_rfl
  · kernel_rfl
  · kernel_rfl
  · exact fun _ _ _ h => h
  · refine Or.inl ⟨by rfl, fun w hSw => ?_⟩
    clear hSw
    go_simp
  try simp only [Act.put, List.setIfInBounds_toArray, List.set_cons_zero, List.set_cons_succ]
  refine wpAnyE_take (i := 20) (oi := ?_) (v := undef) ?_ ?_ ?_ ?_ ?_ ?_ ?_ hSq ?_
  rotate_left 1
  · (first | (simp only [List.getElem?_toArray, List.getElem?_cons_succ, List.getElem?_cons_zero]; exact rfl) | exact rfl)
  · kernel_rfl
  · kernel_rfl
  · kernel_rfl
  · kernel_rfl
  · exact fun _ _ _ h => h
  · exact Or.inr ⟨by rfl, rfl⟩
  try simp only [Act.put, List.setIfInBounds_toArray, List.set_cons_zero, List.set_cons_succ]
  refine wpAnyE_take (i := 21) (oi := ?_) (v := .bool false) ?_ ?_ ?_ ?_ ?_ ?_ ?_ hSq ?_
  rotate_left 1
  · (first | (simp only [List.getElem?_toArray, List.getElem?_cons_succ, List.getElem?_cons_zero]; exact rfl) | exact rfl)
  · kernel_rfl
  · kernel_rfl
  · kernel_rfl
  · kernel_rfl
  · exact fun _ _ _ h => h
  · refine Or.inl ⟨by rfl, fun w hSw => ?_⟩
    clear hSw
    go_simp
  try simp only [Act.put, List.setIfInBounds_toArray, List.set_cons_zero, List.set_cons_succ]
  refine wpAnyE_take (i := 24) (oi := ?_) (v := .bool true) ?_ ?_ ?_ ?_ ?_ ?_ ?_ hSq ?_
  rotate_left 1
  · (first | (simp only [List.getElem?_toArray, List.getElem?_cons_succ, List.getElem?_cons_zero]; exact rfl) | exact rfl)
  · kernel_rfl
  · kernel_rfl
  · kernel_rfl
  · kernel_rfl
  · exact fun _ _ _ h => h
  · refine Or.inl ⟨by rfl, fun w hSw => ?_⟩
    clear hSw
    go_simp
  try simp only [Act.put, List.setIfInBounds_toArray, List.set_cons_zero, List.set_cons_succ]
  refine wpAnyE_take (i := 25) (oi := ?_) (v := .bool fz) ?_ ?_ ?_ ?_ ?_ ?_ ?_ hSq ?_
  rotate_left 1
  · (first | (simp only [List.getElem?_toArray, List.getElem?_cons_succ, List.getElem?_cons_zero]; exact rfl) | exact rfl)
  · kernel_rfl
  · kernel_rfl
  · kernel_rfl
  · kernel_rfl
  · exact fun _ _ _ h => h
  · refine Or.inl ⟨by rfl, fun w hSw => ?_⟩
    clear hSw
    go_simp
  try simp only [Act.put, List.setIfInBounds_toArray, List.set_cons_zero, List.set_cons_succ]
  refine wpAnyE_take (i := 26) (oi := ?_) (v := .bool fz) ?_ ?_ ?_ ?_ ?_ ?_ ?_ hSq ?_
  rotate_left 1
  · (first | (simp only [List.getElem?_toArray, List.getElem?_cons_succ, List.getElem?_cons_zero]; exact rfl) | exact rfl)
  · kernel_rfl
  · kernel_rfl
  · kernel_rfl
  · kernel_rfl
  · exact fun _ _ _ h => h
  · refine Or.inl ⟨by rfl, fun w hSw => ?_⟩
    clear hSw
    go_simp
  try simp only [Act.put, List.setIfInBounds_toArray, List.set_cons_zero, List.set_cons_succ]
  refine wpAnyE_take (i := 30) (oi := ?_) (v := .bool false) ?_ ?_ ?_ ?_ ?_ ?_ ?_ hSq ?_
  rotate_left 1
  · (first | (simp only [List.getElem?_toArray, List.getElem?_cons_succ, List.getElem?_cons_zero]; exact rfl) | exact rfl)
  · kernel_rfl
  · kernel_rfl
  · kernel_rfl
  · kernel_rfl
  · exact fun _ _ _ h => h
  · refine Or.inl ⟨by rfl, fun w hSw => ?_⟩
    clear hSw
    go_simp
  try simp only [Act.put, List.setIfInBounds_toArray, List.set_cons_zero, List.set_cons_succ]
  refine wpAnyE_take (i := 31) (oi := ?_) (v := undef) ?_ ?_ ?_ ?_ ?_ ?_ ?_ hSq ?_
  rotate_left 1
  · (first | (simp only [List.getElem?_toArray, List.getElem?_cons_succ, List.getElem?_cons_zero]; exact rfl) | exact rfl)
  · kernel_rfl
  · kernel_rfl
  · kernel_rfl
  · kernel_rfl
  · exact fun _ _ _ h => h
  · exact Or.inr ⟨by rfl, rfl⟩
  try simp only [Act.put, List.setIfInBounds_toArray, List.set_cons_zero, List.set_cons_succ]
  refine wpAnyE_take (i := 32) (oi := ?_) (v := undef) ?_ ?_ ?_ ?_ ?_ ?_ ?_ hSq ?_
  rotate_left 1
  · (first | (simp only [List.getElem?_toArray, List.getElem?_cons_succ, List.getElem?_cons_zero]; exact rfl) | exact rfl)
  · kernel_rfl
  · kernel_rfl
  · kernel_rfl
  · kernel_rfl
  · exact fun _ _ _ h => h
  · exact Or.inr ⟨by rfl, rfl⟩
  try simp only [Act.put, List.setIfInBounds_toArray, List.set_cons_zero, List.set_cons_succ]
  refine wpAnyE_take (i := 33) (oi := ?_) (v := .bool false) ?_ ?_ ?_ ?_ ?_ ?_ ?_ hSq ?_
  rotate_left 1
  · (first | (simp only [List.getElem?_toArray, List.getElem?_cons_succ, List.getElem?_cons_zero]; exact rfl) | exact rfl)
  · kernel_rfl
  · kernel_rfl
  · kernel_rfl
  · kernel_rfl
  · exact fun _ _ _ h => h
  · refine Or.inl ⟨by rfl, fun w hSw => ?_⟩
    clear hSw
    go_simp
  try simp only [Act.put, List.setIfInBounds_toArray, List.set_cons_zero, List.set_cons_succ]
  refine wpAnyE_take (i := 34) (oi := ?_) (v := .agg #[.string r, .slice B0 m0 d0, .slice B1 m1 d1, .slice B2 m2 d2, .slice B3 m3 d3, .slice B4 m4 d4, .slice B5 m5 d5, .slice B6 m6 d6, .slice B7 m7 d7, .slice none 0 0, .slice none 0 0, .bool false, .bool false, .bool false, .bool fz, .bool false]) ?_ ?_ ?_ ?_ ?_ ?_ ?_ hSq ?_
  rotate_left 1
  · (first | (simp only [List.getElem?_toArray, List.getElem?_cons_succ, List.getElem?_cons_zero]; exact rfl) | exact rfl)
  · kernel_rfl
  · kernel_rfl
  · kernel_rfl
  · kernel_rfl
  · exact fun _ _ _ h => h
  · refine Or.inl ⟨by rfl, fun w hSw => ?_⟩
    clear hSw
    go_simp
  try simp only [Act.put, List.setIfInBounds_toArray, List.set_cons_zero, List.set_cons_succ]
  have hRq := HX.out.2.2.below hSq hltR
  refine wpAnyE_ready (rs := [35]) (by kernel_rfl) (by simp) ?_
  refine AllReadyE.late (o := ?_) ?_ rfl (fun K hK => ?_) AllReadyE.nil
  rotate_left 1
  · (first | (simp only [List.getElem?_toArray, List.getElem?_cons_succ, List.getElem?_cons_zero]; exact rfl) | exact rfl)
  refine step_store_mid rfl 45 (.tmp 6) (.tmp 44) rfl (w.heap.size + 1) 0 #[.string r, .slice B0 m0 d0, .slice B1 m1 d1, .slice B2 m2 d2, .slice B3 m3 d3, .slice B4 m4 d4, .slice B5 m5 d5, .slice B6 m6 d6, .slice B7 m7 d7, .slice none 0 0, .slice none 0 0, .bool false, .bool false, .bool false, .bool fz, .bool false] (by rfl) (by rfl) (blk_there_at hRq (by simp [zeroI])) infoInit16 (by simp [Value.oneCell']) ?_
  refine hK.out _ _ ?_
  clear hK K
  have hRr : Blk (wq.setCells (w.heap.size + 1) 0 [.string r, .slice B0 m0 d0, .slice B1 m1 d1, .slice B2 m2 d2, .slice B3 m3 d3, .slice B4 m4 d4, .slice B5 m5 d5, .slice B6 m6 d6, .slice B7 m7 d7, .slice none 0 0, .slice none 0 0, .bool false, .bool false, .bool false, .bool fz, .bool false]) (w.heap.size + 1) 45 #[.string r, .slice B0 m0 d0, .slice B1 m1 d1, .slice B2 m2 d2, .slice B3 m3 d3, .slice B4 m4 d4, .slice B5 m5 d5, .slice B6 m6 d6, .slice B7 m7 d7, .slice none 0 0, .slice none 0 0, .bool false, .bool false, .bool false, .bool fz, .bool false] := by
    have h9 := Blk.setCells [.string r, .slice B0 m0 d0, .slice B1 m1 d1, .slice B2 m2 d2, .slice B3 m3 d3, .slice B4 m4 d4, .slice B5 m5 d5, .slice B6 m6 d6, .slice B7 m7 d7, .slice none 0 0, .slice none 0 0, .bool false, .bool false, .bool false, .bool fz, .bool false] 0 hRq
    rw [wrA_all (by rfl)] at h9
    exact h9
  have hbr := hide (below_setCells (b := w.heap.size + 1) (by omega) [.string r, .slice B0 m0 d0, .slice B1 m1 d1, .slice B2 m2 d2, .slice B3 m3 d3, .slice B4 m4 d4, .slice B5 m5 d5, .slice B6 m6 d6, .slice B7 m7 d7, .slice none 0 0, .slice none 0 0, .bool false, .bool false, .bool false, .bool fz, .bool false] 0 (hb03.trans (hSq.mono hb03.size)))
  have hnr := hide (show ∀ (i : Nat) v l, ([.slice B0 m0 d0, .slice B1 m1 d1, .slice B2 m2 d2, .slice B3 m3 d3, .slice B4 m4 d4, .slice B5 m5 d5, .slice B6 m6 d6, .slice B7 m7 d7] : List Value)[i]? = some v → ls[i]? = some l → NewC w.heap.size (wq.setCells (w.heap.size + 1) 0 [.string r, .slice B0 m0 d0, .slice B1 m1 d1, .slice B2 m2 d2, .slice B3 m3 d3, .slice B4 m4 d4, .slice B5 m5 d5, .slice B6 m6 d6, .slice B7 m7 d7, .slice none 0 0, .slice none 0 0, .bool false, .bool false, .bool false, .bool fz, .bool false]) v l from fun i v l h1 h2 => (NewC.setCells (by have := hSp.size; omega) [.string r, .slice B0 m0 d0, .slice B1 m1 d1, .slice B2 m2 d2, .slice B3 m3 d3, .slice B4 m4 d4, .slice B5 m5 d5, .slice B6 m6 d6, .slice B7 m7 d7, .slice none 0 0, .slice none 0 0, .bool false, .bool false, .bool false, .bool fz, .bool false] 0 (hN i v l h1 h2)).mono (by have := hSp.size; omega))
  show wpAnyE _ _ _ _ _ _ _ _ _ (wq.setCells (w.heap.size + 1) 0 [.string r, .slice B0 m0 d0, .slice B1 m1 d1, .slice B2 m2 d2, .slice B3 m3 d3, .slice B4 m4 d4, .slice B5 m5 d5, .slice B6 m6 d6, .slice B7 m7 d7, .slice none 0 0, .slice none 0 0, .bool false, .bool false, .bool false, .bool fz, .bool false])
  generalize wq.setCells (w.heap.size + 1) 0 [.string r, .slice B0 m0 d0, .slice B1 m1 d1, .slice B2 m2 d2, .slice B3 m3 d3, .slice B4 m4 d4, .slice B5 m5 d5, .slice B6 m6 d6, .slice B7 m7 d7, .slice none 0 0, .slice none 0 0, .bool false, .bool false, .bool false, .bool fz, .bool false] = wr at hRr hbr hnr ⊢
  clear hSd hSp hSq hRq hN hbp hbq HX HX3 HX3c HCp HK
  have HRr := hide hRr
  clear hRr
  refine wpAnyE_done (by kernel_rfl) ?_ _
  try simp only [Act.put, List.setIfInBounds_toArray, List.set_cons_zero, List.set_cons_succ]
  go_wp2_with fail
  refine bodyPost_ret (results_init rfl (by rfl) HRr.out rfl) rfl ?_
  have hz := HZ.out
  subst hz
  exact ⟨r, B0, m0, d0, B1, m1, d1, B2, m2, d2, B3, m3, d3, B4, m4, d4, B5, m5, d5, B6, m6, d6, B7, m7, d7, rfl, hr, hnr.out, hbr.out⟩
set_option maxHeartbeats 8000000 in
set_option maxRecDepth 100000 in
theorem cinit_x {ge : Bool} {sw cm us : List UInt8} {A0 A1 A2 A3 A4 A5 A6 A7 A8 A9 A10 : Option Addr} {n0 n1 n2 n3 n4 n5 n6 n7 c0 c1 c2 c3 c4 c5 c6 c7 c8 c9 c10 : Nat} {al : List (List UInt8)} {own lim peer q0 q1 q2 : Int} {gr : List (List UInt8 × Int)} {ky : List Int} {ls : List (List (List UInt8))} {x e : Int} (hx : x ≤ 9223372036854775807) (he : e ≤ 9223372036854775807) (hC : CfM w sw cm us [.slice A0 n0 c0, .slice A1 n1 c1, .slice A2 n2 c2, .slice A3 n3 c3, .slice A4 n4 c4, .slice A5 n5 c5, .slice A6 n6 c6, .slice A7 n7 c7] ls A8 c8 al A9 gr A10 ky) : Calls Tryz.prog 21 #[.agg #[.bool false, .string (bs sw), .string (bs cm), .slice A0 n0 c0, .slice A1 n1 c1, .slice A2 n2 c2, .slice A3 n3 c3, .slice A4 n4 c4, .slice A5 n5 c5, .slice A6 n6 c6, .slice A7 n7 c7, .slice A8 al.length c8, .int .i64 own, .slice A9 gr.length c9, .int .i64 lim, .int .i64 peer, .string (bs us), .slice A10 ky.length c10, .bool true, .bool ge, .int .u32 q0, .int .u32 q1, .int .u32 q2], .int .i64 x, .int .i64 e] w (fun o w' => ∃ r B0 m0 d0 B1 m1 d1 B2 m2 d2 B3 m3 d3 B4 m4 d4 B5 m5 d5 B6 m6 d6 B7 m7 d7, o = .returned (.agg #[.string r, .slice B0 m0 d0, .slice B1 m1 d1, .slice B2 m2 d2, .slice B3 m3 d3, .slice B4 m4 d4, .slice B5 m5 d5, .slice B6 m6 d6, .slice B7 m7 d7, .slice none 0 0, .slice none 0 0, .bool (e == 0), .bool false, .bool (e == 0), .bool false, .bool ge]) ∧ r.data.toList = cookie x e ∧ (∀ (i : Nat) v l, ([.slice B0 m0 d0, .slice B1 m1 d1, .slice B2 m2 d2, .slice B3 m3 d3, .slice B4 m4 d4, .slice B5 m5 d5, .slice B6 m6 d6, .slice B7 m7 d7] : List Value)[i]? = some v → ls[i]? = some l → NewC w.heap.size w' v l) ∧ Below w.heap.size w w') := by
  obtain ⟨W0, hW0⟩ : ∃ W0, W0 = (w.alloc (.cells #[.bool false, .string (bs sw), .string (bs cm), .slice A0 n0 c0, .slice A1 n1 c1, .slice A2 n2 c2, .slice A3 n3 c3, .slice A4 n4 c4, .slice A5 n5 c5, .slice A6 n6 c6, .slice A7 n7 c7, .slice A8 al.length c8, .int .i64 own, .slice A9 gr.length c9, .int .i64 lim, .int .i64 peer, .string (bs us), .slice A10 ky.length c10, .bool true, .bool ge, .int .u32 q0, .int .u32 q1, .int .u32 q2] 30)).alloc (.cells zeroI 45) := ⟨_, rfl⟩
  have hb0 : Below w.heap.size w W0 := by rw [hW0]; (repeat (first | exact Below.refl _ _ | refine below_drewN ?_ _ | refine Below.drew ?_ | refine Below.alloc ?_ (by first | omega | (simp; done) | (simp; omega)) _ | refine Below.setCell ?_ (by first | omega | (simp; done) | (simp; omega)) _ | refine bel_alloc ?_ _ | refine bel_trans ?_ (by assumption) | refine Below.trans ?_ (Below.mono (by assumption) (by first | omega | (simp; done) | (simp; omega)))))
  have hX0 : Blk W0 w.heap.size 30 #[.bool false, .string (bs sw), .string (bs cm), .slice A0 n0 c0, .slice A1 n1 c1, .slice A2 n2 c2, .slice A3 n3 c3, .slice A4 n4 c4, .slice A5 n5 c5, .slice A6 n6 c6, .slice A7 n7 c7, .slice A8 al.length c8, .int .i64 own, .slice A9 gr.length c9, .int .i64 lim, .int .i64 peer, .string (bs us), .slice A10 ky.length c10, .bool true, .bool ge, .int .u32 q0, .int .u32 q1, .int .u32 q2] := by rw [hW0]; exact (Blk.new w _ _).alloc _
  have hR0 : Blk W0 (w.heap.size + 1) 45 zeroI := by rw [hW0]; exact blk_new2 w _ _ _
  have HK := hide (fun (W : World) => cookie_any x e W hx he)
  have HCp := hide (fun (W : World) (hb : Below w.heap.size w W) => copy_any (sv := false) (ex := true) (ge := ge) (own := own) (lim := lim) (peer := peer) (q0 := q0) (q1 := q1) (q2 := q2) (c9 := c9) (c10 := c10) (hC.below hb))
  have HX := hide (And.intro hb0 (And.intro hX0 hR0))
  have hltX := hX0.lt
  have hltR := hR0.lt
  clear hb0 hX0 hR0 hC hx he
  go_enter Tryz.func21, Tryz.ntmps21
  go_upto_region 1 with fail
  unfold zeroI at hW0
  rw [← hW0]
  clear hW0
  obtain ⟨fz, hfz⟩ : ∃ b, (e == (0 : Int)) = b := ⟨_, rfl⟩
  refine wp_region_lit ?_
  refine wpList_val (v := .int .i64 e) (w' := W0) rfl (by go_simp) ?_
  try simp only [Act.put, List.setIfInBounds_toArray, List.set_cons_zero, List.set_cons_succ]
  refine wpList_val (v := .bool fz) (w' := W0) rfl (by rw [← hfz]; go_simp) ?_
  try simp only [Act.put, List.setIfInBounds_toArray, List.set_cons_zero, List.set_cons_succ]
  have HZ := hide hfz
  clear hfz
  refine wpList_val (v := .bool fz) (w' := W0) rfl (by go_simp) ?_
  try simp only [Act.put, List.setIfInBounds_toArray, List.set_cons_zero, List.set_cons_succ]
  have hb03 := HX.out.1
  obtain ⟨cv, hcv⟩ : ∃ c : Array Value, c = #[.bool false, .string (bs sw), .string (bs cm), .slice A0 n0 c0, .slice A1 n1 c1, .slice A2 n2 c2, .slice A3 n3 c3, .slice A4 n4 c4, .slice A5 n5 c5, .slice A6 n6 c6, .slice A7 n7 c7, .slice A8 al.length c8, .int .i64 own, .slice A9 gr.length c9, .int .i64 lim, .int .i64 peer, .string (bs us), .slice A10 ky.length c10, .bool true, .bool ge, .int .u32 q0, .int .u32 q1, .int .u32 q2] := ⟨_, rfl⟩
  have hcl : cv.toList.length = 23 := by rw [hcv]; rfl
  have HX3 := hide HX.out.2.1
  have HX3c := hide (show Blk W0 w.heap.size 30 cv from by rw [hcv]; exact HX.out.2.1)
  have HCp := hide (show ∀ W, Below w.heap.size w W → Calls Tryz.prog 58 #[.agg cv] W _ from by rw [hcv]; exact HCp.out)
  clear hcv
  go_upto_region 2 with fail
  refine wp_region_E (fun W => Below W0.heap.size W0 W) (fun i => decide (i < 35)) (by kernel_rfl) ?_
  obtain ⟨Wd, hWd⟩ : ∃ Wd, Wd = W0.drew := ⟨_, rfl⟩
  have hSd : Below W0.heap.size W0 Wd := by rw [hWd]; exact (Below.refl _ _).drew
  rw [← hWd]
  clear hWd
  refine wpAnyE_take (i := 0) (oi := ?_) (v := .int .i64 x) ?_ ?_ ?_ ?_ ?_ ?_ ?_ hSd ?_
  rotate_left 1
  · (first | (simp only [List.getElem?_toArray, List.getElem?_cons_succ, List.getElem?_cons_zero]; exact rfl) | exact rfl)
  · kernel_rfl
  · kernel_rfl
  · kernel_rfl
  · kernel_rfl
  · exact fun _ _ _ h => h
  · refine Or.inl ⟨by rfl, fun w hSw => ?_⟩
    clear hSw
    go_simp
  try simp only [Act.put, List.setIfInBounds_toArray, List.set_cons_zero, List.set_cons_succ]
  refine wpAnyE_take (i := 1) (oi := ?_) (v := .int .i64 e) ?_ ?_ ?_ ?_ ?_ ?_ ?_ hSd ?_
  rotate_left 1
  · (first | (simp only [List.getElem?_toArray, List.getElem?_cons_succ, List.getElem?_cons_zero]; exact rfl) | exact rfl)
  · kernel_rfl
  · kernel_rfl
  · kernel_rfl
  · kernel_rfl
  · exact fun _ _ _ h => h
  · refine Or.inl ⟨by rfl, fun w hSw => ?_⟩
    clear hSw
    go_simp
  try simp only [Act.put, List.setIfInBounds_toArray, List.set_cons_zero, List.set_cons_succ]
  refine wpAnyE_take (i := 3) (oi := ?_) (v := .agg cv) ?_ ?_ ?_ ?_ ?_ ?_ ?_ hSd ?_
  rotate_left 1
  · (first | (simp only [List.getElem?_toArray, List.getElem?_cons_succ, List.getElem?_cons_zero]; exact rfl) | exact rfl)
  · kernel_rfl
  · kernel_rfl
  · kernel_rfl
  · kernel_rfl
  · exact fun _ _ _ h => h
  · exact Or.inl ⟨by rfl, fun w hSw => load_confR (x := .tmp 3) _ rfl _ (by rfl) (HX3c.out.below hSw HX3c.out.lt) hcl⟩
  try simp only [Act.put, List.setIfInBounds_toArray, List.set_cons_zero, List.set_cons_succ]
  refine wpAnyE_take (i := 6) (oi := ?_) (v := .pointer (some ⟨w.heap.size, 0, none⟩)) ?_ ?_ ?_ ?_ ?_ ?_ ?_ hSd ?_
  rotate_left 1
  · (first | (simp only [List.getElem?_toArray, List.getElem?_cons_succ, List.getElem?_cons_zero]; exact rfl) | exact rfl)
  · kernel_rfl
  · kernel_rfl
  · kernel_rfl
  · kernel_rfl
  · exact fun _ _ _ h => h
  · refine Or.inl ⟨by rfl, fun w hSw => ?_⟩
    clear hSw
    go_simp
  try simp only [Act.put, List.setIfInBounds_toArray, List.set_cons_zero, List.set_cons_succ]
  refine wpAnyE_take (i := 7) (oi := ?_) (v := .bool false) ?_ ?_ ?_ ?_ ?_ ?_ ?_ hSd ?_
  rotate_left 1
  · (first | (simp only [List.getElem?_toArray, List.getElem?_cons_succ, List.getElem?_cons_zero]; exact rfl) | exact rfl)
  · kernel_rfl
  · kernel_rfl
  · kernel_rfl
  · kernel_rfl
  · exact fun _ _ _ h => h
  · refine Or.inl ⟨by rfl, fun w hSw => ?_⟩
    have hX := HX3.out.below hSw HX3.out.lt
    have y := hX.cell 0
    have z := hX.frozen 0
    simp only [List.getElem?_toArray, List.getElem?_cons_zero, List.getElem?_cons_succ] at y
    clear hSw
    go_simp
  try simp only [Act.put, List.setIfInBounds_toArray, List.set_cons_zero, List.set_cons_succ]
  refine wpAnyE_take (i := 8) (oi := ?_) (v := .bool true) ?_ ?_ ?_ ?_ ?_ ?_ ?_ hSd ?_
  rotate_left 1
  · (first | (simp only [List.getElem?_toArray, List.getElem?_cons_succ, List.getElem?_cons_zero]; exact rfl) | exact rfl)
  · kernel_rfl
  · kernel_rfl
  · kernel_rfl
  · kernel_rfl
  · exact fun _ _ _ h => h
  · refine Or.inl ⟨by rfl, fun w hSw => ?_⟩
    clear hSw
    go_simp
  try simp only [Act.put, List.setIfInBounds_toArray, List.set_cons_zero, List.set_cons_succ]
  refine wpAnyE_take (i := 16) (oi := ?_) (v := .pointer (some ⟨w.heap.size, 0, none⟩)) ?_ ?_ ?_ ?_ ?_ ?_ ?_ hSd ?_
  rotate_left 1
  · (first | (simp only [List.getElem?_toArray, List.getElem?_cons_succ, List.getElem?_cons_zero]; exact rfl) | exact rfl)
  · kernel_rfl
  · kernel_rfl
  · kernel_rfl
  · kernel_rfl
  · exact fun _ _ _ h => h
  · refine Or.inl ⟨by rfl, fun w hSw => ?_⟩
    clear hSw
    go_simp
  try simp only [Act.put, List.setIfInBounds_toArray, List.set_cons_zero, List.set_cons_succ]
  refine wpAnyE_take (i := 17) (oi := ?_) (v := .bool false) ?_ ?_ ?_ ?_ ?_ ?_ ?_ hSd ?_
  rotate_left 1
  · (first | (simp only [List.getElem?_toArray, List.getElem?_cons_succ, List.getElem?_cons_zero]; exact rfl) | exact rfl)
  · kernel_rfl
  · kernel_rfl
  · kernel_rfl
  · kernel_rfl
  · exact fun _ _ _ h => h
  · refine Or.inl ⟨by rfl, fun w hSw => ?_⟩
    have hX := HX3.out.below hSw HX3.out.lt
    have y := hX.cell 0
    have z := hX.frozen 0
    simp only [List.getElem?_toArray, List.getElem?_cons_zero, List.getElem?_cons_succ] at y
    clear hSw
    go_simp
  try simp only [Act.put, List.setIfInBounds_toArray, List.set_cons_zero, List.set_cons_succ]
  refine wpAnyE_take (i := 18) (oi := ?_) (v := .bool true) ?_ ?_ ?_ ?_ ?_ ?_ ?_ hSd ?_
  rotate_left 1
  · (first | (simp only [List.getElem?_toArray, List.getElem?_cons_succ, List.getElem?_cons_zero]; exact rfl) | exact rfl)
  · kernel_rfl
  · kernel_rfl
  · kernel_rfl
  · kernel_rfl
  · exact fun _ _ _ h => h
  · refine Or.inl ⟨by rfl, fun w hSw => ?_⟩
    clear hSw
    go_simp
  try simp only [Act.put, List.setIfInBounds_toArray, List.set_cons_zero, List.set_cons_succ]
  refine wpAnyE_take (i := 22) (oi := ?_) (v := .pointer (some ⟨w.heap.size, 0, none⟩)) ?_ ?_ ?_ ?_ ?_ ?_ ?_ hSd ?_
  rotate_left 1
  · (first | (simp only [List.getElem?_toArray, List.getElem?_cons_succ, List.getElem?_cons_zero]; exact rfl) | exact rfl)
  · kernel_rfl
  · kernel_rfl
  · kernel_rfl
  · kernel_rfl
  · exact fun _ _ _ h => h
  · refine Or.inl ⟨by rfl, fun w hSw => ?_⟩
    clear hSw
    go_simp
  try simp only [Act.put, List.setIfInBounds_toArray, List.set_cons_zero, List.set_cons_succ]
  refine wpAnyE_take (i := 23) (oi := ?_) (v := .bool false) ?_ ?_ ?_ ?_ ?_ ?_ ?_ hSd ?_
  rotate_left 1
  · (first | (simp only [List.getElem?_toArray, List.getElem?_cons_succ, List.getElem?_cons_zero]; exact rfl) | exact rfl)
  · kernel_rfl
  · kernel_rfl
  · kernel_rfl
  · kernel_rfl
  · exact fun _ _ _ h => h
  · refine Or.inl ⟨by rfl, fun w hSw => ?_⟩
    have hX := HX3.out.below hSw HX3.out.lt
    have y := hX.cell 0
    have z := hX.frozen 0
    simp only [List.getElem?_toArray, List.getElem?_cons_zero, List.getElem?_cons_succ] at y
    clear hSw
    go_simp
  try simp only [Act.put, List.setIfInBounds_toArray, List.set_cons_zero, List.set_cons_succ]
  refine wpAnyE_take (i := 27) (oi := ?_) (v := .pointer (some ⟨w.heap.size, 0, none⟩)) ?_ ?_ ?_ ?_ ?_ ?_ ?_ hSd ?_
  rotate_left 1
  · (first | (simp only [List.getElem?_toArray, List.getElem?_cons_succ, List.getElem?_cons_zero]; exact rfl) | exact rfl)
  · kernel_rfl
  · kernel_rfl
  · kernel_rfl
  · kernel_rfl
  · exact fun _ _ _ h => h
  · refine Or.inl ⟨by rfl, fun w hSw => ?_⟩
    clear hSw
    go_simp
  try simp only [Act.put, List.setIfInBounds_toArray, List.set_cons_zero, List.set_cons_succ]
  refine wpAnyE_take (i := 28) (oi := ?_) (v := .bool false) ?_ ?_ ?_ ?_ ?_ ?_ ?_ hSd ?_
  rotate_left 1
  · (first | (simp only [List.getElem?_toArray, List.getElem?_cons_succ, List.getElem?_cons_zero]; exact rfl) | exact rfl)
  · kernel_rfl
  · kernel_rfl
  · kernel_rfl
  · kernel_rfl
  · exact fun _ _ _ h => h
  · refine Or.inl ⟨by rfl, fun w hSw => ?_⟩
    have hX := HX3.out.below hSw HX3.out.lt
    have y := hX.cell 0
    have z := hX.frozen 0
    simp only [List.getElem?_toArray, List.getElem?_cons_zero, List.getElem?_cons_succ] at y
    clear hSw
    go_simp
  try simp only [Act.put, List.setIfInBounds_toArray, List.set_cons_zero, List.set_cons_succ]
  refine wpAnyE_take (i := 29) (oi := ?_) (v := .bool true) ?_ ?_ ?_ ?_ ?_ ?_ ?_ hSd ?_
  rotate_left 1
  · (first | (simp only [List.getElem?_toArray, List.getElem?_cons_succ, List.getElem?_cons_zero]; exact rfl) | exact rfl)
  · kernel_rfl
  · kernel_rfl
  · kernel_rfl
  · kernel_rfl
  · exact fun _ _ _ h => h
  · refine Or.inl ⟨by rfl, fun w hSw => ?_⟩
    clear hSw
    go_simp
  try simp only [Act.put, List.setIfInBounds_toArray, List.set_cons_zero, List.set_cons_succ]
  refine wpAnyE_ready (rs := [2]) (by kernel_rfl) (by simp) ?_
  refine AllReadyE.cons (o := ?_) ?_ (fun K hK => ?_) AllReadyE.nil
  rotate_left 1
  · (first | (simp only [List.getElem?_toArray, List.getElem?_cons_succ, List.getElem?_cons_zero]; exact rfl) | exact rfl)
  refine step_callN (f := 37) rfl (callCk (x := .tmp 10) (y := .tmp 11) _ rfl _ (by rfl) (by rfl) _) (HK.out _) ?_
  rintro o wp ⟨r, rfl, hr, hbp⟩
  refine ⟨_, rfl, ?_⟩
  have hSp := hSd.trans (hbp.mono hSd.size)
  refine hK.out _ _ hSp (fun _ => ?_)
  clear hK K
  try simp only [Act.put, List.setIfInBounds_toArray, List.set_cons_zero, List.set_cons_succ]
  refine wpAnyE_ready (rs := [4]) (by kernel_rfl) (by simp) ?_
  refine AllReadyE.cons (o := ?_) ?_ (fun K hK => ?_) AllReadyE.nil
  rotate_left 1
  · (first | (simp only [List.getElem?_toArray, List.getElem?_cons_succ, List.getElem?_cons_zero]; exact rfl) | exact rfl)
  refine step_callN (f := 58) rfl (callCp (x := .tmp 13) _ rfl _ (by rfl) _) (HCp.out _ (hb03.trans (hSp.mono hb03.size))) ?_
  rintro o wq ⟨B0, m0, d0, B1, m1, d1, B2, m2, d2, B3, m3, d3, B4, m4, d4, B5, m5, d5, B6, m6, d6, B7, m7, d7, B8, d8, B9, d9, B10, d10, rfl, hN, _, _, _, hbq⟩
  refine ⟨_, rfl, ?_⟩
  have hSq := hSp.trans (hbq.mono hSp.size)
  refine hK.out _ _ hSq (fun _ => ?_)
  clear hK K
  try simp only [Act.put, List.setIfInBounds_toArray, List.set_cons_zero, List.set_cons_succ]
  refine wpAnyE_take (i := 5) (oi := ?_) (v := .agg #[.slice B0 m0 d0, .slice B1 m1 d1, .slice B2 m2 d2, .slice B3 m3 d3, .slice B4 m4 d4, .slice B5 m5 d5, .slice B6 m6 d6, .slice B7 m7 d7]) ?_ ?_ ?_ ?_ ?_ ?_ ?_ hSq ?_
  rotate_left 1
  · (first | (simp only [List.getElem?_toArray, List.getElem?_cons_succ, List.getElem?_cons_zero]; exact rfl) | exact rfl)
  · kernel_rfl
  · kernel_rfl
  · kernel_rfl
  · kernel_rfl
  · exact fun _ _ _ h => h
  · refine Or.inl ⟨by rfl, fun w hSw => ?_⟩
    clear hSw
    go_simp
  try simp only [Act.put, List.setIfInBounds_toArray, List.set_cons_zero, List.set_cons_succ]
  refine wpAnyE_take (i := 9) (oi := ?_) (v := .bool true) ?_ ?_ ?_ ?_ ?_ ?_ ?_ hSq ?_
  rotate_left 1
  · (first | (simp only [List.getElem?_toArray, List.getElem?_cons_succ, List.getElem?_cons_zero]; exact rfl) | exact rfl)
  · kernel_rfl
  · kernel_rfl
  · kernel_rfl
  · kernel_rfl
  · exact fun _ _ _ h => h
  · refine Or.inl ⟨by rfl, fun w hSw => ?_⟩
    clear hSw
    go_simp
  try simp only [Act.put, List.setIfInBounds_toArray, List.set_cons_zero, List.set_cons_succ]
  refine wpAnyE_take (i := 10) (oi := ?_) (v := .pointer (some ⟨w.heap.size, 18, none⟩)) ?_ ?_ ?_ ?_ ?_ ?_ ?_ hSq ?_
  rotate_left 1
  · (first | (simp only [List.getElem?_toArray, List.getElem?_cons_succ, List.getElem?_cons_zero]; exact rfl) | exact rfl)
  · kernel_rfl
  · kernel_rfl
  · kernel_rfl
  · kernel_rfl
  · exact fun _ _ _ h => h
  · refine Or.inl ⟨by rfl, fun w hSw => ?_⟩
    clear hSw
    go_simp
  try simp only [Act.put, List.setIfInBounds_toArray, List.set_cons_zero, List.set_cons_succ]
  refine wpAnyE_take (i := 11) (oi := ?_) (v := .bool true) ?_ ?_ ?_ ?_ ?_ ?_ ?_ hSq ?_
  rotate_left 1
  · (first | (simp only [List.getElem?_toArray, List.getElem?_cons_succ, List.getElem?_cons_zero]; exact rfl) | exact rfl)
  · kernel_rfl
  · kernel_rfl
  · kernel_rfl
  · kernel_rfl
  · exact fun _ _ _ h => h
  · refine Or.inl ⟨by rfl, fun w hSw => ?_⟩
    have hX := HX3.out.below hSw HX3.out.lt
    have y := hX.cell 18
    have z := hX.frozen 18
    simp only [List.getElem?_toArray, List.getElem?_cons_zero, List.getElem?_cons_succ] at y
    clear hSw
    go_simp
  try simp only [Act.put, List.setIfInBounds_toArray, List.set_cons_zero, List.set_cons_succ]
  refine wpAnyE_take (i := 12) (oi := ?_) (v := .bool true) ?_ ?_ ?_ ?_ ?_ ?_ ?_ hSq ?_
  rotate_left 1
  · (first | (simp only [List.getElem?_toArray, List.getElem?_cons_succ, List.getElem?_cons_zero]; exact rfl) | exact rfl)
  · kernel_rfl
  · kernel_rfl
  · kernel_rfl
  · kernel_rfl
  · exact fun _ _ _ h => h
  · refine Or.inl ⟨by rfl, fun w hSw => ?_⟩
    clear hSw
    go_simp
  try simp only [Act.put, List.setIfInBounds_toArray, List.set_cons_zero, List.set_cons_succ]
  refine wpAnyE_take (i := 13) (oi := ?_) (v := .bool true) ?_ ?_ ?_ ?_ ?_ ?_ ?_ hSq ?_
  rotate_left 1
  · (first | (simp only [List.getElem?_toArray, List.getElem?_cons_succ, List.getElem?_cons_zero]; exact rfl) | exact rfl)
  · kernel_rfl
  · kernel_rfl
  · kernel_rfl
  · kernel_rfl
  · exact fun _ _ _ h => h
  · refine Or.inl ⟨by rfl, fun w hSw => ?_⟩
    clear hSw
    go_simp
  try simp only [Act.put, List.setIfInBounds_toArray, List.set_cons_zero, List.set_cons_succ]
  refine wpAnyE_take (i := 14) (oi := ?_) (v := .bool fz) ?_ ?_ ?_ ?_ ?_ ?_ ?_ hSq ?_
  rotate_left 1
  · (first | (simp only [List.getElem?_toArray, List.getElem?_cons_succ, List.getElem?_cons_zero]; exact rfl) | exact rfl)
  · kernel_rfl
  · kernel_rfl
  · kernel_rfl
  · kernel_rfl
  · exact fun _ _ _ h => h
  · refine Or.inl ⟨by rfl, fun w hSw => ?_⟩
    clear hSw
    go_simp
  try simp only [Act.put, List.setIfInBounds_toArray, List.set_cons_zero, List.set_cons_succ]
  refine wpAnyE_take (i := 15) (oi := ?_) (v := .bool fz) ?_ ?_ ?_ ?_ ?_ ?_ ?_ hSq ?_
  rotate_left 1
  · (first | (simp only [List.getElem?_toArray, List.getElem?_cons_succ, List.getElem?_cons_zero]; exact rfl) | exact rfl)
  · kernel_rfl
  · kernel_rfl
  · kernel_rfl
  · kernel_rfl
  · exact fun _ _ _ h => h
  · refine Or.inl ⟨by rfl, fun w hSw => ?_⟩
    clear hSw
    go_simp
  try simp only [Act.put, List.setIfInBounds_toArray, List.set_cons_zero, List.set_cons_succ]
  refine wpAnyE_take (i := 19) (oi := ?_) (v := .bool true) ?_ ?_ ?_ ?_ ?_ ?_ ?_ hSq ?_
  rotate_left 1
  · (first | (simp only [List.getElem?_toArray, List.getElem?_cons_succ, List.getElem?_cons_zero]; exact rfl) | exact rfl)
  · kernel_rfl
  · kernel_rfl
  · kernel_rfl
  · kernel_rfl
  · exact fun _ _ _ h => h
  · refine Or.inl ⟨by rfl, fun w hSw => ?_⟩
    clear hSw
    go_simp
  try simp only [Act.put, List.setIfInBounds_toArray, List.set_cons_zero, List.set_cons_succ]
  refine wpAnyE_take (i := 20) (oi := ?_) (v := .bool fz) ?_ ?_ ?_ ?_ ?_ ?_ ?_ hSq ?_
  rotate_left 1
  · (first | (simp only [List.getElem?_toArray, List.getElem?_cons_succ, List.getElem?_cons_zero]; exact rfl) | exact rfl)
  · kernel_rfl
  · kernel_rfl
  · kernel_rfl
  · kernel_rfl
  · exact fun _ _ _ h => h
  · refine Or.inl ⟨by rfl, fun w hSw => ?_⟩
    clear hSw
    go_simp
  try simp only [Act.put, List.setIfInBounds_toArray, List.set_cons_zero, List.set_cons_succ]
  refine wpAnyE_take (i := 21) (oi := ?_) (v := .bool fz) ?_ ?_ ?_ ?_ ?_ ?_ ?_ hSq ?_
  rotate_left 1
  · (first | (simp only [List.getElem?_toArray, List.getElem?_cons_succ, List.getElem?_cons_zero]; exact rfl) | exact rfl)
  · kernel_rfl
  · kernel_rfl
  · kernel_rfl
  · kernel_rfl
  · exact fun _ _ _ h => h
  · refine Or.inl ⟨by rfl, fun w hSw => ?_⟩
    clear hSw
    go_simp
  try simp only [Act.put, List.setIfInBounds_toArray, List.set_cons_zero, List.set_cons_succ]
  refine wpAnyE_take (i := 24) (oi := ?_) (v := .bool false) ?_ ?_ ?_ ?_ ?_ ?_ ?_ hSq ?_
  rotate_left 1
  · (first | (simp only [List.getElem?_toArray, List.getElem?_cons_succ, List.getElem?_cons_zero]; exact rfl) | exact rfl)
  · kernel_rfl
  · kernel_rfl
  · kernel_rfl
  · kernel_rfl
  · exact fun _ _ _ h => h
  · refine Or.inl ⟨by rfl, fun w hSw => ?_⟩
    clear hSw
    go_simp
  try simp only [Act.put, List.setIfInBounds_toArray, List.set_cons_zero, List.set_cons_succ]
  refine wpAnyE_take (i := 25) (oi := ?_) (v := undef) ?_ ?_ ?_ ?_ ?_ ?_ ?_ hSq ?_
  rotate_left 1
  · (first | (simp only [List.getElem?_toArray, List.getElem?_cons_succ, List.getElem?_cons_zero]; exact rfl) | exact rfl)
  · kernel_rfl
  · kernel_rfl
  · kernel_rfl
  · kernel_rfl
  · exact fun _ _ _ h => h
  · exact Or.inr ⟨by rfl, rfl⟩
  try simp only [Act.put, List.setIfInBounds_toArray, List.set_cons_zero, List.set_cons_succ]
  refine wpAnyE_take (i := 26) (oi := ?_) (v := .bool false) ?_ ?_ ?_ ?_ ?_ ?_ ?_ hSq ?_
  rotate_left 1
  · (first | (simp only [List.getElem?_toArray, List.getElem?_cons_succ, List.getElem?_cons_zero]; exact rfl) | exact rfl)
  · kernel_rfl
  · kernel_rfl
  · kernel_rfl
  · kernel_rfl
  · exact fun _ _ _ h => h
  · refine Or.inl ⟨by rfl, fun w hSw => ?_⟩
    clear hSw
    go_simp
  try simp only [Act.put, List.setIfInBounds_toArray, List.set_cons_zero, List.set_cons_succ]
  refine wpAnyE_take (i := 30) (oi := ?_) (v := .bool true) ?_ ?_ ?_ ?_ ?_ ?_ ?_ hSq ?_
  rotate_left 1
  · (first | (simp only [List.getElem?_toArray, List.getElem?_cons_succ, List.getElem?_cons_zero]; exact rfl) | exact rfl)
  · kernel_rfl
  · kernel_rfl
  · kernel_rfl
  · kernel_rfl
  · exact fun _ _ _ h => h
  · refine Or.inl ⟨by rfl, fun w hSw => ?_⟩
    clear hSw
    go_simp
  try simp only [Act.put, List.setIfInBounds_toArray, List.set_cons_zero, List.set_cons_succ]
  refine wpAnyE_take (i := 31) (oi := ?_) (v := .pointer (some ⟨w.heap.size, 19, none⟩)) ?_ ?_ ?_ ?_ ?_ ?_ ?_ hSq ?_
  rotate_left 1
  · (first | (simp only [List.getElem?_toArray, List.getElem?_cons_succ, List.getElem?_cons_zero]; exact rfl) | exact rfl)
  · kernel_rfl
  · kernel_rfl
  · kernel_rfl
  · kernel_rfl
  · exact fun _ _ _ h => h
  · refine Or.inl ⟨by rfl, fun w hSw => ?_⟩
    clear hSw
    go_simp
  try simp only [Act.put, List.setIfInBounds_toArray, List.set_cons_zero, List.set_cons_succ]
  refine wpAnyE_take (i := 32) (oi := ?_) (v := .bool ge) ?_ ?_ ?_ ?_ ?_ ?_ ?_ hSq ?_
  rotate_left 1
  · (first | (simp only [List.getElem?_toArray, List.getElem?_cons_succ, List.getElem?_cons_zero]; exact rfl) | exact rfl)
  · kernel_rfl
  · kernel_rfl
  · kernel_rfl
  · kernel_rfl
  · exact fun _ _ _ h => h
  · refine Or.inl ⟨by rfl, fun w hSw => ?_⟩
    have hX := HX3.out.below hSw HX3.out.lt
    have y := hX.cell 19
    have z := hX.frozen 19
    simp only [List.getElem?_toArray, List.getElem?_cons_zero, List.getElem?_cons_succ] at y
    clear hSw
    go_simp
  try simp only [Act.put, List.setIfInBounds_toArray, List.set_cons_zero, List.set_cons_succ]
  refine wpAnyE_take (i := 33) (oi := ?_) (v := .bool ge) ?_ ?_ ?_ ?_ ?_ ?_ ?_ hSq ?_
  rotate_left 1
  · (first | (simp only [List.getElem?_toArray, List.getElem?_cons_succ, List.getElem?_cons_zero]; exact rfl) | exact rfl)
  · kernel_rfl
  · kernel_rfl
  · kernel_rfl
  · kernel_rfl
  · exact fun _ _ _ h => h
  · refine Or.inl ⟨by rfl, fun w hSw => ?_⟩
    clear hSw
    go_simp
  try simp only [Act.put, List.setIfInBounds_toArray, List.set_cons_zero, List.set_cons_succ]
  refine wpAnyE_take (i := 34) (oi := ?_) (v := .agg #[.string r, .slice B0 m0 d0, .slice B1 m1 d1, .slice B2 m2 d2, .slice B3 m3 d3, .slice B4 m4 d4, .slice B5 m5 d5, .slice B6 m6 d6, .slice B7 m7 d7, .slice none 0 0, .slice none 0 0, .bool fz, .bool false, .bool fz, .bool false, .bool ge]) ?_ ?_ ?_ ?_ ?_ ?_ ?_ hSq ?_
  rotate_left 1
  · (first | (simp only [List.getElem?_toArray, List.getElem?_cons_succ, List.getElem?_cons_zero]; exact rfl) | exact rfl)
  · kernel_rfl
  · kernel_rfl
  · kernel_rfl
  · kernel_rfl
  · exact fun _ _ _ h => h
  · refine Or.inl ⟨by rfl, fun w hSw => ?_⟩
    clear hSw
    go_simp
  try simp only [Act.put, List.setIfInBounds_toArray, List.set_cons_zero, List.set_cons_succ]
  have hRq := HX.out.2.2.below hSq hltR
  refine wpAnyE_ready (rs := [35]) (by kernel_rfl) (by simp) ?_
  refine AllReadyE.late (o := ?_) ?_ rfl (fun K hK => ?_) AllReadyE.nil
  rotate_left 1
  · (first | (simp only [List.getElem?_toArray, List.getElem?_cons_succ, List.getElem?_cons_zero]; exact rfl) | exact rfl)
  refine step_store_mid rfl 45 (.tmp 6) (.tmp 44) rfl (w.heap.size + 1) 0 #[.string r, .slice B0 m0 d0, .slice B1 m1 d1, .slice B2 m2 d2, .slice B3 m3 d3, .slice B4 m4 d4, .slice B5 m5 d5, .slice B6 m6 d6, .slice B7 m7 d7, .slice none 0 0, .slice none 0 0, .bool fz, .bool false, .bool fz, .bool false, .bool ge] (by rfl) (by rfl) (blk_there_at hRq (by simp [zeroI])) infoInit16 (by simp [Value.oneCell']) ?_
  refine hK.out _ _ ?_
  clear hK K
  have hRr : Blk (wq.setCells (w.heap.size + 1) 0 [.string r, .slice B0 m0 d0, .slice B1 m1 d1, .slice B2 m2 d2, .slice B3 m3 d3, .slice B4 m4 d4, .slice B5 m5 d5, .slice B6 m6 d6, .slice B7 m7 d7, .slice none 0 0, .slice none 0 0, .bool fz, .bool false, .bool fz, .bool false, .bool ge]) (w.heap.size + 1) 45 #[.string r, .slice B0 m0 d0, .slice B1 m1 d1, .slice B2 m2 d2, .slice B3 m3 d3, .slice B4 m4 d4, .slice B5 m5 d5, .slice B6 m6 d6, .slice B7 m7 d7, .slice none 0 0, .slice none 0 0, .bool fz, .bool false, .bool fz, .bool false, .bool ge] := by
    have h9 := Blk.setCells [.string r, .slice B0 m0 d0, .slice B1 m1 d1, .slice B2 m2 d2, .slice B3 m3 d3, .slice B4 m4 d4, .slice B5 m5 d5, .slice B6 m6 d6, .slice B7 m7 d7, .slice none 0 0, .slice none 0 0, .bool fz, .bool false, .bool fz, .bool false, .bool ge] 0 hRq
    rw [wrA_all (by rfl)] at h9
    exact h9
  have hbr := hide (below_setCells (b := w.heap.size + 1) (by omega) [.string r, .slice B0 m0 d0, .slice B1 m1 d1, .slice B2 m2 d2, .slice B3 m3 d3, .slice B4 m4 d4, .slice B5 m5 d5, .slice B6 m6 d6, .slice B7 m7 d7, .slice none 0 0, .slice none 0 0, .bool fz, .bool false, .bool fz, .bool false, .bool ge] 0 (hb03.trans (hSq.mono hb03.size)))
  have hnr := hide (show ∀ (i : Nat) v l, ([.slice B0 m0 d0, .slice B1 m1 d1, .slice B2 m2 d2, .slice B3 m3 d3, .slice B4 m4 d4, .slice B5 m5 d5, .slice B6 m6 d6, .slice B7 m7 d7] : List Value)[i]? = some v → ls[i]? = some l → NewC w.heap.size (wq.setCells (w.heap.size + 1) 0 [.string r, .slice B0 m0 d0, .slice B1 m1 d1, .slice B2 m2 d2, .slice B3 m3 d3, .slice B4 m4 d4, .slice B5 m5 d5, .slice B6 m6 d6, .slice B7 m7 d7, .slice none 0 0, .slice none 0 0, .bool fz, .bool false, .bool fz, .bool false, .bool ge]) v l from fun i v l h1 h2 => (NewC.setCells (by have := hSp.size; omega) [.string r, .slice B0 m0 d0, .slice B1 m1 d1, .slice B2 m2 d2, .slice B3 m3 d3, .slice B4 m4 d4, .slice B5 m5 d5, .slice B6 m6 d6, .slice B7 m7 d7, .slice none 0 0, .slice none 0 0, .bool fz, .bool false, .bool fz, .bool false, .bool ge] 0 (hN i v l h1 h2)).mono (by have := hSp.size; omega))
  show wpAnyE _ _ _ _ _ _ _ _ _ (wq.setCells (w.heap.size + 1) 0 [.string r, .slice B0 m0 d0, .slice B1 m1 d1, .slice B2 m2 d2, .slice B3 m3 d3, .slice B4 m4 d4, .slice B5 m5 d5, .slice B6 m6 d6, .slice B7 m7 d7, .slice none 0 0, .slice none 0 0, .bool fz, .bool false, .bool fz, .bool false, .bool ge])
  generalize wq.setCells (w.heap.size + 1) 0 [.string r, .slice B0 m0 d0, .slice B1 m1 d1, .slice B2 m2 d2, .slice B3 m3 d3, .slice B4 m4 d4, .slice B5 m5 d5, .slice B6 m6 d6, .slice B7 m7 d7, .slice none 0 0, .slice none 0 0, .bool fz, .bool false, .bool fz, .bool false, .bool ge] = wr at hRr hbr hnr ⊢
  clear hSd hSp hSq hRq hN hbp hbq HX HX3 HX3c HCp HK
  have HRr := hide hRr
  clear hRr
  refine wpAnyE_done (by kernel_rfl) ?_ _
  try simp only [Act.put, List.setIfInBounds_toArray, List.set_cons_zero, List.set_cons_succ]
  go_wp2_with fail
  refine bodyPost_ret (results_init rfl (by rfl) HRr.out rfl) rfl ?_
  have hz := HZ.out
  subst hz
  exact ⟨r, B0, m0, d0, B1, m1, d1, B2, m2, d2, B3, m3, d3, B4, m4, d4, B5, m5, d5, B6, m6, d6, B7, m7, d7, rfl, hr, hnr.out, hbr.out⟩
set_option maxHeartbeats 8000000 in
set_option maxRecDepth 100000 in
theorem cinit_n {ge : Bool} {sw cm us : List UInt8} {A0 A1 A2 A3 A4 A5 A6 A7 A8 A9 A10 : Option Addr} {n0 n1 n2 n3 n4 n5 n6 n7 c0 c1 c2 c3 c4 c5 c6 c7 c8 c9 c10 : Nat} {al : List (List UInt8)} {own lim peer q0 q1 q2 : Int} {gr : List (List UInt8 × Int)} {ky : List Int} {ls : List (List (List UInt8))} {x e : Int} (hx : x ≤ 9223372036854775807) (he : e ≤ 9223372036854775807) (hC : CfM w sw cm us [.slice A0 n0 c0, .slice A1 n1 c1, .slice A2 n2 c2, .slice A3 n3 c3, .slice A4 n4 c4, .slice A5 n5 c5, .slice A6 n6 c6, .slice A7 n7 c7] ls A8 c8 al A9 gr A10 ky) : Calls Tryz.prog 21 #[.agg #[.bool false, .string (bs sw), .string (bs cm), .slice A0 n0 c0, .slice A1 n1 c1, .slice A2 n2 c2, .slice A3 n3 c3, .slice A4 n4 c4, .slice A5 n5 c5, .slice A6 n6 c6, .slice A7 n7 c7, .slice A8 al.length c8, .int .i64 own, .slice A9 gr.length c9, .int .i64 lim, .int .i64 peer, .string (bs us), .slice A10 ky.length c10, .bool false, .bool ge, .int .u32 q0, .int .u32 q1, .int .u32 q2], .int .i64 x, .int .i64 e] w (fun o w' => ∃ r B0 m0 d0 B1 m1 d1 B2 m2 d2 B3 m3 d3 B4 m4 d4 B5 m5 d5 B6 m6 d6 B7 m7 d7, o = .returned (.agg #[.string r, .slice B0 m0 d0, .slice B1 m1 d1, .slice B2 m2 d2, .slice B3 m3 d3, .slice B4 m4 d4, .slice B5 m5 d5, .slice B6 m6 d6, .slice B7 m7 d7, .slice none 0 0, .slice none 0 0, .bool false, .bool false, .bool (e == 0), .bool false, .bool ge]) ∧ r.data.toList = cookie x e ∧ (∀ (i : Nat) v l, ([.slice B0 m0 d0, .slice B1 m1 d1, .slice B2 m2 d2, .slice B3 m3 d3, .slice B4 m4 d4, .slice B5 m5 d5, .slice B6 m6 d6, .slice B7 m7 d7] : List Value)[i]? = some v → ls[i]? = some l → NewC w.heap.size w' v l) ∧ Below w.heap.size w w') := by
  obtain ⟨W0, hW0⟩ : ∃ W0, W0 = (w.alloc (.cells #[.bool false, .string (bs sw), .string (bs cm), .slice A0 n0 c0, .slice A1 n1 c1, .slice A2 n2 c2, .slice A3 n3 c3, .slice A4 n4 c4, .slice A5 n5 c5, .slice A6 n6 c6, .slice A7 n7 c7, .slice A8 al.length c8, .int .i64 own, .slice A9 gr.length c9, .int .i64 lim, .int .i64 peer, .string (bs us), .slice A10 ky.length c10, .bool false, .bool ge, .int .u32 q0, .int .u32 q1, .int .u32 q2] 30)).alloc (.cells zeroI 45) := ⟨_, rfl⟩
  have hb0 : Below w.heap.size w W0 := by rw [hW0]; (repeat (first | exact Below.refl _ _ | refine below_drewN ?_ _ | refine Below.drew ?_ | refine Below.alloc ?_ (by first | omega | (simp; done) | (simp; omega)) _ | refine Below.setCell ?_ (by first | omega | (simp; done) | (simp; omega)) _ | refine bel_alloc ?_ _ | refine bel_trans ?_ (by assumption) | refine Below.trans ?_ (Below.mono (by assumption) (by first | omega | (simp; done) | (simp; omega)))))
  have hX0 : Blk W0 w.heap.size 30 #[.bool false, .string (bs sw), .string (bs cm), .slice A0 n0 c0, .slice A1 n1 c1, .slice A2 n2 c2, .slice A3 n3 c3, .slice A4 n4 c4, .slice A5 n5 c5, .slice A6 n6 c6, .slice A7 n7 c7, .slice A8 al.length c8, .int .i64 own, .slice A9 gr.length c9, .int .i64 lim, .int .i64 peer, .string (bs us), .slice A10 ky.length c10, .bool false, .bool ge, .int .u32 q0, .int .u32 q1, .int .u32 q2] := by rw [hW0]; exact (Blk.new w _ _).alloc _
  have hR0 : Blk W0 (w.heap.size + 1) 45 zeroI := by rw [hW0]; exact blk_new2 w _ _ _
  have HK := hide (fun (W : World) => cookie_any x e W hx he)
  have HCp := hide (fun (W : World) (hb : Below w.heap.size w W) => copy_any (sv := false) (ex := false) (ge := ge) (own := own) (lim := lim) (peer := peer) (q0 := q0) (q1 := q1) (q2 := q2) (c9 := c9) (c10 := c10) (hC.below hb))
  have HX := hide (And.intro hb0 (And.intro hX0 hR0))
  have hltX := hX0.lt
  have hltR := hR0.lt
  clear hb0 hX0 hR0 hC hx he
  go_enter Tryz.func21, Tryz.ntmps21
  go_upto_region 1 with fail
  unfold zeroI at hW0
  rw [← hW0]
  clear hW0
  obtain ⟨fz, hfz⟩ : ∃ b, (e == (0 : Int)) = b := ⟨_, rfl⟩
  refine wp_region_lit ?_
  refine wpList_val (v := .int .i64 e) (w' := W0) rfl (by go_simp) ?_
  try simp only [Act.put, List.setIfInBounds_toArray, List.set_cons_zero, List.set_cons_succ]
  refine wpList_val (v := .bool fz) (w' := W0) rfl (by rw [← hfz]; go_simp) ?_
  try simp only [Act.put, List.setIfInBounds_toArray, List.set_cons_zero, List.set_cons_succ]
  have HZ := hide hfz
  clear hfz
  refine wpList_val (v := .bool fz) (w' := W0) rfl (by go_simp) ?_
  try simp only [Act.put, List.setIfInBounds_toArray, List.set_cons_zero, List.set_cons_succ]
  have hb03 := HX.out.1
  obtain ⟨cv, hcv⟩ : ∃ c : Array Value, c = #[.bool false, .string (bs sw), .string (bs cm), .slice A0 n0 c0, .slice A1 n1 c1, .slice A2 n2 c2, .slice A3 n3 c3, .slice A4 n4 c4, .slice A5 n5 c5, .slice A6 n6 c6, .slice A7 n7 c7, .slice A8 al.length c8, .int .i64 own, .slice A9 gr.length c9, .int .i64 lim, .int .i64 peer, .string (bs us), .slice A10 ky.length c10, .bool false, .bool ge, .int .u32 q0, .int .u32 q1, .int .u32 q2] := ⟨_, rfl⟩
  have hcl : cv.toList.length = 23 := by rw [hcv]; rfl
  have HX3 := hide HX.out.2.1
  have HX3c := hide (show Blk W0 w.heap.size 30 cv from by rw [hcv]; exact HX.out.2.1)
  have HCp := hide (show ∀ W, Below w.heap.size w W → Calls Tryz.prog 58 #[.agg cv] W _ from by rw [hcv]; exact HCp.out)
  clear hcv
  go_upto_region 2 with fail
  refine wp_region_E (fun W => Below W0.heap.size W0 W) (fun i => decide (i < 35)) (by kernel_rfl) ?_
  obtain ⟨Wd, hWd⟩ : ∃ Wd, Wd = W0.drew := ⟨_, rfl⟩
  have hSd : Below W0.heap.size W0 Wd := by rw [hWd]; exact (Below.refl _ _).drew
  rw [← hWd]
  clear hWd
  refine wpAnyE_take (i := 0) (oi := ?_) (v := .int .i64 x) ?_ ?_ ?_ ?_ ?_ ?_ ?_ hSd ?_
  rotate_left 1
  · (first | (simp only [List.getElem?_toArray, List.getElem?_cons_succ, List.getElem?_cons_zero]; exact rfl) | exact rfl)
  · kernel_rfl
  · kernel_rfl
  · kernel_rfl
  · kernel_rfl
  · exact fun _ _ _ h => h
  · refine Or.inl ⟨by rfl, fun w hSw => ?_⟩
    clear hSw
    go_simp
  try simp only [Act.put, List.setIfInBounds_toArray, List.set_cons_zero, List.set_cons_succ]
  refine wpAnyE_take (i := 1) (oi := ?_) (v := .int .i64 e) ?_ ?_ ?_ ?_ ?_ ?_ ?_ hSd ?_
  rotate_left 1
  · (first | (simp only [List.getElem?_toArray, List.getElem?_cons_succ, List.getElem?_cons_zero]; exact rfl) | exact rfl)
  · kernel_rfl
  · kernel_rfl
  · kernel_rfl
  · kernel_rfl
  · exact fun _ _ _ h => h
  · refine Or.inl ⟨by rfl, fun w hSw => ?_⟩
    clear hSw
    go_simp
  try simp only [Act.put, List.setIfInBounds_toArray, List.set_cons_zero, List.set_cons_succ]
  refine wpAnyE_take (i := 3) (oi := ?_) (v := .agg cv) ?_ ?_ ?_ ?_ ?_ ?_ ?_ hSd ?_
  rotate_left 1
  · (first | (simp only [List.getElem?_toArray, List.getElem?_cons_succ, List.getElem?_cons_zero]; exact rfl) | exact rfl)
  · kernel_rfl
  · kernel_rfl
  · kernel_rfl
  · kernel_rfl
  · exact fun _ _ _ h => h
  · exact Or.inl ⟨by rfl, fun w hSw => load_confR (x := .tmp 3) _ rfl _ (by rfl) (HX3c.out.below hSw HX3c.out.lt) hcl⟩
  try simp only [Act.put, List.setIfInBounds_toArray, List.set_cons_zero, List.set_cons_succ]
  refine wpAnyE_take (i := 6) (oi := ?_) (v := .pointer (some ⟨w.heap.size, 0, none⟩)) ?_ ?_ ?_ ?_ ?_ ?_ ?_ hSd ?_
  rotate_left 1
  · (first | (simp only [List.getElem?_toArray, List.getElem?_cons_succ, List.getElem?_cons_zero]; exact rfl) | exact rfl)
  · kernel_rfl
  · kernel_rfl
  · kernel_rfl
  · kernel_rfl
  · exact fun _ _ _ h => h
  · refine Or.inl ⟨by rfl, fun w hSw => ?_⟩
    clear hSw
    go_simp
  try simp only [Act.put, List.setIfInBounds_toArray, List.set_cons_zero, List.set_cons_succ]
  refine wpAnyE_take (i := 7) (oi := ?_) (v := .bool false) ?_ ?_ ?_ ?_ ?_ ?_ ?_ hSd ?_
  rotate_left 1
  · (first | (simp only [List.getElem?_toArray, List.getElem?_cons_succ, List.getElem?_cons_zero]; exact rfl) | exact rfl)
  · kernel_rfl
  · kernel_rfl
  · kernel_rfl
  · kernel_rfl
  · exact fun _ _ _ h => h
  · refine Or.inl ⟨by rfl, fun w hSw => ?_⟩
    have hX := HX3.out.below hSw HX3.out.lt
    have y := hX.cell 0
    have z := hX.frozen 0
    simp only [List.getElem?_toArray, List.getElem?_cons_zero, List.getElem?_cons_succ] at y
    clear hSw
    go_simp
  try simp only [Act.put, List.setIfInBounds_toArray, List.set_cons_zero, List.set_cons_succ]
  refine wpAnyE_take (i := 8) (oi := ?_) (v := .bool true) ?_ ?_ ?_ ?_ ?_ ?_ ?_ hSd ?_
  rotate_left 1
  · (first | (simp only [List.getElem?_toArray, List.getElem?_cons_succ, List.getElem?_cons_zero]; exact rfl) | exact rfl)
  · kernel_rfl
  · kernel_rfl
  · kernel_rfl
  · kernel_rfl
  · exact fun _ _ _ h => h
  · refine Or.inl ⟨by rfl, fun w hSw => ?_⟩
    clear hSw
    go_simp
  try simp only [Act.put, List.setIfInBounds_toArray, List.set_cons_zero, List.set_cons_succ]
  refine wpAnyE_take (i := 16) (oi := ?_) (v := .pointer (some ⟨w.heap.size, 0, none⟩)) ?_ ?_ ?_ ?_ ?_ ?_ ?_ hSd ?_
  rotate_left 1
  · (first | (simp only [List.getElem?_toArray, List.getElem?_cons_succ, List.getElem?_cons_zero]; exact rfl) | exact rfl)
  · kernel_rfl
  · kernel_rfl
  · kernel_rfl
  · kernel_rfl
  · exact fun _ _ _ h => h
  · refine Or.inl ⟨by rfl, fun w hSw => ?_⟩
    clear hSw
    go_simp
  try simp only [Act.put, List.setIfInBounds_toArray, List.set_cons_zero, List.set_cons_succ]
  refine wpAnyE_take (i := 17) (oi := ?_) (v := .bool false) ?_ ?_ ?_ ?_ ?_ ?_ ?_ hSd ?_
  rotate_left 1
  · (first | (simp only [List.getElem?_toArray, List.getElem?_cons_succ, List.getElem?_cons_zero]; exact rfl) | exact rfl)
  · kernel_rfl
  · kernel_rfl
  · kernel_rfl
  · kernel_rfl
  · exact fun _ _ _ h => h
  · refine Or.inl ⟨by rfl, fun w hSw => ?_⟩
    have hX := HX3.out.below hSw HX3.out.lt
    have y := hX.cell 0
    have z := hX.frozen 0
    simp only [List.getElem?_toArray, List.getElem?_cons_zero, List.getElem?_cons_succ] at y
    clear hSw
    go_simp
  try simp only [Act.put, List.setIfInBounds_toArray, List.set_cons_zero, List.set_cons_succ]
  refine wpAnyE_take (i := 18) (oi := ?_) (v := .bool true) ?_ ?_ ?_ ?_ ?_ ?_ ?_ hSd ?_
  rotate_left 1
  · (first | (simp only [List.getElem?_toArray, List.getElem?_cons_succ, List.getElem?_cons_zero]; exact rfl) | exact rfl)
  · kernel_rfl
  · kernel_rfl
  · kernel_rfl
  · kernel_rfl
  · exact fun _ _ _ h => h
  · refine Or.inl ⟨by rfl, fun w hSw => ?_⟩
    clear hSw
    go_simp
  try simp only [Act.put, List.setIfInBounds_toArray, List.set_cons_zero, List.set_cons_succ]
  refine wpAnyE_take (i := 22) (oi := ?_) (v := .pointer (some ⟨w.heap.size, 0, none⟩)) ?_ ?_ ?_ ?_ ?_ ?_ ?_ hSd ?_
  rotate_left 1
  · (first | (simp only [List.getElem?_toArray, List.getElem?_cons_succ, List.getElem?_cons_zero]; exact rfl) | exact rfl)
  · kernel_rfl
  · kernel_rfl
  · kernel_rfl
  · kernel_rfl
  · exact fun _ _ _ h => h
  · refine Or.inl ⟨by rfl, fun w hSw => ?_⟩
    clear hSw
    go_simp
  try simp only [Act.put, List.setIfInBounds_toArray, List.set_cons_zero, List.set_cons_succ]
  refine wpAnyE_take (i := 23) (oi := ?_) (v := .bool false) ?_ ?_ ?_ ?_ ?_ ?_ ?_ hSd ?_
  rotate_left 1
  · (first | (simp only [List.getElem?_toArray, List.getElem?_cons_succ, List.getElem?_cons_zero]; exact rfl) | exact rfl)
  · kernel_rfl
  · kernel_rfl
  · kernel_rfl
  · kernel_rfl
  · exact fun _ _ _ h => h
  · refine Or.inl ⟨by rfl, fun w hSw => ?_⟩
    have hX := HX3.out.below hSw HX3.out.lt
    have y := hX.cell 0
    have z := hX.frozen 0
    simp only [List.getElem?_toArray, List.getElem?_cons_zero, List.getElem?_cons_succ] at y
    clear hSw
    go_simp
  try simp only [Act.put, List.setIfInBounds_toArray, List.set_cons_zero, List.set_cons_succ]
  refine wpAnyE_take (i := 27) (oi := ?_) (v := .pointer (some ⟨w.heap.size, 0, none⟩)) ?_ ?_ ?_ ?_ ?_ ?_ ?_ hSd ?_
  rotate_left 1
  · (first | (simp only [List.getElem?_toArray, List.getElem?_cons_succ, List.getElem?_cons_zero]; exact rfl) | exact rfl)
  · kernel_rfl
  · kernel_rfl
  · kernel_rfl
  · kernel_rfl
  · exact fun _ _ _ h => h
  · refine Or.inl ⟨by rfl, fun w hSw => ?_⟩
    clear hSw
    go_simp
  try simp only [Act.put, List.setIfInBounds_toArray, List.set_cons_zero, List.set_cons_succ]
  refine wpAnyE_take (i := 28) (oi := ?_) (v := .bool false) ?_ ?_ ?_ ?_ ?_ ?_ ?_ hSd ?_
  rotate_left 1
  · (first | (simp only [List.getElem?_toArray, List.getElem?_cons_succ, List.getElem?_cons_zero]; exact rfl) | exact rfl)
  · kernel_rfl
  · kernel_rfl
  · kernel_rfl
  · kernel_rfl
  · exact fun _ _ _ h => h
  · refine Or.inl ⟨by rfl, fun w hSw => ?_⟩
    have hX := HX3.out.below hSw HX3.out.lt
    have y := hX.cell 0
    have z := hX.frozen 0
    simp only [List.getElem?_toArray, List.getElem?_cons_zero, List.getElem?_cons_succ] at y
    clear hSw
    go_simp
  try simp only [Act.put, List.setIfInBounds_toArray, List.set_cons_zero, List.set_cons_succ]
  refine wpAnyE_take (i := 29) (oi := ?_) (v := .bool true) ?_ ?_ ?_ ?_ ?_ ?_ ?_ hSd ?_
  rotate_left 1
  · (first | (simp only [List.getElem?_toArray, List.getElem?_cons_succ, List.getElem?_cons_zero]; exact rfl) | exact rfl)
  · kernel_rfl
  · kernel_rfl
  · kernel_rfl
  · kernel_rfl
  · exact fun _ _ _ h => h
  · refine Or.inl ⟨by rfl, fun w hSw => ?_⟩
    clear hSw
    go_simp
  try simp only [Act.put, List.setIfInBounds_toArray, List.set_cons_zero, List.set_cons_succ]
  refine wpAnyE_ready (rs := [2]) (by kernel_rfl) (by simp) ?_
  refine AllReadyE.cons (o := ?_) ?_ (fun K hK => ?_) AllReadyE.nil
  rotate_left 1
  · (first | (simp only [List.getElem?_toArray, List.getElem?_cons_succ, List.getElem?_cons_zero]; exact rfl) | exact rfl)
  refine step_callN (f := 37) rfl (callCk (x := .tmp 10) (y := .tmp 11) _ rfl _ (by rfl) (by rfl) _) (HK.out _) ?_
  rintro o wp ⟨r, rfl, hr, hbp⟩
  refine ⟨_, rfl, ?_⟩
  have hSp := hSd.trans (hbp.mono hSd.size)
  refine hK.out _ _ hSp (fun _ => ?_)
  clear hK K
  try simp only [Act.put, List.setIfInBounds_toArray, List.set_cons_zero, List.set_cons_succ]
  refine wpAnyE_ready (rs := [4]) (by kernel_rfl) (by simp) ?_
  refine AllReadyE.cons (o := ?_) ?_ (fun K hK => ?_) AllReadyE.nil
  rotate_left 1
  · (first | (simp only [List.getElem?_toArray, List.getElem?_cons_succ, List.getElem?_cons_zero]; exact rfl) | exact rfl)
  refine step_callN (f := 58) rfl (callCp (x := .tmp 13) _ rfl _ (by rfl) _) (HCp.out _ (hb03.trans (hSp.mono hb03.size))) ?_
  rintro o wq ⟨B0, m0, d0, B1, m1, d1, B2, m2, d2, B3, m3, d3, B4, m4, d4, B5, m5, d5, B6, m6, d6, B7, m7, d7, B8, d8, B9, d9, B10, d10, rfl, hN, _, _, _, hbq⟩
  refine ⟨_, rfl, ?_⟩
  have hSq := hSp.trans (hbq.mono hSp.size)
  refine hK.out _ _ hSq (fun _ => ?_)
  clear hK K
  try simp only [Act.put, List.setIfInBounds_toArray, List.set_cons_zero, List.set_cons_succ]
  refine wpAnyE_take (i := 5) (oi := ?_) (v := .agg #[.slice B0 m0 d0, .slice B1 m1 d1, .slice B2 m2 d2, .slice B3 m3 d3, .slice B4 m4 d4, .slice B5 m5 d5, .slice B6 m6 d6, .slice B7 m7 d7]) ?_ ?_ ?_ ?_ ?_ ?_ ?_ hSq ?_
  rotate_left 1
  · (first | (simp only [List.getElem?_toArray, List.getElem?_cons_succ, List.getElem?_cons_zero]; exact rfl) | exact rfl)
  · kernel_rfl
  · kernel_rfl
  · kernel_rfl
  · kernel_rfl
  · exact fun _ _ _ h => h
  · refine Or.inl ⟨by rfl, fun w hSw => ?_⟩
    clear hSw
    go_simp
  try simp only [Act.put, List.setIfInBounds_toArray, List.set_cons_zero, List.set_cons_succ]
  refine wpAnyE_take (i := 9) (oi := ?_) (v := .bool true) ?_ ?_ ?_ ?_ ?_ ?_ ?_ hSq ?_
  rotate_left 1
  · (first | (simp only [List.getElem?_toArray, List.getElem?_cons_succ, List.getElem?_cons_zero]; exact rfl) | exact rfl)
  · kernel_rfl
  · kernel_rfl
  · kernel_rfl
  · kernel_rfl
  · exact fun _ _ _ h => h
  · refine Or.inl ⟨by rfl, fun w hSw => ?_⟩
    clear hSw
    go_simp
  try simp only [Act.put, List.setIfInBounds_toArray, List.set_cons_zero, List.set_cons_succ]
  refine wpAnyE_take (i := 10) (oi := ?_) (v := .pointer (some ⟨w.heap.size, 18, none⟩)) ?_ ?_ ?_ ?_ ?_ ?_ ?_ hSq ?_
  rotate_left 1
  · (first | (simp only [List.getElem?_toArray, List.getElem?_cons_succ, List.getElem?_cons_zero]; exact rfl) | exact rfl)
  · kernel_rfl
  · kernel_rfl
  · kernel_rfl
  · kernel_rfl
  · exact fun _ _ _ h => h
  · refine Or.inl ⟨by rfl, fun w hSw => ?_⟩
    clear hSw
    go_simp
  try simp only [Act.put, List.setIfInBounds_toArray, List.set_cons_zero, List.set_cons_succ]
  refine wpAnyE_take (i := 11) (oi := ?_) (v := .bool false) ?_ ?_ ?_ ?_ ?_ ?_ ?_ hSq ?_
  rotate_left 1
  · (first | (simp only [List.getElem?_toArray, List.getElem?_cons_succ, List.getElem?_cons_zero]; exact rfl) | exact rfl)
  · kernel_rfl
  · kernel_rfl
  · kernel_rfl
  · kernel_rfl
  · exact fun _ _ _ h => h
  · refine Or.inl ⟨by rfl, fun w hSw => ?_⟩
    have hX := HX3.out.below hSw HX3.out.lt
    have y := hX.cell 18
    have z := hX.frozen 18
    simp only [List.getElem?_toArray, List.getElem?_cons_zero, List.getElem?_cons_succ] at y
    clear hSw
    go_simp
  try simp only [Act.put, List.setIfInBounds_toArray, List.set_cons_zero, List.set_cons_succ]
  refine wpAnyE_take (i := 12) (oi := ?_) (v := .bool false) ?_ ?_ ?_ ?_ ?_ ?_ ?_ hSq ?_
  rotate_left 1
  · (first | (simp only [List.getElem?_toArray, List.getElem?_cons_succ, List.getElem?_cons_zero]; exact rfl) | exact rfl)
  · kernel_rfl
  · kernel_rfl
  · kernel_rfl
  · kernel_rfl
  · exact fun _ _ _ h => h
  · refine Or.inl ⟨by rfl, fun w hSw => ?_⟩
    clear hSw
    go_simp
  try simp only [Act.put, List.setIfInBounds_toArray, List.set_cons_zero, List.set_cons_succ]
  refine wpAnyE_take (i := 13) (oi := ?_) (v := .bool false) ?_ ?_ ?_ ?_ ?_ ?_ ?_ hSq ?_
  rotate_left 1
  · (first | (simp only [List.getElem?_toArray, List.getElem?_cons_succ, List.getElem?_cons_zero]; exact rfl) | exact rfl)
  · kernel_rfl
  · kernel_rfl
  · kernel_rfl
  · kernel_rfl
  · exact fun _ _ _ h => h
  · refine Or.inl ⟨by rfl, fun w hSw => ?_⟩
    clear hSw
    go_simp
  try simp only [Act.put, List.setIfInBounds_toArray, List.set_cons_zero, List.set_cons_succ]
  refine wpAnyE_take (i := 14) (oi := ?_) (v := undef) ?_ ?_ ?_ ?_ ?_ ?_ ?_ hSq ?_
  rotate_left 1
  · (first | (simp only [List.getElem?_toArray, List.getElem?_cons_succ, List.getElem?_cons_zero]; exact rfl) | exact rfl)
  · kernel_rfl
  · kernel_rfl
  · kernel_rfl
  · kernel_rfl
  · exact fun _ _ _ h => h
  · exact Or.inr ⟨by rfl, rfl⟩
  try simp only [Act.put, List.setIfInBounds_toArray, List.set_cons_zero, List.set_cons_succ]
  refine wpAnyE_take (i := 15) (oi := ?_) (v := .bool false) ?_ ?_ ?_ ?_ ?_ ?_ ?_ hSq ?_
  rotate_left 1
  · (first | (simp only [List.getElem?_toArray, List.getElem?_cons_succ, List.getElem?_cons_zero]; exact rfl) | exact rfl)
  · kernel_rfl
  · kernel_rfl
  · kernel_rfl
  · kernel_rfl
  · exact fun _ _ _ h => h
  · refine Or.inl ⟨by rfl, fun w hSw => ?_⟩
    clear hSw
    go_simp
  try simp only [Act.put, List.setIfInBounds_toArray, List.set_cons_zero, List.set_cons_succ]
  refine wpAnyE_take (i := 19) (oi := ?_) (v := .bool true) ?_ ?_ ?_ ?_ ?_ ?_ ?_ hSq ?_
  rotate_left 1
  · (first | (simp only [List.getElem?_toArray, List.getElem?_cons_succ, List.getElem?_cons_zero]; exact rfl) | exact rfl)
  · kernel_rfl
  · kernel_rfl
  · kernel_rfl
  · kernel_rfl
  · exact fun _ _ _ h => h
  · refine Or.inl ⟨by rfl, fun w hSw => ?_⟩
    clear hSw
    go_simp
  try simp only [Act.put, List.setIfInBounds_toArray, List.set_cons_zero, List.set_cons_succ]
  refine wpAnyE_take (i := 20) (oi := ?_) (v := .bool fz) ?_ ?_ ?_ ?_ ?_ ?_ ?_ hSq ?_
  rotate_left 1
  · (first | (simp only [List.getElem?_toArray, List.getElem?_cons_succ, List.getElem?_cons_zero]; exact rfl) | exact rfl)
  · kernel_rfl
  · kernel_rfl
  · kernel_rfl
  · kernel_rfl
  · exact fun _ _ _ h => h
  · refine Or.inl ⟨by rfl, fun w hSw => ?_⟩
    clear hSw
    go_simp
  try simp only [Act.put, List.setIfInBounds_toArray, List.set_cons_zero, List.set_cons_succ]
  refine wpAnyE_take (i := 21) (oi := ?_) (v := .bool fz) ?_ ?_ ?_ ?_ ?_ ?_ ?_ hSq ?_
  rotate_left 1
  · (first | (simp only [List.getElem?_toArray, List.getElem?_cons_succ, List.getElem?_cons_zero]; exact rfl) | exact rfl)
  · kernel_rfl
  · kernel_rfl
  · kernel_rfl
  · kernel_rfl
  · exact fun _ _ _ h => h
  · refine Or.inl ⟨by rfl, fun w hSw => ?_⟩
    clear hSw
    go_simp
  try simp only [Act.put, List.setIfInBounds_toArray, List.set_cons_zero, List.set_cons_succ]
  refine wpAnyE_take (i := 24) (oi := ?_) (v := .bool false) ?_ ?_ ?_ ?_ ?_ ?_ ?_ hSq ?_
  rotate_left 1
  · (first | (simp only [List.getElem?_toArray, List.getElem?_cons_succ, List.getElem?_cons_zero]; exact rfl) | exact rfl)
  · kernel_rfl
  · kernel_rfl
  · kernel_rfl
  · kernel_rfl
  · exact fun _ _ _ h => h
  · refine Or.inl ⟨by rfl, fun w hSw => ?_⟩
    clear hSw
    go_simp
  try simp only [Act.put, List.setIfInBounds_toArray, List.set_cons_zero, List.set_cons_succ]
  refine wpAnyE_take (i := 25) (oi := ?_) (v := undef) ?_ ?_ ?_ ?_ ?_ ?_ ?_ hSq ?_
  rotate_left 1
  · (first | (simp only [List.getElem?_toArray, List.getElem?_cons_succ, List.getElem?_cons_zero]; exact rfl) | exact rfl)
  · kernel_rfl
  · kernel_rfl
  · kernel_rfl
  · kernel_rfl
  · exact fun _ _ _ h => h
  · exact Or.inr ⟨by rfl, rfl⟩
  try simp only [Act.put, List.setIfInBounds_toArray, List.set_cons_zero, List.set_cons_succ]
  refine wpAnyE_take (i := 26) (oi := ?_) (v := .bool false) ?_ ?_ ?_ ?_ ?_ ?_ ?_ hSq ?_
  rotate_left 1
  · (first | (simp only [List.getElem?_toArray, List.getElem?_cons_succ, List.getElem?_cons_zero]; exact rfl) | exact rfl)
  · kernel_rfl
  · kernel_rfl
  · kernel_rfl
  · kernel_rfl
  · exact fun _ _ _ h => h
  · refine Or.inl ⟨by rfl, fun w hSw => ?_⟩
    clear hSw
    go_simp
  try simp only [Act.put, List.setIfInBounds_toArray, List.set_cons_zero, List.set_cons_succ]
  refine wpAnyE_take (i := 30) (oi := ?_) (v := .bool true) ?_ ?_ ?_ ?_ ?_ ?_ ?_ hSq ?_
  rotate_left 1
  · (first | (simp only [List.getElem?_toArray, List.getElem?_cons_succ, List.getElem?_cons_zero]; exact rfl) | exact rfl)
  · kernel_rfl
  · kernel_rfl
  · kernel_rfl
  · kernel_rfl
  · exact fun _ _ _ h => h
  · refine Or.inl ⟨by rfl, fun w hSw => ?_⟩
    clear hSw
    go_simp
  try simp only [Act.put, List.setIfInBounds_toArray, List.set_cons_zero, List.set_cons_succ]
  refine wpAnyE_take (i := 31) (oi := ?_) (v := .pointer (some ⟨w.heap.size, 19, none⟩)) ?_ ?_ ?_ ?_ ?_ ?_ ?_ hSq ?_
  rotate_left 1
  · (first | (simp only [List.getElem?_toArray, List.getElem?_cons_succ, List.getElem?_cons_zero]; exact rfl) | exact rfl)
  · kernel_rfl
  · kernel_rfl
  · kernel_rfl
  · kernel_rfl
  · exact fun _ _ _ h => h
  · refine Or.inl ⟨by rfl, fun w hSw => ?_⟩
    clear hSw
    go_simp
  try simp only [Act.put, List.setIfInBounds_toArray, List.set_cons_zero, List.set_cons_succ]
  refine wpAnyE_take (i := 32) (oi := ?_) (v := .bool ge) ?_ ?_ ?_ ?_ ?_ ?_ ?_ hSq ?_
  rotate_left 1
  · (first | (simp only [List.getElem?_toArray, List.getElem?_cons_succ, List.getElem?_cons_zero]; exact rfl) | exact rfl)
  · kernel_rfl
  · kernel_rfl
  · kernel_rfl
  · kernel_rfl
  · exact fun _ _ _ h => h
  · refine Or.inl ⟨by rfl, fun w hSw => ?_⟩
    have hX := HX3.out.below hSw HX3.out.lt
    have y := hX.cell 19
    have z := hX.frozen 19
    simp only [List.getElem?_toArray, List.getElem?_cons_zero, List.getElem?_cons_succ] at y
    clear hSw
    go_simp
  try simp only [Act.put, List.setIfInBounds_toArray, List.set_cons_zero, List.set_cons_succ]
  refine wpAnyE_take (i := 33) (oi := ?_) (v := .bool ge) ?_ ?_ ?_ ?_ ?_ ?_ ?_ hSq ?_
  rotate_left 1
  · (first | (simp only [List.getElem?_toArray, List.getElem?_cons_succ, List.getElem?_cons_zero]; exact rfl) | exact rfl)
  · kernel_rfl
  · kernel_rfl
  · kernel_rfl
  · kernel_rfl
  · exact fun _ _ _ h => h
  · refine Or.inl ⟨by rfl, fun w hSw => ?_⟩
    clear hSw
    go_simp
  try simp only [Act.put, List.setIfInBounds_toArray, List.set_cons_zero, List.set_cons_succ]
  refine wpAnyE_take (i := 34) (oi := ?_) (v := .agg #[.string r, .slice B0 m0 d0, .slice B1 m1 d1, .slice B2 m2 d2, .slice B3 m3 d3, .slice B4 m4 d4, .slice B5 m5 d5, .slice B6 m6 d6, .slice B7 m7 d7, .slice none 0 0, .slice none 0 0, .bool false, .bool false, .bool fz, .bool false, .bool ge]) ?_ ?_ ?_ ?_ ?_ ?_ ?_ hSq ?_
  rotate_left 1
  · (first | (simp only [List.getElem?_toArray, List.getElem?_cons_succ, List.getElem?_cons_zero]; exact rfl) | exact rfl)
  · kernel_rfl
  · kernel_rfl
  · kernel_rfl
  · kernel_rfl
  · exact fun _ _ _ h => h
  · refine Or.inl ⟨by rfl, fun w hSw => ?_⟩
    clear hSw
    go_simp
  try simp only [Act.put, List.setIfInBounds_toArray, List.set_cons_zero, List.set_cons_succ]
  have hRq := HX.out.2.2.below hSq hltR
  refine wpAnyE_ready (rs := [35]) (by kernel_rfl) (by simp) ?_
  refine AllReadyE.late (o := ?_) ?_ rfl (fun K hK => ?_) AllReadyE.nil
  rotate_left 1
  · (first | (simp only [List.getElem?_toArray, List.getElem?_cons_succ, List.getElem?_cons_zero]; exact rfl) | exact rfl)
  refine step_store_mid rfl 45 (.tmp 6) (.tmp 44) rfl (w.heap.size + 1) 0 #[.string r, .slice B0 m0 d0, .slice B1 m1 d1, .slice B2 m2 d2, .slice B3 m3 d3, .slice B4 m4 d4, .slice B5 m5 d5, .slice B6 m6 d6, .slice B7 m7 d7, .slice none 0 0, .slice none 0 0, .bool false, .bool false, .bool fz, .bool false, .bool ge] (by rfl) (by rfl) (blk_there_at hRq (by simp [zeroI])) infoInit16 (by simp [Value.oneCell']) ?_
  refine hK.out _ _ ?_
  clear hK K
  have hRr : Blk (wq.setCells (w.heap.size + 1) 0 [.string r, .slice B0 m0 d0, .slice B1 m1 d1, .slice B2 m2 d2, .slice B3 m3 d3, .slice B4 m4 d4, .slice B5 m5 d5, .slice B6 m6 d6, .slice B7 m7 d7, .slice none 0 0, .slice none 0 0, .bool false, .bool false, .bool fz, .bool false, .bool ge]) (w.heap.size + 1) 45 #[.string r, .slice B0 m0 d0, .slice B1 m1 d1, .slice B2 m2 d2, .slice B3 m3 d3, .slice B4 m4 d4, .slice B5 m5 d5, .slice B6 m6 d6, .slice B7 m7 d7, .slice none 0 0, .slice none 0 0, .bool false, .bool false, .bool fz, .bool false, .bool ge] := by
    have h9 := Blk.setCells [.string r, .slice B0 m0 d0, .slice B1 m1 d1, .slice B2 m2 d2, .slice B3 m3 d3, .slice B4 m4 d4, .slice B5 m5 d5, .slice B6 m6 d6, .slice B7 m7 d7, .slice none 0 0, .slice none 0 0, .bool false, .bool false, .bool fz, .bool false, .bool ge] 0 hRq
    rw [wrA_all (by rfl)] at h9
    exact h9
  have hbr := hide (below_setCells (b := w.heap.size + 1) (by omega) [.string r, .slice B0 m0 d0, .slice B1 m1 d1, .slice B2 m2 d2, .slice B3 m3 d3, .slice B4 m4 d4, .slice B5 m5 d5, .slice B6 m6 d6, .slice B7 m7 d7, .slice none 0 0, .slice none 0 0, .bool false, .bool false, .bool fz, .bool false, .bool ge] 0 (hb03.trans (hSq.mono hb03.size)))
  have hnr := hide (show ∀ (i : Nat) v l, ([.slice B0 m0 d0, .slice B1 m1 d1, .slice B2 m2 d2, .slice B3 m3 d3, .slice B4 m4 d4, .slice B5 m5 d5, .slice B6 m6 d6, .slice B7 m7 d7] : List Value)[i]? = some v → ls[i]? = some l → NewC w.heap.size (wq.setCells (w.heap.size + 1) 0 [.string r, .slice B0 m0 d0, .slice B1 m1 d1, .slice B2 m2 d2, .slice B3 m3 d3, .slice B4 m4 d4, .slice B5 m5 d5, .slice B6 m6 d6, .slice B7 m7 d7, .slice none 0 0, .slice none 0 0, .bool false, .bool false, .bool fz, .bool false, .bool ge]) v l from fun i v l h1 h2 => (NewC.setCells (by have := hSp.size; omega) [.string r, .slice B0 m0 d0, .slice B1 m1 d1, .slice B2 m2 d2, .slice B3 m3 d3, .slice B4 m4 d4, .slice B5 m5 d5, .slice B6 m6 d6, .slice B7 m7 d7, .slice none 0 0, .slice none 0 0, .bool false, .bool false, .bool fz, .bool false, .bool ge] 0 (hN i v l h1 h2)).mono (by have := hSp.size; omega))
  show wpAnyE _ _ _ _ _ _ _ _ _ (wq.setCells (w.heap.size + 1) 0 [.string r, .slice B0 m0 d0, .slice B1 m1 d1, .slice B2 m2 d2, .slice B3 m3 d3, .slice B4 m4 d4, .slice B5 m5 d5, .slice B6 m6 d6, .slice B7 m7 d7, .slice none 0 0, .slice none 0 0, .bool false, .bool false, .bool fz, .bool false, .bool ge])
  generalize wq.setCells (w.heap.size + 1) 0 [.string r, .slice B0 m0 d0, .slice B1 m1 d1, .slice B2 m2 d2, .slice B3 m3 d3, .slice B4 m4 d4, .slice B5 m5 d5, .slice B6 m6 d6, .slice B7 m7 d7, .slice none 0 0, .slice none 0 0, .bool false, .bool false, .bool fz, .bool false, .bool ge] = wr at hRr hbr hnr ⊢
  clear hSd hSp hSq hRq hN hbp hbq HX HX3 HX3c HCp HK
  have HRr := hide hRr
  clear hRr
  refine wpAnyE_done (by kernel_rfl) ?_ _
  try simp only [Act.put, List.setIfInBounds_toArray, List.set_cons_zero, List.set_cons_succ]
  go_wp2_with fail
  refine bodyPost_ret (results_init rfl (by rfl) HRr.out rfl) rfl ?_
  have hz := HZ.out
  subst hz
  exact ⟨r, B0, m0, d0, B1, m1, d1, B2, m2, d2, B3, m3, d3, B4, m4, d4, B5, m5, d5, B6, m6, d6, B7, m7, d7, rfl, hr, hnr.out, hbr.out⟩
end
end Go.Proofs.YtjaipdenahlheaaGreatDoor
