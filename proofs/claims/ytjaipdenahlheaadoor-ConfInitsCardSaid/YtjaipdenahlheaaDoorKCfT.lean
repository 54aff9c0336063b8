/-
  The law ConfInits: the walk of the statement. Conditions: the listed variables are there.
-/
import Derived.Test.YtjaipdenahlheaaDoorKCfN
import Derived.Test.YtjaipdenahlheaaDoorKCfS
import Derived.Test.YtjaipdenahlheaaDoorKInit
set_option linter.unusedVariables false
set_option linter.unusedSimpArgs false
namespace Go.Proofs.YtjaipdenahlheaaDoor
open Go.RowKit Go.ChangeShapes Go.WideShapes Go.Sort
theorem callI1 {x y z : Operand} {u v s : Value} {ts : Array TypeId} (o : Oper) (ho : o.op = .call { callee := .value (.func 13), args := #[x, y, z], argTypes := ts }) (a : Act) (hx : a.eval x = u) (hy : a.eval y = v) (hz : a.eval z = s) (w : World) : (execOp a.eval o).run Tryd.prog w = .ok (.enter 13 #[u, v, s]) w := by
  obtain ⟨d, op, t, p, af, gd⟩ := o
  simp only at ho
  subst ho
  have h1 : a.eval (.func 13) = .func (.func 13) #[] #[] := rfl
  subst hx
  subst hy
  subst hz
  go_simp
theorem callI2 {x y z : Operand} {u v s : Value} {ts : Array TypeId} (o : Oper) (ho : o.op = .call { callee := .value (.func 14), args := #[x, y, z], argTypes := ts }) (a : Act) (hx : a.eval x = u) (hy : a.eval y = v) (hz : a.eval z = s) (w : World) : (execOp a.eval o).run Tryd.prog w = .ok (.enter 14 #[u, v, s]) w := by
  obtain ⟨d, op, t, p, af, gd⟩ := o
  simp only at ho
  subst ho
  have h1 : a.eval (.func 14) = .func (.func 14) #[] #[] := rfl
  subst hx
  subst hy
  subst hz
  go_simp
theorem callI3 {x y : Operand} {u v : Value} {ts : Array TypeId} (o : Oper) (ho : o.op = .call { callee := .value (.func 12), args := #[x, y], argTypes := ts }) (a : Act) (hx : a.eval x = u) (hy : a.eval y = v) (w : World) : (execOp a.eval o).run Tryd.prog w = .ok (.enter 12 #[u, v]) w := by
  obtain ⟨d, op, t, p, af, gd⟩ := o
  simp only at ho
  subst ho
  have h1 : a.eval (.func 12) = .func (.func 12) #[] #[] := rfl
  subst hx
  subst hy
  go_simp
theorem callI0 {ts : Array TypeId} (o : Oper) (ho : o.op = .call { callee := .value (.func 6), args := #[], argTypes := ts }) (a : Act) (w : World) : (execOp a.eval o).run Tryd.prog w = .ok (.enter 6 #[]) w := by
  obtain ⟨d, op, t, p, af, gd⟩ := o
  simp only at ho
  subst ho
  have h1 : a.eval (.func 6) = .func (.func 6) #[] #[] := rfl
  go_simp
theorem step_callW {P : Program} {Q : Exit → Act → World → Prop} {ops : Array Oper} {o : Oper} {a : Act} {w : World} {args : Array Value} {f : FuncId} {K : Act → World → Prop} {F : Prop} (hw : Region.wanted o (yielded ops a.tmps) = true)
    (hr : (execOp a.eval o).run P w = .ok (.enter f args) w) {post : Ending → World → Prop} (hc : Calls P f args w post) (h : ∀ e w', post e w' → ∃ r, e = .returned r ∧ K (a.put o.dst r) w') : if Region.wanted o (yielded ops a.tmps) = true then Oper.wp P o a w K Q else F := by
  rw [if_pos hw]
  unfold Oper.wp
  rw [hr, Oper.upon_enter]
  refine hc.mono fun e w' hp => ?_
  obtain ⟨r, rfl, hk⟩ := h e w' hp
  exact hk
theorem data_injT {r s : ByteArray} (h : r.data.toList = s.data.toList) : r = s := by
  cases r; cases s; simp_all
theorem results_any16 {lo : Nat} {w : World} {vs : List Value} {ls : List (List (List UInt8))} (hl : vs.length = ls.length) (hs : ∀ l ∈ ls, l.length ≤ 1000000) (h : ∀ (i : Nat) v l, vs[i]? = some v → ls[i]? = some l → NewC lo w v l) : AllS 0 w vs (ls.map bss) := by
  refine ⟨by rw [List.length_map]; exact hl, fun i v s h1 h2 => ?_⟩
  rw [List.getElem?_map, Option.map_eq_some_iff] at h2
  obtain ⟨l, hl, rfl⟩ := h2
  have := hs l (List.mem_of_getElem? hl)
  exact ⟨((h i v l h1 hl).mono (Nat.zero_le _)).strs, by rw [bss, List.length_map]; omega⟩
section
variable {w : World}
theorem cinit_any {sv ex ge : Bool} {sw cm us : List UInt8} {A0 A1 A2 A3 A4 A5 A6 A7 A8 A9 A10 : Option Addr} {n0 n1 n2 n3 n4 n5 n6 n7 c0 c1 c2 c3 c4 c5 c6 c7 c8 c9 c10 : Nat} {al : List (List UInt8)} {own lim peer q0 q1 q2 : Int} {gr : List (List UInt8 × Int)} {ky : List Int} {ls : List (List (List UInt8))} {x e : Int} (hx : x ≤ 9223372036854775807) (he : e ≤ 9223372036854775807) (hC : CfM w sw cm us [.slice A0 n0 c0, .slice A1 n1 c1, .slice A2 n2 c2, .slice A3 n3 c3, .slice A4 n4 c4, .slice A5 n5 c5, .slice A6 n6 c6, .slice A7 n7 c7] ls A8 c8 al A9 gr A10 ky) : Calls Tryd.prog 13 #[.agg #[.bool sv, .string (bs sw), .string (bs cm), .slice A0 n0 c0, .slice A1 n1 c1, .slice A2 n2 c2, .slice A3 n3 c3, .slice A4 n4 c4, .slice A5 n5 c5, .slice A6 n6 c6, .slice A7 n7 c7, .slice A8 al.length c8, .int .i64 own, .slice A9 gr.length c9, .int .i64 lim, .int .i64 peer, .string (bs us), .slice A10 ky.length c10, .bool ex, .bool ge, .int .u32 q0, .int .u32 q1, .int .u32 q2], .int .i64 x, .int .i64 e] w (fun o w' => ∃ r B0 m0 d0 B1 m1 d1 B2 m2 d2 B3 m3 d3 B4 m4 d4 B5 m5 d5 B6 m6 d6 B7 m7 d7, o = .returned (.agg #[.string r, .slice B0 m0 d0, .slice B1 m1 d1, .slice B2 m2 d2, .slice B3 m3 d3, .slice B4 m4 d4, .slice B5 m5 d5, .slice B6 m6 d6, .slice B7 m7 d7, .slice none 0 0, .slice none 0 0, .bool (!sv && (ex && (e == 0))), .bool false, .bool (!sv && (e == 0)), .bool (sv && (e == 0)), .bool (!sv && ge)]) ∧ r.data.toList = cookie x e ∧ (∀ (i : Nat) v l, ([.slice B0 m0 d0, .slice B1 m1 d1, .slice B2 m2 d2, .slice B3 m3 d3, .slice B4 m4 d4, .slice B5 m5 d5, .slice B6 m6 d6, .slice B7 m7 d7] : List Value)[i]? = some v → ls[i]? = some l → NewC w.heap.size w' v l) ∧ Below w.heap.size w w') := by
  cases sv with
  | true => exact cinit_s hx he hC
  | false =>
    cases ex with
    | true => exact cinit_x hx he hC
    | false => exact cinit_n hx he hC
theorem rinit_any {sv ex ge : Bool} {sw cm us : List UInt8} {A0 A1 A2 A3 A4 A5 A6 A7 A8 A9 A10 : Option Addr} {n0 n1 n2 n3 n4 n5 n6 n7 c0 c1 c2 c3 c4 c5 c6 c7 c8 c9 c10 : Nat} {al : List (List UInt8)} {own lim peer q0 q1 q2 : Int} {gr : List (List UInt8 × Int)} {ky : List Int} {ls : List (List (List UInt8))} {x e : Int} (hx : x ≤ 9223372036854775807) (he : e ≤ 9223372036854775807) : Calls Tryd.prog 14 #[.agg #[.bool sv, .string (bs sw), .string (bs cm), .slice A0 n0 c0, .slice A1 n1 c1, .slice A2 n2 c2, .slice A3 n3 c3, .slice A4 n4 c4, .slice A5 n5 c5, .slice A6 n6 c6, .slice A7 n7 c7, .slice A8 al.length c8, .int .i64 own, .slice A9 gr.length c9, .int .i64 lim, .int .i64 peer, .string (bs us), .slice A10 ky.length c10, .bool ex, .bool ge, .int .u32 q0, .int .u32 q1, .int .u32 q2], .int .i64 x, .int .i64 e] w (fun o w' => ∃ r, o = .returned (.agg #[.string r, .slice A0 n0 c0, .slice A1 n1 c1, .slice A2 n2 c2, .slice A3 n3 c3, .slice A4 n4 c4, .slice A5 n5 c5, .slice A6 n6 c6, .slice A7 n7 c7, .slice none 0 0, .slice none 0 0, .bool (!sv && (ex && (e == 0))), .bool false, .bool (!sv && (e == 0)), .bool (sv && (e == 0)), .bool (!sv && ge)]) ∧ r.data.toList = cookie x e ∧ Below w.heap.size w w') := by
  cases sv with
  | true => exact rinit_s (ls := ls) hx he
  | false => exact rinit_c (ls := ls) hx he
set_option maxHeartbeats 8000000 in
set_option maxRecDepth 100000 in
theorem confInits_any {sv ex ge : Bool} {sw cm us : List UInt8} {A0 A1 A2 A3 A4 A5 A6 A7 A8 A9 A10 : Option Addr} {n0 n1 n2 n3 n4 n5 n6 n7 c0 c1 c2 c3 c4 c5 c6 c7 c8 c9 c10 : Nat} {al : List (List UInt8)} {own lim peer q0 q1 q2 : Int} {gr : List (List UInt8 × Int)} {ky : List Int} {ls : List (List (List UInt8))} {x e : Int} (hx : x ≤ 9223372036854775807) (he : e ≤ 9223372036854775807) (hM : MethV w) (hW : WordV w) (hC : CfW w sw cm us [.slice A0 n0 c0, .slice A1 n1 c1, .slice A2 n2 c2, .slice A3 n3 c3, .slice A4 n4 c4, .slice A5 n5 c5, .slice A6 n6 c6, .slice A7 n7 c7] ls A8 c8 al A9 gr A10 ky) :
    Calls Tryd.prog 4 #[.agg #[.bool sv, .string (bs sw), .string (bs cm), .slice A0 n0 c0, .slice A1 n1 c1, .slice A2 n2 c2, .slice A3 n3 c3, .slice A4 n4 c4, .slice A5 n5 c5, .slice A6 n6 c6, .slice A7 n7 c7, .slice A8 al.length c8, .int .i64 own, .slice A9 gr.length c9, .int .i64 lim, .int .i64 peer, .string (bs us), .slice A10 ky.length c10, .bool ex, .bool ge, .int .u32 q0, .int .u32 q1, .int .u32 q2], .int .i64 x, .int .i64 e] w (fun o w' => o = .returned (.bool true) ∧ Below w.heap.size w w') := by
  obtain ⟨W0, hW0⟩ : ∃ W0, W0 = w.alloc (.cells #[.bool sv, .string (bs sw), .string (bs cm), .slice A0 n0 c0, .slice A1 n1 c1, .slice A2 n2 c2, .slice A3 n3 c3, .slice A4 n4 c4, .slice A5 n5 c5, .slice A6 n6 c6, .slice A7 n7 c7, .slice A8 al.length c8, .int .i64 own, .slice A9 gr.length c9, .int .i64 lim, .int .i64 peer, .string (bs us), .slice A10 ky.length c10, .bool ex, .bool ge, .int .u32 q0, .int .u32 q1, .int .u32 q2] 30) := ⟨_, rfl⟩
  have hb0 : Below w.heap.size w W0 := by rw [hW0]; (repeat (first | exact Below.refl _ _ | refine below_drewN ?_ _ | refine Below.drew ?_ | refine Below.alloc ?_ (by first | omega | (simp; done) | (simp; omega)) _ | refine Below.setCell ?_ (by first | omega | (simp; done) | (simp; omega)) _ | refine bel_alloc ?_ _ | refine bel_trans ?_ (by assumption) | refine Below.trans ?_ (Below.mono (by assumption) (by first | omega | (simp; done) | (simp; omega)))))
  have hX0 : Blk W0 w.heap.size 30 #[.bool sv, .string (bs sw), .string (bs cm), .slice A0 n0 c0, .slice A1 n1 c1, .slice A2 n2 c2, .slice A3 n3 c3, .slice A4 n4 c4, .slice A5 n5 c5, .slice A6 n6 c6, .slice A7 n7 c7, .slice A8 al.length c8, .int .i64 own, .slice A9 gr.length c9, .int .i64 lim, .int .i64 peer, .string (bs us), .slice A10 ky.length c10, .bool ex, .bool ge, .int .u32 q0, .int .u32 q1, .int .u32 q2] := by rw [hW0]; exact Blk.new w _ _
  have HF := hide (few25_any (sv := sv) (ex := ex) (ge := ge) (own := own) (lim := lim) (peer := peer) (q0 := q0) (q1 := q1) (q2 := q2) (c9 := c9) (c10 := c10) (hC.below hb0))
  have HA := hide (fun (W : World) (hb : Below w.heap.size w W) => awake25_any (hM.below hb) (hW.below hb))
  have HI := hide (fun (hf : fewC sw cm us ls al gr ky = true) (W : World) (hb : Below w.heap.size w W) => cinit_any (sv := sv) (ex := ex) (ge := ge) (own := own) (lim := lim) (peer := peer) (q0 := q0) (q1 := q1) (q2 := q2) (c9 := c9) (c10 := c10) hx he ((hC.below hb).few hf))
  have HR := hide (fun (W : World) => rinit_any (w := W) (sv := sv) (ex := ex) (ge := ge) (own := own) (lim := lim) (peer := peer) (q0 := q0) (q1 := q1) (q2 := q2) (c9 := c9) (c10 := c10) (sw := sw) (cm := cm) (us := us) (al := al) (gr := gr) (ky := ky) (ls := ls) (A0 := A0) (c0 := c0) (A1 := A1) (c1 := c1) (A2 := A2) (c2 := c2) (A3 := A3) (c3 := c3) (A4 := A4) (c4 := c4) (A5 := A5) (c5 := c5) (A6 := A6) (c6 := c6) (A7 := A7) (c7 := c7) (A8 := A8) (c8 := c8) (A9 := A9) (A10 := A10) (n0 := n0) (n1 := n1) (n2 := n2) (n3 := n3) (n4 := n4) (n5 := n5) (n6 := n6) (n7 := n7) hx he)
  have HAll := hide (fun (hf : fewC sw cm us ls al gr ky = true) (W : World) (hb : Below w.heap.size w W) => ((hC.below hb).few hf).hl8)
  have HX := hide (And.intro hb0 hX0)
  clear hb0 hM hW hC hx he
  generalize hcv : (#[.bool sv, .string (bs sw), .string (bs cm), .slice A0 n0 c0, .slice A1 n1 c1, .slice A2 n2 c2, .slice A3 n3 c3, .slice A4 n4 c4, .slice A5 n5 c5, .slice A6 n6 c6, .slice A7 n7 c7, .slice A8 al.length c8, .int .i64 own, .slice A9 gr.length c9, .int .i64 lim, .int .i64 peer, .string (bs us), .slice A10 ky.length c10, .bool ex, .bool ge, .int .u32 q0, .int .u32 q1, .int .u32 q2] : Array Value) = cv at HF HI HR HX hX0 hW0 ⊢
  have hcl : cv.toList.length = 23 := by rw [← hcv]; rfl
  clear hcv
  have hlt0 := hX0.lt
  clear hX0
  generalize (!sv && (ex && (e == 0))) = f0 at HI HR
  generalize (!sv && (e == 0)) = f2 at HI HR
  generalize (sv && (e == 0)) = f3 at HI HR
  generalize (!sv && ge) = f4 at HI HR
  cases hf : fewC sw cm us ls al gr ky with
  | false =>
    rw [hf] at HF
    clear HI HR HAll hf
    go_enter Tryd.func4, Tryd.ntmps4
    go_upto_region 1 with fail
    rw [← hW0]
    clear hW0
    refine wp_region_lit ?_
    refine wpList_load_confA rfl (.tmp 3) rfl (by rfl) HX.out.2 hcl ?_
    go_wp2_with (first
      | (go_at_call 5; refine HF.out.mono ?_; rintro o w1 ⟨rfl, hb1⟩; have hb01 := HX.out.1.trans (hb1.mono HX.out.1.size))
      | (go_at_call 6; refine (HA.out _ hb01).mono ?_; rintro o w2 ⟨rfl, hb2⟩)
      | fail)
    go_ret
    exact ⟨rfl, hb01.trans (hb2.mono hb01.size)⟩
  | true =>
    rw [hf] at HF
    have HI := hide (HI.out hf)
    have HAll := hide (HAll.out hf)
    clear hf
    go_enter Tryd.func4, Tryd.ntmps4
    go_upto_region 1 with fail
    rw [← hW0]
    clear hW0
    refine wp_region_lit ?_
    refine wpList_load_confA rfl (.tmp 3) rfl (by rfl) HX.out.2 hcl ?_
    go_upto_region 3 with (first
      | (go_at_call 5; refine HF.out.mono ?_; rintro o w1 ⟨rfl, hb1⟩)
      | fail)
    have HX1 := hide (HX.out.2.below hb1 hlt0)
    have hb01 := HX.out.1.trans (hb1.mono HX.out.1.size)
    refine wp_region_E (fun W => Below w1.heap.size w1 W) (fun i => decide (i < 13)) (by kernel_rfl) ?_
    obtain ⟨Wd, hWd⟩ : ∃ Wd, Wd = w1.drew := ⟨_, rfl⟩
    have hSd : Below w1.heap.size w1 Wd := by rw [hWd]; exact (Below.refl _ _).drew
    rw [← hWd]
    clear hWd
    refine wpAnyE_ready (rs := [0]) (by kernel_rfl) (by simp) ?_
    refine AllReadyE.cons (o := ?_) ?_ (fun K hK => ?_) AllReadyE.nil
    rotate_left 1
    · (first | (simp only [List.getElem?_toArray, List.getElem?_cons_succ, List.getElem?_cons_zero]; exact rfl) | exact rfl)
    refine step_callN (f := 6) (by rfl) (callI0 _ rfl _ _) (HA.out _ (hb01.trans (hSd.mono hb01.size))) ?_
    rintro o wa ⟨rfl, hbwa⟩
    refine ⟨_, rfl, ?_⟩
    have hS1 := hSd.trans (hbwa.mono hSd.size)
    refine hK.out _ _ hS1 (fun _ => ?_)
    clear hK K
    try simp only [Act.put, List.setIfInBounds_toArray, List.set_cons_zero, List.set_cons_succ]
    refine wpAnyE_take (i := 1) (oi := ?_) (v := .bool true) ?_ ?_ ?_ ?_ ?_ ?_ ?_ hS1 ?_
    rotate_left 1
    · (first | (simp only [List.getElem?_toArray, List.getElem?_cons_succ, List.getElem?_cons_zero]; exact rfl) | exact rfl)
    · kernel_rfl
    · kernel_rfl
    · kernel_rfl
    · kernel_rfl
    · exact fun _ _ _ h => h
    · refine Or.inl ⟨by rfl, fun w hSw => ?_⟩
      clear hSw
      go_simp
    try simp only [Act.put, List.setIfInBounds_toArray, List.set_cons_zero, List.set_cons_succ]
    refine wpAnyE_take (i := 2) (oi := ?_) (v := .agg cv) ?_ ?_ ?_ ?_ ?_ ?_ ?_ hS1 ?_
    rotate_left 1
    · (first | (simp only [List.getElem?_toArray, List.getElem?_cons_succ, List.getElem?_cons_zero]; exact rfl) | exact rfl)
    · kernel_rfl
    · kernel_rfl
    · kernel_rfl
    · kernel_rfl
    · exact fun _ _ _ h => h
    · exact Or.inl ⟨by rfl, fun w hSw => load_confR (x := .tmp 3) _ rfl _ (by rfl) (HX1.out.below hSw HX1.out.lt) hcl⟩
    try simp only [Act.put, List.setIfInBounds_toArray, List.set_cons_zero, List.set_cons_succ]
    refine wpAnyE_take (i := 3) (oi := ?_) (v := .int .i64 x) ?_ ?_ ?_ ?_ ?_ ?_ ?_ hS1 ?_
    rotate_left 1
    · (first | (simp only [List.getElem?_toArray, List.getElem?_cons_succ, List.getElem?_cons_zero]; exact rfl) | exact rfl)
    · kernel_rfl
    · kernel_rfl
    · kernel_rfl
    · kernel_rfl
    · exact fun _ _ _ h => h
    · refine Or.inl ⟨by rfl, fun w hSw => ?_⟩
      clear hSw
      go_simp
    try simp only [Act.put, List.setIfInBounds_toArray, List.set_cons_zero, List.set_cons_succ]
    refine wpAnyE_take (i := 4) (oi := ?_) (v := .int .i64 e) ?_ ?_ ?_ ?_ ?_ ?_ ?_ hS1 ?_
    rotate_left 1
    · (first | (simp only [List.getElem?_toArray, List.getElem?_cons_succ, List.getElem?_cons_zero]; exact rfl) | exact rfl)
    · kernel_rfl
    · kernel_rfl
    · kernel_rfl
    · kernel_rfl
    · exact fun _ _ _ h => h
    · refine Or.inl ⟨by rfl, fun w hSw => ?_⟩
      clear hSw
      go_simp
    try simp only [Act.put, List.setIfInBounds_toArray, List.set_cons_zero, List.set_cons_succ]
    refine wpAnyE_take (i := 6) (oi := ?_) (v := .agg cv) ?_ ?_ ?_ ?_ ?_ ?_ ?_ hS1 ?_
    rotate_left 1
    · (first | (simp only [List.getElem?_toArray, List.getElem?_cons_succ, List.getElem?_cons_zero]; exact rfl) | exact rfl)
    · kernel_rfl
    · kernel_rfl
    · kernel_rfl
    · kernel_rfl
    · exact fun _ _ _ h => h
    · exact Or.inl ⟨by rfl, fun w hSw => load_confR (x := .tmp 3) _ rfl _ (by rfl) (HX1.out.below hSw HX1.out.lt) hcl⟩
    try simp only [Act.put, List.setIfInBounds_toArray, List.set_cons_zero, List.set_cons_succ]
    refine wpAnyE_take (i := 7) (oi := ?_) (v := .int .i64 x) ?_ ?_ ?_ ?_ ?_ ?_ ?_ hS1 ?_
    rotate_left 1
    · (first | (simp only [List.getElem?_toArray, List.getElem?_cons_succ, List.getElem?_cons_zero]; exact rfl) | exact rfl)
    · kernel_rfl
    · kernel_rfl
    · kernel_rfl
    · kernel_rfl
    · exact fun _ _ _ h => h
    · refine Or.inl ⟨by rfl, fun w hSw => ?_⟩
      clear hSw
      go_simp
    try simp only [Act.put, List.setIfInBounds_toArray, List.set_cons_zero, List.set_cons_succ]
    refine wpAnyE_take (i := 8) (oi := ?_) (v := .int .i64 e) ?_ ?_ ?_ ?_ ?_ ?_ ?_ hS1 ?_
    rotate_left 1
    · (first | (simp only [List.getElem?_toArray, List.getElem?_cons_succ, List.getElem?_cons_zero]; exact rfl) | exact rfl)
    · kernel_rfl
    · kernel_rfl
    · kernel_rfl
    · kernel_rfl
    · exact fun _ _ _ h => h
    · refine Or.inl ⟨by rfl, fun w hSw => ?_⟩
      clear hSw
      go_simp
    try simp only [Act.put, List.setIfInBounds_toArray, List.set_cons_zero, List.set_cons_succ]
    refine wpAnyE_ready (rs := [5]) (by kernel_rfl) (by simp) ?_
    refine AllReadyE.cons (o := ?_) ?_ (fun K hK => ?_) AllReadyE.nil
    rotate_left 1
    · (first | (simp only [List.getElem?_toArray, List.getElem?_cons_succ, List.getElem?_cons_zero]; exact rfl) | exact rfl)
    refine step_callW (f := 13) (by rfl) (callI1 (x := .tmp 13) (y := .tmp 14) (z := .tmp 15) _ rfl _ (by rfl) (by rfl) (by rfl) _) (HI.out _ (hb01.trans (hS1.mono hb01.size))) ?_
    rintro o wi ⟨r, B0, m0, d0, B1, m1, d1, B2, m2, d2, B3, m3, d3, B4, m4, d4, B5, m5, d5, B6, m6, d6, B7, m7, d7, rfl, hr, hN, hbwi⟩
    refine ⟨_, rfl, ?_⟩
    have hS2 := hS1.trans (hbwi.mono hS1.size)
    refine hK.out _ _ hS2 (fun _ => ?_)
    clear hK K
    try simp only [Act.put, List.setIfInBounds_toArray, List.set_cons_zero, List.set_cons_succ]
    refine wpAnyE_ready (rs := [9]) (by kernel_rfl) (by simp) ?_
    refine AllReadyE.cons (o := ?_) ?_ (fun K hK => ?_) AllReadyE.nil
    rotate_left 1
    · (first | (simp only [List.getElem?_toArray, List.getElem?_cons_succ, List.getElem?_cons_zero]; exact rfl) | exact rfl)
    refine step_callW (f := 14) (by rfl) (callI2 (x := .tmp 17) (y := .tmp 18) (z := .tmp 19) _ rfl _ (by rfl) (by rfl) (by rfl) _) (HR.out _) ?_
    rintro o wr ⟨r2, rfl, hr2, hbwr⟩
    refine ⟨_, rfl, ?_⟩
    have hS3 := hS2.trans (hbwr.mono hS2.size)
    refine hK.out _ _ hS3 (fun _ => ?_)
    clear hK K
    try simp only [Act.put, List.setIfInBounds_toArray, List.set_cons_zero, List.set_cons_succ]
    obtain rfl : r = r2 := data_injT (hr.trans hr2.symm)
    have hA8 := HAll.out wr (hb01.trans (hS3.mono hb01.size))
    have hNS := results_any16 (show ([.slice B0 m0 d0, .slice B1 m1 d1, .slice B2 m2 d2, .slice B3 m3 d3, .slice B4 m4 d4, .slice B5 m5 d5, .slice B6 m6 d6, .slice B7 m7 d7] : List Value).length = ls.length from by rw [hA8.2.1]; rfl) (fun l hl => by
      obtain ⟨i, hi⟩ := List.mem_iff_getElem?.1 hl
      have hlt := (List.getElem?_eq_some_iff.1 hi).1
      have hv := List.getElem?_eq_getElem (l := ([.slice A0 n0 c0, .slice A1 n1 c1, .slice A2 n2 c2, .slice A3 n3 c3, .slice A4 n4 c4, .slice A5 n5 c5, .slice A6 n6 c6, .slice A7 n7 c7] : List Value)) (i := i) (by rw [hA8.1, ← hA8.2.1]; exact hlt)
      exact (hA8.2.2 i _ l hv hi).2.1) (fun i v l h1 h2 => (hN i v l h1 h2).belowW hbwr)
    have key := lsame16_any (c := r) (d := r) (a0 := f0) (a1 := false) (a2 := f2) (a3 := f3) (a4 := f4) (b0 := f0) (b1 := false) (b2 := f2) (b3 := f3) (b4 := f4) hNS hA8.allS (txs_nil wr 0) (txs_nil wr 0) (txs_nil wr 0) (txs_nil wr 0) (by decide) (by decide) (by decide) (by decide)
    rw [decide_eq_true rfl] at key
    refine wpAnyE_ready (rs := [10]) (by kernel_rfl) (by simp) ?_
    refine AllReadyE.cons (o := ?_) ?_ (fun K hK => ?_) AllReadyE.nil
    rotate_left 1
    · (first | (simp only [List.getElem?_toArray, List.getElem?_cons_succ, List.getElem?_cons_zero]; exact rfl) | exact rfl)
    refine step_callW (f := 12) (by rfl) (callI3 (x := .tmp 16) (y := .tmp 20) _ rfl _ (by rfl) (by rfl) _) (key) ?_
    rintro o ws ⟨rfl, hbws⟩
    refine ⟨_, rfl, ?_⟩
    have hS4 := hS3.trans (hbws.mono hS3.size)
    refine hK.out _ _ hS4 (fun _ => ?_)
    clear hK K
    try simp only [Act.put, List.setIfInBounds_toArray, List.set_cons_zero, List.set_cons_succ]
    refine wpAnyE_take (i := 11) (oi := ?_) (v := .bool true) ?_ ?_ ?_ ?_ ?_ ?_ ?_ hS4 ?_
    rotate_left 1
    · (first | (simp only [List.getElem?_toArray, List.getElem?_cons_succ, List.getElem?_cons_zero]; exact rfl) | exact rfl)
    · kernel_rfl
    · kernel_rfl
    · kernel_rfl
    · kernel_rfl
    · exact fun _ _ _ h => h
    · refine Or.inl ⟨by rfl, fun w hSw => ?_⟩
      clear hSw
      go_simp
    try simp only [Act.put, List.setIfInBounds_toArray, List.set_cons_zero, List.set_cons_succ]
    refine wpAnyE_take (i := 12) (oi := ?_) (v := .bool true) ?_ ?_ ?_ ?_ ?_ ?_ ?_ hS4 ?_
    rotate_left 1
    · (first | (simp only [List.getElem?_toArray, List.getElem?_cons_succ, List.getElem?_cons_zero]; exact rfl) | exact rfl)
    · kernel_rfl
    · kernel_rfl
    · kernel_rfl
    · kernel_rfl
    · exact fun _ _ _ h => h
    · refine Or.inl ⟨by rfl, fun w hSw => ?_⟩
      clear hSw
      go_simp
    try simp only [Act.put, List.setIfInBounds_toArray, List.set_cons_zero, List.set_cons_succ]
    refine wpAnyE_done (by kernel_rfl) ?_ _
    have hb05 := hb01.trans (hS4.mono hb01.size)
    clear hSd hS1 hS2 hS3 hS4 HX1 HI HR HAll HA HF
    try simp only [Act.put, List.setIfInBounds_toArray, List.set_cons_zero, List.set_cons_succ]
    go_wp2_with fail
    go_ret
    exact ⟨rfl, hb05⟩
end
end Go.Proofs.YtjaipdenahlheaaDoor
