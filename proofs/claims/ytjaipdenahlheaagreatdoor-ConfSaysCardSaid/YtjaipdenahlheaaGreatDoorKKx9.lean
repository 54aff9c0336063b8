/-
  The contract of kexinit's Build. Conditions: lists of at most 1,000,000 names; texts that fit.
-/
import Derived.Test.YtjaipdenahlheaaGreatDoorKKxRG
import Derived.Test.YtjaipdenahlheaaGreatDoorKMsgYG
import Derived.Test.YtjaipdenahlheaaGreatDoorKRGetXG
set_option linter.unusedVariables false
set_option linter.unusedSimpArgs false
namespace Go.Proofs.YtjaipdenahlheaaGreatDoor
open Go.RowKit Go.ChangeShapes Go.WideShapes Go.Sort
/-- What Build answers. -/
def B16P (kex : List (List UInt8)) (l : List Fld) (w : World) (e : Ending) (w' : World) : Prop :=
  Below w.heap.size w w' ∧ ((markedL kex = false ∧ ∃ s, encS 20 l = .ok s ∧ e = .returned (.tuple #[.string (bs s), .nilIface])) ∨
    (∃ b ps, ∃ k : Nat, kexErr kex (encS 20 l) = some (ps, k) ∧ e = .returned (.tuple #[.string ⟨#[]⟩, errV b]) ∧ IsErr w' (errV b) ps k))
theorem AllC.allS {w : World} {vs : List Value} {ls : List (List (List UInt8))} (h : AllC w vs ls) : AllS 0 w vs (ls.map bss) := by
  refine ⟨by rw [List.length_map]; exact h.1, fun i v s h1 h2 => ?_⟩
  rw [List.getElem?_map, Option.map_eq_some_iff] at h2
  obtain ⟨l, hl, rfl⟩ := h2
  have := h.2 i v l h1 hl
  exact ⟨this.1.1, by rw [bss, List.length_map]; omega⟩
theorem AllC.take {w : World} {vs : List Value} {ls : List (List (List UInt8))} (h : AllC w vs ls) (n : Nat) : AllC w (vs.take n) (ls.take n) := by
  refine ⟨by rw [List.length_take, List.length_take, h.1], fun i v l h1 h2 => ?_⟩
  rw [List.getElem?_take] at h1 h2
  split at h1
  · rw [if_pos (by assumption)] at h2
    exact h.2 i v l h1 h2
  · cases h1
theorem AllC.drop {w : World} {vs : List Value} {ls : List (List (List UInt8))} (h : AllC w vs ls) (n : Nat) : AllC w (vs.drop n) (ls.drop n) := by
  refine ⟨by rw [List.length_drop, List.length_drop, h.1], fun i v l h1 h2 => ?_⟩
  rw [List.getElem?_drop] at h1 h2
  exact h.2 _ v l h1 h2
theorem PL8.r6 {w W2 w3 : World} {f0 mb xb g : Nat} {bx : Array Value} {l0 : List (List UInt8)} {more : List (List (List UInt8))} {z0 : Fld × Value} (h : PL8 W2 g (l0 :: more) 8 w3) (hml : more.length = 7) (hg : W2.heap.size ≤ g) (hbe : Below w.heap.size w W2)
    (hbx : Blk W2 xb 45 bx) (hmk : MkMsg f0 mb 20 (some ⟨f0, 0, none⟩) 1 1 [z0] W2) (h1 : w.heap.size ≤ f0) (h2 : f0 ≤ mb) :
    ∃ B0 d0 B1 u1 d1 B2 u2 d2 B3 u3 d3 B4 u4 d4 B5 u5 d5 B6 u6 d6 B7 u7 d7 mid, R6 w f0 mb xb g mid bx (.slice B0 l0.length d0) [.slice B1 u1 d1, .slice B2 u2 d2, .slice B3 u3 d3, .slice B4 u4 d4, .slice B5 u5 d5, .slice B6 u6 d6, .slice B7 u7 d7] l0 more z0 w3 := by
  obtain ⟨vs, hB, hA, h0⟩ := h.row
  obtain ⟨v0, l0', mid, e0, e1, ho, hlt, hgm, hmz, hre⟩ := h0 (by omega)
  obtain rfl : l0 = l0' := by simpa using e1
  have hvl : vs.length = 8 := by have := hA.1; simp only [List.length_map, List.length_cons, hml] at this; exact this
  have hs := fun i v (hv : vs[i]? = some v) => hA.isSl hv
  match vs, hvl with
  | [q0, q1, q2, q3, q4, q5, q6, q7], _ =>
    obtain rfl : q0 = v0 := by simpa using e0
    obtain ⟨B0, d0, rfl⟩ := own_slN ho
    obtain ⟨B1, u1, d1, rfl⟩ := hs 1 q1 rfl
    obtain ⟨B2, u2, d2, rfl⟩ := hs 2 q2 rfl
    obtain ⟨B3, u3, d3, rfl⟩ := hs 3 q3 rfl
    obtain ⟨B4, u4, d4, rfl⟩ := hs 4 q4 rfl
    obtain ⟨B5, u5, d5, rfl⟩ := hs 5 q5 rfl
    obtain ⟨B6, u6, d6, rfl⟩ := hs 6 q6 rfl
    obtain ⟨B7, u7, d7, rfl⟩ := hs 7 q7 rfl
    have hmlt := hmk.m.lt
    have hxlt := hbx.lt
    refine ⟨B0, d0, B1, u1, d1, B2, u2, d2, B3, u3, d3, B4, u4, d4, B5, u5, d5, B6, u6, d6, B7, u7, d7, mid, hbe.trans (h.bel.mono hbe.size), hbx.below h.bel hxlt, hB, ho, hlt, fun i v l h3 h4 => ?_, hmk.below h.bel, h1, by omega, by omega, by omega, hgm, h2⟩
    have hi : i < 7 := by
      have := (List.getElem?_eq_some_iff.1 h4).1
      omega
    exact hre (i + 1) v l (by omega) (by omega) (by simpa using h3) (by simpa using h4)
theorem infoLs : (Tryz.prog.info? 22).map (fun i => (i.zero, i.size, i.bytes)) = some (some (.slice none 0 0), 1, 24) := by kernel_rfl
theorem callM {x : Operand} {u : Value} {ts : Array TypeId} (o : Oper) (ho : o.op = .call { callee := .value (.func 42), args := #[x], argTypes := ts }) (a : Act) (hx : a.eval x = u) (w : World) : (execOp a.eval o).run Tryz.prog w = .ok (.enter 42 #[u]) w := by
  obtain ⟨d, op, t, p, af, gd⟩ := o
  simp only at ho
  subst ho
  have h1 : a.eval (.func 42) = .func (.func 42) #[] #[] := rfl
  subst hx
  go_simp
theorem callTr {x : Operand} {u : Value} {ts : Array TypeId} (o : Oper) (ho : o.op = .call { callee := .value (.func 43), args := #[x], argTypes := ts }) (a : Act) (hx : a.eval x = u) (w : World) : (execOp a.eval o).run Tryz.prog w = .ok (.enter 43 #[u]) w := by
  obtain ⟨d, op, t, p, af, gd⟩ := o
  simp only at ho
  subst ho
  have h1 : a.eval (.func 43) = .func (.func 43) #[] #[] := rfl
  subst hx
  go_simp
theorem bldB {x : Operand} {n : Int} (o : Oper) (ho : o.op = .build 83 #[(0, .const (.int .u8 98)), (1, x)]) (ρ : Operand → Value) (hc : ρ (.const (.int .u8 98)) = .int .u8 98) (hx : ρ x = .int .i64 n) (w : World) :
    (execOp ρ o).run Tryz.prog w = .ok (.value (.agg #[.int .u8 98, .int .i64 n, .string ⟨#[]⟩, .slice none 0 0])) w := by
  obtain ⟨d, op, t, p, af, gd⟩ := o
  simp only at ho
  subst ho
  go_simp
theorem step_eqV {P : Program} {Q : Exit → Act → World → Prop} {ops : Array Oper} {o : Oper} {a : Act} {w : World} {v : Value} {K : Act → World → Prop} {F : Prop} (hgd : o.guard = none)
    (hr : (execOp a.eval o).run P w = .ok (.value v) w) (h : K (a.put o.dst v) w) : if Region.wanted o (yielded ops a.tmps) = true then Oper.wp P o a w K Q else F := by
  rw [if_pos (by simp [Region.wanted, hgd])]
  unfold Oper.wp
  rw [hr]
  exact h
theorem step_eqA {P : Program} {Q : Exit → Act → World → Prop} {ops : Array Oper} {o : Oper} {a : Act} {w w' : World} {v : Value} {K : Act → World → Prop} {F : Prop} (hgd : o.guard = none)
    (hr : (execOp a.eval o).run P w = .ok (.value v) w') (h : K (a.put o.dst v) w') : if Region.wanted o (yielded ops a.tmps) = true then Oper.wp P o a w K Q else F := by
  rw [if_pos (by simp [Region.wanted, hgd])]
  unfold Oper.wp
  rw [hr]
  exact h
theorem bldS2 {x y : Operand} {a0 a1 a2 a3 b0 b1 b2 b3 : Value} (o : Oper) (ho : o.op = .buildSlice 84 2 #[(0, x), (1, y)]) (ρ : Operand → Value) (hx : ρ x = .agg #[a0, a1, a2, a3]) (hy : ρ y = .agg #[b0, b1, b2, b3]) (w : World) :
    (execOp ρ o).run Tryz.prog w = .ok (.value (.slice (some ⟨w.heap.size, 0, none⟩) 2 2)) (w.alloc (.cells #[a0, a1, a2, a3, b0, b1, b2, b3] 83)) := by
  obtain ⟨d, op, t, p, af, gd⟩ := o
  simp only at ho
  subst ho
  go_simp
theorem stoF {x y : Operand} {g n c f : Nat} {A : Option Addr} {T : TypeId} {cs : Array Value} (o : Oper) (ho : o.op = .store 84 x y) (ρ : Operand → Value) (hρ : ρ x = .pointer (some ⟨g, f, none⟩)) (hρ2 : ρ y = .slice A n c) (w : World) (hb : Blk w g T cs) (hc : f < cs.size) : (execOp ρ o).run Tryz.prog w = .ok .skip (w.setCell ⟨g, f, none⟩ (.slice A n c)) := by
  obtain ⟨d, op, t, p, af, gd⟩ := o
  simp only at ho
  subst ho
  have cc : w.cell? ⟨g, f, none⟩ = some cs[f] := (hb.cell f).trans (Array.getElem?_eq_getElem hc)
  have cf := hb.frozen f
  go_simp
set_option maxHeartbeats 8000000 in
set_option maxRecDepth 100000 in
theorem build16_any (ck : List UInt8) (a b c d e0 : Bool) {A0 A1 A2 A3 A4 A5 A6 A7 A8 A9 : Option Addr} {n1 n2 n3 n4 n5 n6 n7 n8 n9 c0 c1 c2 c3 c4 c5 c6 c7 c8 c9 : Nat} {w : World} {kex m1 m2 m3 m4 m5 m6 m7 m8 m9 : List (List UInt8)}
    (hA : AllC w [.slice A0 kex.length c0, .slice A1 n1 c1, .slice A2 n2 c2, .slice A3 n3 c3, .slice A4 n4 c4, .slice A5 n5 c5, .slice A6 n6 c6, .slice A7 n7 c7, .slice A8 n8 c8, .slice A9 n9 c9] [kex, m1, m2, m3, m4, m5, m6, m7, m8, m9]) (hs : ∀ x ∈ kexMsg ⟨ck, kex, [m1, m2, m3, m4, m5, m6, m7, m8, m9], a, b, c, d, e0⟩, SzF x) :
    Calls Tryz.prog 16 #[.agg #[.string (bs ck), .slice A0 kex.length c0, .slice A1 n1 c1, .slice A2 n2 c2, .slice A3 n3 c3, .slice A4 n4 c4, .slice A5 n5 c5, .slice A6 n6 c6, .slice A7 n7 c7, .slice A8 n8 c8, .slice A9 n9 c9, .bool a, .bool b, .bool c, .bool d, .bool e0]] w (B16P kex (kexMsg ⟨ck, kex, [m1, m2, m3, m4, m5, m6, m7, m8, m9], a, b, c, d, e0⟩) w) := by
  obtain ⟨W0, hW0⟩ : ∃ W0, W0 = w.alloc (.cells #[.string (bs ck), .slice A0 kex.length c0, .slice A1 n1 c1, .slice A2 n2 c2, .slice A3 n3 c3, .slice A4 n4 c4, .slice A5 n5 c5, .slice A6 n6 c6, .slice A7 n7 c7, .slice A8 n8 c8, .slice A9 n9 c9, .bool a, .bool b, .bool c, .bool d, .bool e0] 45) := ⟨_, rfl⟩
  have hb0 : Below w.heap.size w W0 := by rw [hW0]; (repeat (first | exact Below.refl _ _ | refine below_drewN ?_ _ | refine Below.drew ?_ | refine Below.alloc ?_ (by first | omega | (simp; done) | (simp; omega)) _ | refine Below.setCell ?_ (by first | omega | (simp; done) | (simp; omega)) _ | refine bel_alloc ?_ _ | refine bel_trans ?_ (by assumption) | refine Below.trans ?_ (Below.mono (by assumption) (by first | omega | (simp; done) | (simp; omega)))))
  have hX0 : Blk W0 w.heap.size 45 #[.string (bs ck), .slice A0 kex.length c0, .slice A1 n1 c1, .slice A2 n2 c2, .slice A3 n3 c3, .slice A4 n4 c4, .slice A5 n5 c5, .slice A6 n6 c6, .slice A7 n7 c7, .slice A8 n8 c8, .slice A9 n9 c9, .bool a, .bool b, .bool c, .bool d, .bool e0] := by rw [hW0]; exact Blk.new w _ _
  have hk := (hA.below hb0).2 0 _ kex rfl rfl
  have HK := hide (kmarked_any hk.1.1 (by omega))
  have HA := hide hA
  have HSz := hide hs
  have HX := hide (And.intro hb0 hX0)
  have z1 := hX0.cell 1
  simp only [List.getElem?_toArray, List.getElem?_cons_zero, List.getElem?_cons_succ] at z1
  clear hA hs hk hb0 hX0
  cases hm : markedL kex with
  | true =>
    have HE := hide (show kexErr kex (encS 20 (kexMsg ⟨ck, kex, [m1, m2, m3, m4, m5, m6, m7, m8, m9], a, b, c, d, e0⟩)) = some ([kexB], 3) from by unfold kexErr; rw [if_pos hm])
    have HF := hide (fun W => fof_any ⟨#[107, 101, 120, 105, 110, 105, 116]⟩ 3 (by decide) W)
    rw [hm] at HK
    clear HA HSz hm
    go_enter Tryz.func16, Tryz.ntmps16
    go_upto_region 1 with fail
    rw [← hW0]
    clear hW0
    go_wp2_with (first
      | (go_at_call 38; refine HK.out.mono ?_; rintro e w1 ⟨rfl, hb1⟩)
      | (go_at_call 39; refine (HF.out _).mono ?_; rintro e w2 ⟨q, rfl, hi, hb2⟩)
      | fail)
    unfold errV at hi ⊢
    go_ret2
    exact ⟨HX.out.1.trans ((hb1.trans (hb2.mono hb1.size)).mono HX.out.1.size), .inr ⟨q, [kexB], 3, HE.out, rfl, hi⟩⟩
  | false =>
    have Hm := hide hm
    rw [hm] at HK
    clear hm
    go_enter Tryz.func16, Tryz.ntmps16
    go_upto_region 1 with fail
    rw [← hW0]
    clear hW0
    go_upto_region 5 with (first
      | (go_at_call 38; refine HK.out.mono ?_; rintro e w1 ⟨rfl, hb1⟩; have hX1 := HX.out.2.below hb1 HX.out.2.lt; have z1 := hX1.cell 1; have z0 := hX1.cell 0; simp only [List.getElem?_toArray, List.getElem?_cons_zero, List.getElem?_cons_succ] at z0 z1)
      | fail)
    obtain ⟨f0, hf0⟩ : ∃ f0, f0 = w1.heap.size := ⟨_, rfl⟩
    have hb1' := HX.out.1.trans (hb1.mono HX.out.1.size)
    have hlo : w.heap.size ≤ f0 := by rw [hf0]; exact hb1'.size
    have hX2 : Blk ((w1.alloc (.cells #[.int .u8 99, .int .i64 0, .string (bs ck), .slice none 0 0] 83)).alloc (.cells #[.int .i64 20, .slice (some ⟨w1.heap.size, 0, none⟩) 1 1] 86)) w.heap.size 45 #[.string (bs ck), .slice A0 kex.length c0, .slice A1 n1 c1, .slice A2 n2 c2, .slice A3 n3 c3, .slice A4 n4 c4, .slice A5 n5 c5, .slice A6 n6 c6, .slice A7 n7 c7, .slice A8 n8 c8, .slice A9 n9 c9, .bool a, .bool b, .bool c, .bool d, .bool e0] := (hX1.alloc _).alloc _
    have hM2 : Blk ((w1.alloc (.cells #[.int .u8 99, .int .i64 0, .string (bs ck), .slice none 0 0] 83)).alloc (.cells #[.int .i64 20, .slice (some ⟨w1.heap.size, 0, none⟩) 1 1] 86)) (w1.heap.size + 1) 86 #[.int .i64 20, .slice (some ⟨w1.heap.size, 0, none⟩) 1 1] := blk_new2 w1 _ _ _
    have hO2 : ((w1.alloc (.cells #[.int .u8 99, .int .i64 0, .string (bs ck), .slice none 0 0] 83)).alloc (.cells #[.int .i64 20, .slice (some ⟨w1.heap.size, 0, none⟩) 1 1] 86)).ownsRow w1.heap.size 83 4 (.slice (some ⟨w1.heap.size, 0, none⟩) 1 1) 1 (fcs [(⟨99, 0, ck, []⟩, .slice none 0 0)]) := (World.ownsRow_lit w1 #[.int .u8 99, .int .i64 0, .string (bs ck), .slice none 0 0] 1 (Nat.le_refl _) (by unfold maxLen; omega) rfl).alloc _
    have hb2 : Below w.heap.size w ((w1.alloc (.cells #[.int .u8 99, .int .i64 0, .string (bs ck), .slice none 0 0] 83)).alloc (.cells #[.int .i64 20, .slice (some ⟨w1.heap.size, 0, none⟩) 1 1] 86)) := (hb1'.alloc hb1'.size _).alloc (by simp only [World.size_alloc]; have := hb1'.size; omega) _
    generalize ((w1.alloc (.cells #[.int .u8 99, .int .i64 0, .string (bs ck), .slice none 0 0] 83)).alloc (.cells #[.int .i64 20, .slice (some ⟨w1.heap.size, 0, none⟩) 1 1] 86)) = W2 at hX2 hM2 hO2 hb2 ⊢
    rw [← hf0] at hM2 hO2
    simp only [← hf0]
    have hMk : MkMsg f0 (f0 + 1) 20 (some ⟨f0, 0, none⟩) 1 1 [(⟨99, 0, ck, []⟩, .slice none 0 0)] W2 := ⟨rfl, hM2, hO2⟩
    have HL := hide (plown_any (ls := [kex, m1, m2, m3, m4, m5, m6, m7]) (AllC.allS (AllC.take (HA.out.below hb2) 8)) (fun l hl => by
      obtain ⟨i, hi, rfl⟩ := List.getElem_of_mem hl
      have hi8 : i < 8 := hi
      have hv : i < ([.slice A0 kex.length c0, .slice A1 n1 c1, .slice A2 n2 c2, .slice A3 n3 c3, .slice A4 n4 c4, .slice A5 n5 c5, .slice A6 n6 c6, .slice A7 n7 c7, .slice A8 n8 c8, .slice A9 n9 c9] : List Value).length := by simp; omega
      exact (HA.out.2 i _ _ (List.getElem?_eq_getElem hv) (by rw [← List.getElem?_eq_getElem hi]; match i, hi8 with | 0, _ => rfl | 1, _ => rfl | 2, _ => rfl | 3, _ => rfl | 4, _ => rfl | 5, _ => rfl | 6, _ => rfl | 7, _ => rfl)).2))
    have H2 := hide (And.intro hX2 (And.intro hMk (And.intro hb2 hlo)))
    have z1 := hX2.cell 1
    have z2 := hX2.cell 2
    have z3 := hX2.cell 3
    have z4 := hX2.cell 4
    have z5 := hX2.cell 5
    have z6 := hX2.cell 6
    have z7 := hX2.cell 7
    have z8 := hX2.cell 8
    simp only [List.getElem?_toArray, List.getElem?_cons_zero, List.getElem?_cons_succ] at z1 z2 z3 z4 z5 z6 z7 z8
    clear hX2 hM2 hO2 hb2 hMk hlo hf0 hb1' HK HX
    go_wp2_with fail
    refine HL.out.mono ?_
    rintro e w3 ⟨g, rfl, hg, hP⟩
    obtain ⟨B0, d0, B1, u1, d1, B2, u2, d2, B3, u3, d3, B4, u4, d4, B5, u5, d5, B6, u6, d6, B7, u7, d7, mid, h6⟩ := PL8.r6 hP rfl hg H2.out.2.2.1 H2.out.1 H2.out.2.1 H2.out.2.2.2 (Nat.le_succ _)
    have H6 := hide h6
    clear hP hg HL H2 h6 z1 z2 z3 z4 z5 z6 z7 z8
    go_upto_region 6 with fail
    refine wp_region_E (fun W => Blk W w.heap.size 45 #[.string (bs ck), .slice A0 kex.length c0, .slice A1 n1 c1, .slice A2 n2 c2, .slice A3 n3 c3, .slice A4 n4 c4, .slice A5 n5 c5, .slice A6 n6 c6, .slice A7 n7 c7, .slice A8 n8 c8, .slice A9 n9 c9, .bool a, .bool b, .bool c, .bool d, .bool e0] ∧ Blk W g 22 #[.slice B0 kex.length d0, .slice B1 u1 d1, .slice B2 u2 d2, .slice B3 u3 d3, .slice B4 u4 d4, .slice B5 u5 d5, .slice B6 u6 d6, .slice B7 u7 d7]) (fun i => [4, 5, 6].contains i) (by kernel_rfl) ?_
    obtain ⟨iI, hiI, hI0, hI1, hI2⟩ := info_partsN infoStN
    obtain ⟨Wd, hWd⟩ : ∃ Wd, Wd = w3.drew := ⟨_, rfl⟩
    have h6d : R6 w f0 (f0 + 1) w.heap.size g mid #[.string (bs ck), .slice A0 kex.length c0, .slice A1 n1 c1, .slice A2 n2 c2, .slice A3 n3 c3, .slice A4 n4 c4, .slice A5 n5 c5, .slice A6 n6 c6, .slice A7 n7 c7, .slice A8 n8 c8, .slice A9 n9 c9, .bool a, .bool b, .bool c, .bool d, .bool e0] (.slice B0 kex.length d0) [.slice B1 u1 d1, .slice B2 u2 d2, .slice B3 u3 d3, .slice B4 u4 d4, .slice B5 u5 d5, .slice B6 u6 d6, .slice B7 u7 d7] kex [m1, m2, m3, m4, m5, m6, m7] (⟨99, 0, ck, []⟩, .slice none 0 0) Wd := by rw [hWd]; exact H6.out.below ((Below.refl _ _).drew)
    have hSd := And.intro h6d.box h6d.row
    have hm4 : (marksOf a b c d).length ≤ 4 := by have := preM_len a b c d 4; rwa [preM_4] at this
    have hkl : kex.length ≤ 1000000 := (HA.out.2 0 _ kex rfl rfl).2
    rw [← hWd]
    clear hWd H6
    refine wpAnyE_takeY (i := 0) (oi := ?_) (v := .slice (some ⟨g, 0, none⟩) 8 8) ?_ ?_ ?_ ?_ ?_ ?_ ?_ ?_
    rotate_left 1
    · (first | (simp only [List.getElem?_toArray, List.getElem?_cons_succ, List.getElem?_cons_zero]; exact rfl) | exact rfl)
    · kernel_rfl
    · kernel_rfl
    · kernel_rfl
    · rfl
    · exact fun _ _ _ h => h
    · exact Or.inl ⟨by rfl, fun w _ => by go_simp⟩
    try simp only [Act.put, List.setIfInBounds_toArray, List.set_cons_zero, List.set_cons_succ]
    refine wpAnyE_takeY (i := 1) (oi := ?_) (v := .slice (some ⟨g, 0, none⟩) 8 8) ?_ ?_ ?_ ?_ ?_ ?_ ?_ ?_
    rotate_left 1
    · (first | (simp only [List.getElem?_toArray, List.getElem?_cons_succ, List.getElem?_cons_zero]; exact rfl) | exact rfl)
    · kernel_rfl
    · kernel_rfl
    · kernel_rfl
    · rfl
    · exact fun _ _ _ h => h
    · exact Or.inl ⟨by rfl, fun w _ => by go_simp⟩
    try simp only [Act.put, List.setIfInBounds_toArray, List.set_cons_zero, List.set_cons_succ]
    refine wpAnyE_takeY (i := 2) (oi := ?_) (v := .pointer (some ⟨g, 0, none⟩)) ?_ ?_ ?_ ?_ ?_ ?_ ?_ ?_
    rotate_left 1
    · (first | (simp only [List.getElem?_toArray, List.getElem?_cons_succ, List.getElem?_cons_zero]; exact rfl) | exact rfl)
    · kernel_rfl
    · kernel_rfl
    · kernel_rfl
    · rfl
    · exact fun _ _ _ h => h
    · exact Or.inl ⟨by rfl, fun w _ => by go_simp⟩
    try simp only [Act.put, List.setIfInBounds_toArray, List.set_cons_zero, List.set_cons_succ]
    refine wpAnyE_take (i := 3) (oi := ?_) (v := .slice B0 kex.length d0) ?_ ?_ ?_ ?_ ?_ ?_ ?_ hSd ?_
    rotate_left 1
    · (first | (simp only [List.getElem?_toArray, List.getElem?_cons_succ, List.getElem?_cons_zero]; exact rfl) | exact rfl)
    · kernel_rfl
    · kernel_rfl
    · kernel_rfl
    · kernel_rfl
    · exact fun _ _ _ h => h
    · refine Or.inl ⟨by rfl, fun w hSw => ?_⟩
      have k0 := hSw.2.cell 0
      simp only [List.getElem?_toArray, List.getElem?_cons_zero, List.getElem?_cons_succ] at k0
      clear hSw
      go_simp
    try simp only [Act.put, List.setIfInBounds_toArray, List.set_cons_zero, List.set_cons_succ]
    refine wpAnyE_take (i := 4) (oi := ?_) (v := .agg #[.string (bs ck), .slice A0 kex.length c0, .slice A1 n1 c1, .slice A2 n2 c2, .slice A3 n3 c3, .slice A4 n4 c4, .slice A5 n5 c5, .slice A6 n6 c6, .slice A7 n7 c7, .slice A8 n8 c8, .slice A9 n9 c9, .bool a, .bool b, .bool c, .bool d, .bool e0]) ?_ ?_ ?_ ?_ ?_ ?_ ?_ hSd ?_
    rotate_left 1
    · (first | (simp only [List.getElem?_toArray, List.getElem?_cons_succ, List.getElem?_cons_zero]; exact rfl) | exact rfl)
    · kernel_rfl
    · kernel_rfl
    · kernel_rfl
    · kernel_rfl
    · exact fun _ _ _ h => h
    · refine Or.inl ⟨by rfl, fun w hSw => ?_⟩
      have z0 := hSw.1.cell 0
      have z1 := hSw.1.cell 1
      have z2 := hSw.1.cell 2
      have z3 := hSw.1.cell 3
      have z4 := hSw.1.cell 4
      have z5 := hSw.1.cell 5
      have z6 := hSw.1.cell 6
      have z7 := hSw.1.cell 7
      have z8 := hSw.1.cell 8
      have z9 := hSw.1.cell 9
      have z10 := hSw.1.cell 10
      have z11 := hSw.1.cell 11
      have z12 := hSw.1.cell 12
      have z13 := hSw.1.cell 13
      have z14 := hSw.1.cell 14
      have z15 := hSw.1.cell 15
      simp only [List.getElem?_toArray, List.getElem?_cons_zero, List.getElem?_cons_succ] at z0 z1 z2 z3 z4 z5 z6 z7 z8 z9 z10 z11 z12 z13 z14 z15
      clear hSw
      go_simp
    try simp only [Act.put, List.setIfInBounds_toArray, List.set_cons_zero, List.set_cons_succ]
    refine wpAnyE_ready (rs := [5]) (by kernel_rfl) (by simp) ?_
    refine AllReadyE.cons (o := ?_) ?_ (fun K hK => ?_) AllReadyE.nil
    rotate_left 1
    · (first | (simp only [List.getElem?_toArray, List.getElem?_cons_succ, List.getElem?_cons_zero]; exact rfl) | exact rfl)
    refine step_call1 (u := .agg #[.string (bs ck), .slice A0 kex.length c0, .slice A1 n1 c1, .slice A2 n2 c2, .slice A3 n3 c3, .slice A4 n4 c4, .slice A5 n5 c5, .slice A6 n6 c6, .slice A7 n7 c7, .slice A8 n8 c8, .slice A9 n9 c9, .bool a, .bool b, .bool c, .bool d, .bool e0]) (f := 42) rfl (callM (x := .tmp 29) _ rfl _ (by rfl) _) (marks_any (bs ck) a b c d e0 _) ?_
    rintro e w4 ⟨vm, rfl, ⟨M, cm, rfl, hcm, hSm⟩, hb4⟩
    refine ⟨_, rfl, ?_⟩
    have h6d := h6d.below hb4
    have hSm := hSm.reads
    clear hSd hb4
    refine hK.out _ _ ⟨h6d.box, h6d.row⟩ (fun _ => ?_)
    clear hK K
    try simp only [Act.put, List.setIfInBounds_toArray, List.set_cons_zero, List.set_cons_succ]
    refine wpAnyE_ready (rs := [6]) (by kernel_rfl) (by simp) ?_
    refine AllReadyE.cons (o := ?_) ?_ (fun K hK => ?_) AllReadyE.nil
    rotate_left 1
    · (first | (simp only [List.getElem?_toArray, List.getElem?_cons_succ, List.getElem?_cons_zero]; exact rfl) | exact rfl)
    refine step_append_any _ rfl (.tmp 28) (.tmp 30) _ (by rfl) (g + 1) 9 iI (.string ⟨#[]⟩) 1 16 Tryz.underlying22 hiI hI0 hI1 hI2 (by rfl) (by decide) (.slice B0 kex.length d0) kex.length _ (by rfl) h6d.own _ M (marksOf a b c d).length cm (((marksOf a b c d).map bs).map Value.string) (by rfl) hSm (fun u hu => by obtain ⟨s, _, rfl⟩ := List.mem_map.1 hu; rfl) (by unfold maxLen; omega) (by omega) h6d.row.lt ?_
    intro v6 w6 hown6 hgr6 hor6
    obtain ⟨AX, cX, rfl⟩ := own_slN hown6
    have hr6 := h6d.row.grown hgr6 (fun e => by have := (h6d.own.lt g e.symm).1; omega)
    have hx6 := h6d.box.grown hgr6 (fun e => by have := (h6d.own.lt _ e.symm).1; have := h6d.lts.2.2.2.1; omega)
    refine hK.out _ _ ⟨hx6, hr6⟩ (fun _ => ?_)
    clear hK K hiI hI0 hI1 hI2 hSm hcm hor6
    try simp only [Act.put, List.setIfInBounds_toArray, List.set_cons_zero, List.set_cons_succ]
    refine wpAnyE_takeY (i := 7) (oi := ?_) (v := .pointer (some ⟨g, 0, none⟩)) ?_ ?_ ?_ ?_ ?_ ?_ ?_ ?_
    rotate_left 1
    · (first | (simp only [List.getElem?_toArray, List.getElem?_cons_succ, List.getElem?_cons_zero]; exact rfl) | exact rfl)
    · kernel_rfl
    · kernel_rfl
    · kernel_rfl
    · rfl
    · exact fun _ _ _ h => h
    · exact Or.inl ⟨by rfl, fun w _ => by go_simp⟩
    try simp only [Act.put, List.setIfInBounds_toArray, List.set_cons_zero, List.set_cons_succ]
    refine wpAnyE_ready (rs := [8]) (by kernel_rfl) (by simp) ?_
    refine AllReadyE.late (o := ?_) ?_ rfl (fun K hK => ?_) AllReadyE.nil
    rotate_left 1
    · (first | (simp only [List.getElem?_toArray, List.getElem?_cons_succ, List.getElem?_cons_zero]; exact rfl) | exact rfl)
    refine step_storeV (p := ⟨g, 0, none⟩) (x := .tmp 32) (y := .tmp 31) (u := .pointer (some ⟨g, 0, none⟩)) (v := .slice AX (kex.length + (marksOf a b c d).length) cX) rfl (by rfl) (by rfl) (fun ρ hρ hρ2 => ?_) ?_
    · exact stoR _ rfl ρ hρ hρ2 _ hr6 (by simp)
    have h7 := R6.app h6d h6d.row.lt hown6 hgr6
    refine hK.out _ _ ?_
    clear hK K hown6 hgr6 h6d hr6 hx6
    try simp only [Act.put, List.setIfInBounds_toArray, List.set_cons_zero, List.set_cons_succ]
    refine wpAnyE_done (by kernel_rfl) ?_ _
    generalize w6.setCell ⟨g, 0, none⟩ (.slice AX (kex.length + (marksOf a b c d).length) cX) = w7 at h7 ⊢
    generalize kex.length + (marksOf a b c d).length = nX at h7 ⊢
    have H7 := hide h7
    have z9 := h7.box.cell 9
    have z10 := h7.box.cell 10
    simp only [List.getElem?_toArray, List.getElem?_cons_zero, List.getElem?_cons_succ] at z9 z10
    have hg7 := h7.row.lt
    obtain ⟨iL, hiL, hL0, hL1, hL2⟩ := info_partsN infoLs
    have hown7 : w7.ownsRow 0 22 1 (.slice (some ⟨g, 0, none⟩) 8 8) 8 [.slice AX nX cX, .slice B1 u1 d1, .slice B2 u2 d2, .slice B3 u3 d3, .slice B4 u4 d4, .slice B5 u5 d5, .slice B6 u6 d6, .slice B7 u7 d7] := own_blk h7.row rfl (by unfold maxLen; omega)
    clear h7
    go_wp2_with (first
      | (at_builtin; refine wpList_append_any _ rfl (.tmp 33) (.tmp 40) _ rfl 0 22 iL (.slice none 0 0) 1 24 Tryz.underlying88 hiL hL0 hL1 hL2 rfl (by decide) (.slice (some ⟨g, 0, none⟩) 8 8) 8 _ rfl (hown7.alloc _) _ (some ⟨_, 0, none⟩) 2 2 [.slice A8 n8 c8, .slice A9 n9 c9] rfl (reads_blkN (Blk.new _ _ _) rfl) (by simp [Value.oneCell']) (by unfold maxLen; omega) (by omega) (Nat.zero_le _) ?_; intro v8 w8 hown8 hgr8 hor8; obtain ⟨AA, cc, rfl⟩ := own_slN hown8; obtain ⟨hb, rfl, _⟩ := tn_own hown8 (by omega); simp only [Nat.reduceAdd] at hown8 ⊢)
      | fail)
    have HI0 := hide (MkI.start H7.out rfl (HA.out.drop 8) ⟨rfl, rfl, (by show 99 < 256; decide)⟩ ((Below.refl _ _).alloc (Nat.le_refl _) _) hown8 (by omega) hgr8)
    clear H7 z9 z10 hg7 hown7 hown8 hgr8 hor8 hiL hL0 hL1 hL2 hkl hm4 HA
    go_loopw [43, 8] (fun vi vl wr => ∃ (k : Nat) (A : Option Addr) (cc : Nat), vi = .int .i64 k ∧ k ≤ 10 ∧ Hid (MkI w f0 (f0 + 1) w.heap.size hb #[.string (bs ck), .slice A0 kex.length c0, .slice A1 n1 c1, .slice A2 n2 c2, .slice A3 n3 c3, .slice A4 n4 c4, .slice A5 n5 c5, .slice A6 n6 c6, .slice A7 n7 c7, .slice A8 n8 c8, .slice A9 n9 c9, .bool a, .bool b, .bool c, .bool d, .bool e0] ([.slice AX nX cX, .slice B1 u1 d1, .slice B2 u2 d2, .slice B3 u3 d3, .slice B4 u4 d4, .slice B5 u5 d5, .slice B6 u6 d6, .slice B7 u7 d7, .slice A8 n8 c8, .slice A9 n9 c9] : List Value) ([kex ++ marksOf a b c d, m1, m2, m3, m4, m5, m6, m7, m8, m9] : List (List (List UInt8))) (zsK (⟨99, 0, ck, []⟩, .slice none 0 0) ([.slice AX nX cX, .slice B1 u1 d1, .slice B2 u2 d2, .slice B3 u3 d3, .slice B4 u4 d4, .slice B5 u5 d5, .slice B6 u6 d6, .slice B7 u7 d7, .slice A8 n8 c8, .slice A9 n9 c9] : List Value) ([kex ++ marksOf a b c d, m1, m2, m3, m4, m5, m6, m7, m8, m9] : List (List (List UInt8))) k) A (k + 1) cc wr)) (fun vi _ _ => 10 - (intOf vi).toNat)
    case atStart => exact ⟨0, _, _, rfl, by omega, HI0⟩
    case round =>
      obtain ⟨k, A, cq, rfl, hk, HI⟩ := hrel
      by_cases hlt : k < 10
      · have hki : (k : Int) < 10 := by omega
        have hv : k < ([.slice AX nX cX, .slice B1 u1 d1, .slice B2 u2 d2, .slice B3 u3 d3, .slice B4 u4 d4, .slice B5 u5 d5, .slice B6 u6 d6, .slice B7 u7 d7, .slice A8 n8 c8, .slice A9 n9 c9] : List Value).length := hlt
        have hl : k < ([kex ++ marksOf a b c d, m1, m2, m3, m4, m5, m6, m7, m8, m9] : List (List (List UInt8))).length := hlt
        have hcell := HI.out.ten.at_ (List.getElem?_eq_getElem hv)
        have hin := HI.out.inn k _ _ (List.getElem?_eq_getElem hv) (List.getElem?_eq_getElem hl)
        have hzs := zsK_succ (z0 := (⟨99, 0, ck, []⟩, .slice none 0 0)) hv hl
        generalize ([.slice AX nX cX, .slice B1 u1 d1, .slice B2 u2 d2, .slice B3 u3 d3, .slice B4 u4 d4, .slice B5 u5 d5, .slice B6 u6 d6, .slice B7 u7 d7, .slice A8 n8 c8, .slice A9 n9 c9] : List Value)[k] = vk at hcell hin hzs
        generalize ([kex ++ marksOf a b c d, m1, m2, m3, m4, m5, m6, m7, m8, m9] : List (List (List UInt8)))[k] = lk at hin hzs
        obtain ⟨lA, lc, rfl, _⟩ := id hin
        have hlo : f0 ≤ wr.heap.size := Nat.le_trans (Nat.le_succ _) (Nat.le_of_lt HI.out.msg.m.lt)
        have HP := hide (kput_any HI.out.msg hlo (by omega) lA lk.length lc lk)
        have HS := hide (fun e w' hp => MkI.step (e := e) (w' := w') HI.out (zz := [(⟨110, 0, [], lk⟩, .slice lA lk.length lc)]) (m := 1) hp (fun z hz => by obtain rfl : z = _ := List.mem_singleton.1 hz; exact ⟨hin, (by show 110 < 256; decide)⟩))
        rw [← hzs] at HS
        clear hin hzs HI hlo hv hl HI0
        generalize lk.length = nk at HP HS hcell
        go_wp2_with (first
          | (go_at_call 40; refine HP.out.mono ?_; rintro e w4 hp; obtain ⟨A', c', rfl, hI⟩ := HS.out _ _ hp)
          | fail)
        exact ⟨⟨k + 1, A', c', by go_num, by omega, hide hI⟩, by simp [intOf]; omega⟩
      · have hki : ¬ (k : Int) < 10 := by omega
        obtain rfl : k = 10 := by omega
        have HQ := hide HI.out
        clear HI HI0 hlt hk
        go_upto_region 12 with fail
        refine wp_region_E (fun W => Blk W (f0 + 1) 86 #[.int .i64 20, .slice A 11 cq] ∧ Blk W w.heap.size 45 #[.string (bs ck), .slice A0 kex.length c0, .slice A1 n1 c1, .slice A2 n2 c2, .slice A3 n3 c3, .slice A4 n4 c4, .slice A5 n5 c5, .slice A6 n6 c6, .slice A7 n7 c7, .slice A8 n8 c8, .slice A9 n9 c9, .bool a, .bool b, .bool c, .bool d, .bool e0]) (fun i => [3, 4, 5, 7, 8].contains i) (by kernel_rfl) ?_
        obtain ⟨iF, hiF, hF0, hF1, hF2⟩ := info_partsN infoFd
        obtain ⟨Wd, hWd⟩ : ∃ Wd, Wd = wr.drew := ⟨_, rfl⟩
        have hQd : MkI w f0 (f0 + 1) w.heap.size hb #[.string (bs ck), .slice A0 kex.length c0, .slice A1 n1 c1, .slice A2 n2 c2, .slice A3 n3 c3, .slice A4 n4 c4, .slice A5 n5 c5, .slice A6 n6 c6, .slice A7 n7 c7, .slice A8 n8 c8, .slice A9 n9 c9, .bool a, .bool b, .bool c, .bool d, .bool e0] ([.slice AX nX cX, .slice B1 u1 d1, .slice B2 u2 d2, .slice B3 u3 d3, .slice B4 u4 d4, .slice B5 u5 d5, .slice B6 u6 d6, .slice B7 u7 d7, .slice A8 n8 c8, .slice A9 n9 c9] : List Value) ([kex ++ marksOf a b c d, m1, m2, m3, m4, m5, m6, m7, m8, m9] : List (List (List UInt8))) (zsK (⟨99, 0, ck, []⟩, .slice none 0 0) ([.slice AX nX cX, .slice B1 u1 d1, .slice B2 u2 d2, .slice B3 u3 d3, .slice B4 u4 d4, .slice B5 u5 d5, .slice B6 u6 d6, .slice B7 u7 d7, .slice A8 n8 c8, .slice A9 n9 c9] : List Value) ([kex ++ marksOf a b c d, m1, m2, m3, m4, m5, m6, m7, m8, m9] : List (List (List UInt8))) 10) A 11 cq Wd := by rw [hWd]; exact HQ.out.belowI ((Below.refl _ _).drew)
        have hSd : Blk Wd (f0 + 1) 86 #[.int .i64 20, .slice A 11 cq] ∧ Blk Wd w.heap.size 45 #[.string (bs ck), .slice A0 kex.length c0, .slice A1 n1 c1, .slice A2 n2 c2, .slice A3 n3 c3, .slice A4 n4 c4, .slice A5 n5 c5, .slice A6 n6 c6, .slice A7 n7 c7, .slice A8 n8 c8, .slice A9 n9 c9, .bool a, .bool b, .bool c, .bool d, .bool e0] := ⟨hQd.msg.m, hQd.box⟩
        have hlo : f0 ≤ Wd.heap.size := Nat.le_trans (Nat.le_succ _) (Nat.le_of_lt hQd.msg.m.lt)
        rw [← hWd]
        clear hWd HQ
        refine wpAnyE_takeY (i := 0) (oi := ?_) (v := .pointer (some ⟨f0 + 1, 1, none⟩)) ?_ ?_ ?_ ?_ ?_ ?_ ?_ ?_
        rotate_left 1
        · (first | (simp only [List.getElem?_toArray, List.getElem?_cons_succ, List.getElem?_cons_zero]; exact rfl) | exact rfl)
        · kernel_rfl
        · kernel_rfl
        · kernel_rfl
        · rfl
        · exact fun _ _ _ h => h
        · exact Or.inl ⟨by rfl, fun w _ => by go_simp⟩
        try simp only [Act.put, List.setIfInBounds_toArray, List.set_cons_zero, List.set_cons_succ]
        refine wpAnyE_takeY (i := 2) (oi := ?_) (v := .pointer (some ⟨w.heap.size, 15, none⟩)) ?_ ?_ ?_ ?_ ?_ ?_ ?_ ?_
        rotate_left 1
        · (first | (simp only [List.getElem?_toArray, List.getElem?_cons_succ, List.getElem?_cons_zero]; exact rfl) | exact rfl)
        · kernel_rfl
        · kernel_rfl
        · kernel_rfl
        · rfl
        · exact fun _ _ _ h => h
        · exact Or.inl ⟨by rfl, fun w _ => by go_simp⟩
        try simp only [Act.put, List.setIfInBounds_toArray, List.set_cons_zero, List.set_cons_succ]
        refine wpAnyE_takeY (i := 6) (oi := ?_) (v := .agg #[.int .u8 117, .int .i64 0, .string ⟨#[]⟩, .slice none 0 0]) ?_ ?_ ?_ ?_ ?_ ?_ ?_ ?_
        rotate_left 1
        · (first | (simp only [List.getElem?_toArray, List.getElem?_cons_succ, List.getElem?_cons_zero]; exact rfl) | exact rfl)
        · kernel_rfl
        · kernel_rfl
        · kernel_rfl
        · rfl
        · exact fun _ _ _ h => h
        · exact Or.inl ⟨by rfl, fun w _ => by go_simp⟩
        try simp only [Act.put, List.setIfInBounds_toArray, List.set_cons_zero, List.set_cons_succ]
        refine wpAnyE_take (i := 1) (oi := ?_) (v := .slice A 11 cq) ?_ ?_ ?_ ?_ ?_ ?_ ?_ hSd ?_
        rotate_left 1
        · (first | (simp only [List.getElem?_toArray, List.getElem?_cons_succ, List.getElem?_cons_zero]; exact rfl) | exact rfl)
        · kernel_rfl
        · kernel_rfl
        · kernel_rfl
        · kernel_rfl
        · exact fun _ _ _ h => h
        · refine Or.inl ⟨by rfl, fun w hSw => ?_⟩
          have k1 := hSw.1.cell 1
          simp only [List.getElem?_toArray, List.getElem?_cons_zero, List.getElem?_cons_succ] at k1
          clear hSw
          go_simp
        try simp only [Act.put, List.setIfInBounds_toArray, List.set_cons_zero, List.set_cons_succ]
        refine wpAnyE_take (i := 3) (oi := ?_) (v := .bool e0) ?_ ?_ ?_ ?_ ?_ ?_ ?_ hSd ?_
        rotate_left 1
        · (first | (simp only [List.getElem?_toArray, List.getElem?_cons_succ, List.getElem?_cons_zero]; exact rfl) | exact rfl)
        · kernel_rfl
        · kernel_rfl
        · kernel_rfl
        · kernel_rfl
        · exact fun _ _ _ h => h
        · refine Or.inl ⟨by rfl, fun w hSw => ?_⟩
          have k1 := hSw.2.cell 15
          simp only [List.getElem?_toArray, List.getElem?_cons_zero, List.getElem?_cons_succ] at k1
          clear hSw
          go_simp
        try simp only [Act.put, List.setIfInBounds_toArray, List.set_cons_zero, List.set_cons_succ]
        refine wpAnyE_ready (rs := [4]) (by kernel_rfl) (by simp) ?_
        refine AllReadyE.cons (o := ?_) ?_ (fun K hK => ?_) AllReadyE.nil
        rotate_left 1
        · (first | (simp only [List.getElem?_toArray, List.getElem?_cons_succ, List.getElem?_cons_zero]; exact rfl) | exact rfl)
        refine step_call1 (u := .bool e0) (f := 43) rfl (callTr (x := .tmp 54) _ rfl _ (by rfl) _) (show Calls Tryz.prog 43 #[.bool e0] _ (fun e w' => e = .returned (.int .i64 (foN e0)) ∧ w' = _) from ktruth_any e0 _) ?_
        rintro e w4 ⟨rfl, rfl⟩
        refine ⟨_, rfl, ?_⟩
        refine hK.out _ _ hSd (fun _ => ?_)
        clear hK K
        try simp only [Act.put, List.setIfInBounds_toArray, List.set_cons_zero, List.set_cons_succ]
        refine wpAnyE_ready (rs := [5]) (by kernel_rfl) (by simp) ?_
        refine AllReadyE.cons (o := ?_) ?_ (fun K hK => ?_) AllReadyE.nil
        rotate_left 1
        · (first | (simp only [List.getElem?_toArray, List.getElem?_cons_succ, List.getElem?_cons_zero]; exact rfl) | exact rfl)
        refine step_eqV rfl (bldB (x := .tmp 55) (n := foN e0) _ rfl _ rfl (by rfl) _) ?_
        refine hK.out _ _ hSd (fun _ => ?_)
        clear hK K
        try simp only [Act.put, List.setIfInBounds_toArray, List.set_cons_zero, List.set_cons_succ]
        refine wpAnyE_ready (rs := [7]) (by kernel_rfl) (by simp) ?_
        refine AllReadyE.cons (o := ?_) ?_ (fun K hK => ?_) AllReadyE.nil
        rotate_left 1
        · (first | (simp only [List.getElem?_toArray, List.getElem?_cons_succ, List.getElem?_cons_zero]; exact rfl) | exact rfl)
        refine step_eqA rfl (bldS2 (x := .tmp 56) (y := .tmp 57) (a0 := .int .u8 98) (a1 := .int .i64 (foN e0)) (a2 := .string ⟨#[]⟩) (a3 := .slice none 0 0) (b0 := .int .u8 117) (b1 := .int .i64 0) (b2 := .string ⟨#[]⟩) (b3 := .slice none 0 0) _ rfl _ (by rfl) (by rfl) _) ?_
        have hnb := Blk.new w4 83 #[.int .u8 98, .int .i64 (foN e0), .string ⟨#[]⟩, .slice none 0 0, .int .u8 117, .int .i64 0, .string ⟨#[]⟩, .slice none 0 0]
        refine hK.out _ _ ⟨hSd.1.alloc _, hSd.2.alloc _⟩ (fun _ => ?_)
        clear hK K
        try simp only [Act.put, List.setIfInBounds_toArray, List.set_cons_zero, List.set_cons_succ]
        refine wpAnyE_ready (rs := [8]) (by kernel_rfl) (by simp) ?_
        refine AllReadyE.cons (o := ?_) ?_ (fun K hK => ?_) AllReadyE.nil
        rotate_left 1
        · (first | (simp only [List.getElem?_toArray, List.getElem?_cons_succ, List.getElem?_cons_zero]; exact rfl) | exact rfl)
        refine step_append_any _ rfl (.tmp 52) (.tmp 58) _ (by rfl) f0 83 iF (.agg #[.int .u8 0, .int .i64 0, .string ⟨#[]⟩, .slice none 0 0]) 4 56 Tryz.underlying84 hiF hF0 hF1 hF2 (by rfl) (by decide) (.slice A 11 cq) 11 _ (by rfl) (hQd.msg.own.alloc _) _ _ 2 2 [.int .u8 98, .int .i64 (foN e0), .string ⟨#[]⟩, .slice none 0 0, .int .u8 117, .int .i64 0, .string ⟨#[]⟩, .slice none 0 0] (by rfl) (reads_blkN hnb (by rfl)) (by simp [Value.oneCell']) (by unfold maxLen; omega) (by omega) (by simp only [World.size_alloc]; omega) ?_
        intro v6 w6 hown6 hgr6 hor6
        obtain ⟨AY, cY, rfl⟩ := own_slN hown6
        have hm6 := (hSd.1.alloc (.cells #[.int .u8 98, .int .i64 (foN e0), .string ⟨#[]⟩, .slice none 0 0, .int .u8 117, .int .i64 0, .string ⟨#[]⟩, .slice none 0 0] 83)).grown hgr6 (fun e => own_blk_ne hQd.msg.own hQd.msg.m (by decide) e.symm)
        have hx6 := (hSd.2.alloc (.cells #[.int .u8 98, .int .i64 (foN e0), .string ⟨#[]⟩, .slice none 0 0, .int .u8 117, .int .i64 0, .string ⟨#[]⟩, .slice none 0 0] 83)).grown hgr6 (fun e => own_blk_ne hQd.msg.own hQd.box (by decide) e.symm)
        refine hK.out _ _ ⟨hm6, hx6⟩ (fun _ => ?_)
        clear hK K hiF hF0 hF1 hF2 hnb
        try simp only [Act.put, List.setIfInBounds_toArray, List.set_cons_zero, List.set_cons_succ]
        refine wpAnyE_takeY (i := 9) (oi := ?_) (v := .pointer (some ⟨f0 + 1, 1, none⟩)) ?_ ?_ ?_ ?_ ?_ ?_ ?_ ?_
        rotate_left 1
        · (first | (simp only [List.getElem?_toArray, List.getElem?_cons_succ, List.getElem?_cons_zero]; exact rfl) | exact rfl)
        · kernel_rfl
        · kernel_rfl
        · kernel_rfl
        · rfl
        · exact fun _ _ _ h => h
        · exact Or.inl ⟨by rfl, fun w _ => by go_simp⟩
        try simp only [Act.put, List.setIfInBounds_toArray, List.set_cons_zero, List.set_cons_succ]
        refine wpAnyE_ready (rs := [10]) (by kernel_rfl) (by simp) ?_
        refine AllReadyE.late (o := ?_) ?_ rfl (fun K hK => ?_) AllReadyE.nil
        rotate_left 1
        · (first | (simp only [List.getElem?_toArray, List.getElem?_cons_succ, List.getElem?_cons_zero]; exact rfl) | exact rfl)
        refine step_storeV (p := ⟨f0 + 1, 1, none⟩) (x := .tmp 60) (y := .tmp 59) (u := .pointer (some ⟨f0 + 1, 1, none⟩)) (v := .slice AY (11 + 2) cY) rfl (by rfl) (by rfl) (fun ρ hρ hρ2 => ?_) ?_
        · exact stoF _ rfl ρ hρ hρ2 _ hm6 (by simp)
        have hP := putL_of (zz := [(⟨98, foN e0, [], []⟩, .slice none 0 0), (⟨117, 0, [], []⟩, .slice none 0 0)]) (m := 2) hQd.msg _ hown6 hgr6 hor6 rfl
        obtain ⟨AZ, cZ, _, hI9⟩ := MkI.step hQd hP (fun z hz => by
          simp only [List.mem_cons, List.mem_nil_iff, or_false] at hz
          rcases hz with rfl | rfl
          · exact ⟨inn_nil _ _ _, (by show 98 < 256; decide)⟩
          · exact ⟨inn_nil _ _ _, (by show 117 < 256; decide)⟩)
        refine hK.out _ _ ?_
        clear hK K hP hown6 hgr6 hor6 hm6 hx6 hSd hQd
        try simp only [Act.put, List.setIfInBounds_toArray, List.set_cons_zero, List.set_cons_succ]
        refine wpAnyE_done (by kernel_rfl) ?_ _
        generalize w6.setCell ⟨f0 + 1, 1, none⟩ (.slice AY (11 + 2) cY) = w9 at hI9 ⊢
        have hfl : Flds w9 AZ (kexMsg ⟨ck, kex, [m1, m2, m3, m4, m5, m6, m7, m8, m9], a, b, c, d, e0⟩) := hI9.flds
        have y0 := hI9.msg.m.cell 0
        have y1 := hI9.msg.m.cell 1
        simp at y0 y1
        have HEn := hide (show Calls Tryz.prog 44 #[.agg #[.int .i64 20, .slice AZ 13 cZ]] w9 (EncP 20 (kexMsg ⟨ck, kex, [m1, m2, m3, m4, m5, m6, m7, m8, m9], a, b, c, d, e0⟩) w9) from encode_anyM 20 hfl HSz.out (by show (13 : Nat) ≤ 1000; decide))
        have HB9 := hide hI9.bel
        clear hI9 hfl HSz
        obtain ⟨lM, hlM⟩ : ∃ lM, lM = kexMsg ⟨ck, kex, [m1, m2, m3, m4, m5, m6, m7, m8, m9], a, b, c, d, e0⟩ := ⟨_, rfl⟩
        rw [← hlM] at HEn
        have HlM := hide hlM
        clear hlM
        go_wp2_with fail
        refine HEn.out.mono ?_
        rintro e w10 ⟨hb10, hr10⟩
        have HB10 := hide (HB9.out.trans (hb10.mono HB9.out.size))
        clear HEn HB9 hb10 y0 y1
        rcases hr10 with ⟨s, hs, rfl⟩ | ⟨q, ps, k, hk2, rfl, hi⟩
        · have HF := hide (fat_nil ⟨#[107, 101, 120, 105, 110, 105, 116]⟩ w10)
          go_wp2_with fail
          refine HF.out.mono ?_
          rintro e w11 ⟨rfl, rfl⟩
          go_wp2_with fail
          go_ret2
          exact ⟨HB10.out, .inl ⟨Hm.out, s, by rw [← HlM.out]; exact hs, rfl⟩⟩
        · have HF := hide (fat_any ⟨#[107, 101, 120, 105, 110, 105, 116]⟩ q hi)
          have HE := hide (show kexErr kex (encS 20 lM) = some (kexB :: ps, k) from by unfold kexErr; rw [if_neg (by rw [Hm.out]; decide), hk2]; rfl)
          clear hi hk2
          unfold errV at HF ⊢
          go_wp2_with fail
          refine HF.out.mono ?_
          rintro e w11 ⟨q2, rfl, hi, hb11⟩
          go_wp2_with fail
          go_ret2
          exact ⟨HB10.out.trans (hb11.mono HB10.out.size), .inr ⟨q2, _, k, by rw [← HlM.out]; exact HE.out, rfl, hi⟩⟩
end Go.Proofs.YtjaipdenahlheaaGreatDoor
