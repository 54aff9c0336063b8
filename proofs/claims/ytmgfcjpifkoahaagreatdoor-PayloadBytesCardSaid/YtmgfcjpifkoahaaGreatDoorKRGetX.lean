/-
  The contract of the reference's get at the letters of names and extensions, and at whatever letter. Conditions: texts of at most 1,000,000 bytes.
-/
import Derived.Test.YtmgfcjpifkoahaaGreatDoorKRGet
import Derived.Test.YtmgfcjpifkoahaaGreatDoorKRSp
import Derived.Test.YtmgfcjpifkoahaaGreatDoorKOrdE
set_option linter.unusedVariables false
set_option linter.unusedSimpArgs false
namespace Go.Proofs.YtmgfcjpifkoahaaGreatDoor
open Go.RowKit Go.ChangeShapes Go.WideShapes Go.Sort
theorem bldR {x : Operand} {r : ByteArray} (o : Oper) (ho : o.op = .buildSlice 35 1 #[(0, x)]) (ρ : Operand → Value) (hρ : ρ x = .string r) (w : World) :
  (execOp ρ o).run Tryz.prog w = .ok (.value (.slice (some ⟨w.heap.size, 0, none⟩) 1 1)) (w.alloc (.cells #[.string r] 9)) := by
 obtain ⟨d, op, t, p, af, gd⟩ := o
 simp only at ho
 subst ho
 go_simp
theorem stoR {x y : Operand} {g n c f : Nat} {A : Option Addr} {T : TypeId} {cs : Array Value} (o : Oper) (ho : o.op = .store 35 x y) (ρ : Operand → Value) (hρ : ρ x = .pointer (some ⟨g, f, none⟩)) (hρ2 : ρ y = .slice A n c) (w : World) (hb : Blk w g T cs) (hc : f < cs.size) : (execOp ρ o).run Tryz.prog w = .ok .skip (w.setCell ⟨g, f, none⟩ (.slice A n c)) := by
 obtain ⟨d, op, t, p, af, gd⟩ := o
 simp only at ho
 subst ho
 have cc : w.cell? ⟨g, f, none⟩ = some cs[f] := (hb.cell f).trans (Array.getElem?_eq_getElem hc)
 have cf := hb.frozen f
 go_simp
theorem step_call1 {P : Program} {Q : Exit → Act → World → Prop} {ops : Array Oper} {o : Oper} {a : Act} {w : World} {u : Value} {f : FuncId} {K : Act → World → Prop} {F : Prop} (hgd : o.guard = none)
  (hr : (execOp a.eval o).run P w = .ok (.enter f #[u]) w) {post : Ending → World → Prop} (hc : Calls P f #[u] w post) (h : ∀ e w', post e w' → ∃ r, e = .returned r ∧ K (a.put o.dst r) w') : if Region.wanted o (yielded ops a.tmps) = true then Oper.wp P o a w K Q else F := by
 rw [if_pos (by simp [Region.wanted, hgd])]
 unfold Oper.wp
 rw [hr, Oper.upon_enter]
 refine hc.mono fun e w' hp => ?_
 obtain ⟨r, rfl, hk⟩ := h e w' hp
 exact hk
theorem callT {x : Operand} {u : Value} {ts : Array TypeId} (o : Oper) (ho : o.op = .call { callee := .value (.func 165), args := #[x], argTypes := ts }) (a : Act) (hx : a.eval x = u) (w : World) : (execOp a.eval o).run Tryz.prog w = .ok (.enter 165 #[u]) w := by
 obtain ⟨d, op, t, p, af, gd⟩ := o
 simp only at ho
 subst ho
 have h1 : a.eval (.func 165) = .func (.func 165) #[] #[] := rfl
 subst hx
 go_simp
theorem own_setR {W : World} {B g size n : Nat} {e t : TypeId} {v : Value} {xs : List Value} {cs : Array Value} (h : W.ownsRow B e size v n xs) (hb : Blk W g t cs) (hne : e ≠ t) (c : Nat) (u : Value) : (W.setCell ⟨g, c, none⟩ u).ownsRow B e size v n xs :=
 h.kept (only_setCell (only_refl W (some g)) (.inl rfl) u) (.inr (own_blk_ne h hb hne))
structure ExtI (w : World) (g : Nat) (R : Res (List (List UInt8))) (N j : Nat) (A : Option Addr) (c : Nat) (wr : World) : Prop where
 gb : w.grownBy wr (some g)
 xb : Blk wr (w.heap.size + 1) 67 #[.int .u8 101, .int .i64 0, .string ⟨#[]⟩, .slice A j c]
 rb : Blk wr w.heap.size 67 #[.int .u8 0, .int .i64 0, .string ⟨#[]⟩, .slice none 0 0]
 sz : w.heap.size + 2 ≤ wr.heap.size
 st : ∃ ls : List (List UInt8), ls.length = j ∧ wr.ownsRow (w.heap.size + 2) 9 1 (.slice A j c) j ((ls.map bs).map Value.string) ∧
  ((∃ r', Rd3 wr g r' 0 ∧ r'.length ≤ 1000000 ∧ R = (gTexts (N - j) r').map (ls ++ ·)) ∨ (∃ r', ∃ x : Nat, Rd3 wr g r' x ∧ x ≠ 0 ∧ R = .no x))
section
variable {w : World} {g : Nat} {r : List UInt8}
set_option maxHeartbeats 8000000 in
set_option maxRecDepth 100000 in
theorem rget_110 (h : Rd3 w g r 0) (hr : r.length ≤ 1000000) : Calls Tryz.prog 124 #[.pointer (some ⟨g, 0, none⟩), .int .u8 110] w (GetQ 110 w g r) := by
 have hlt := Blk.lt h
 obtain ⟨W0, hW0⟩ : ∃ W0, W0 = (w.alloc (.cells #[.int .u8 0, .int .i64 0, .string ⟨#[]⟩, .slice none 0 0] 67)).alloc (.cells #[.int .u8 110, .int .i64 0, .string ⟨#[]⟩, .slice none 0 0] 67) := ⟨_, rfl⟩
 have hb0 : Below w.heap.size w W0 := by rw [hW0]; exact bel_by
 have hz0 : W0.heap.size = w.heap.size + 2 := by rw [hW0]; simp
 have hR0 : Blk W0 w.heap.size 67 #[.int .u8 0, .int .i64 0, .string ⟨#[]⟩, .slice none 0 0] := by rw [hW0]; exact (Blk.new w _ _).alloc _
 have hX0 : Blk W0 (w.heap.size + 1) 67 #[.int .u8 110, .int .i64 0, .string ⟨#[]⟩, .slice none 0 0] := by rw [hW0]; simpa using Blk.new (w.alloc (.cells #[.int .u8 0, .int .i64 0, .string ⟨#[]⟩, .slice none 0 0] 67)) 67 #[.int .u8 110, .int .i64 0, .string ⟨#[]⟩, .slice none 0 0]
 have hr0 : Rd3 W0 g r 0 := h.below hb0
 have HC := hide (r3text_any hr0 hr)
 have HG := hide (getF_110 (k := 110) r rfl)
 have ng0 : g ≠ w.heap.size := by omega
 have ng1 : g ≠ w.heap.size + 1 := by omega
 have HS := hide (fun (W : World) (a : List UInt8) (ha : a.length ≤ 1000000) => rsplit_any (w := W) (bs a) (by rw [bs_size]; exact ha))
 go_enter Tryz.func124, Tryz.ntmps124
 go_upto_region 2 with fail
 rw [← hW0]
 clear hW0
 go_wp2_with fail
 refine HC.out.mono ?_
 rintro e w1 (⟨a, r', hg, rfl, hr1, ho1⟩ | ⟨x, r', hg, hx0, rfl, hr1, ho1⟩)
 ·have hX1' := hX0.grown ho1 (fun e => ng1 (Option.some.inj e).symm)
  have hR1' := hR0.grown ho1 (fun e => ng0 (Option.some.inj e).symm)
  have hG1' : w.grownBy w1 (some g) := only_trans (only_of_below hb0 _) ho1
  have hz1 : w.heap.size + 2 ≤ w1.heap.size := by have := ho1.size; omega
  have hr1' := hr1
  clear hr1
  have hal : a.length ≤ 1000000 := by
   have := congrArg List.length (gText_get hg).1
   simp only [textL, List.length_append, q4_len] at this
   omega
  have HSS := hide (HS.out w1 a hal)
  rw [bs_data] at HSS
  have Hg := hide (gNames_of hg)
  clear hg ho1 HS
  go_wp2_with fail
  refine HSS.out.mono ?_
  rintro e w2 ⟨v, rfl, hN, hb2⟩
  obtain ⟨A, c, rfl, hc, hSl⟩ := hN
  have hX1 := hX1'.below hb2 hX1'.lt
  have hR1 := hR1'.below hb2 hR1'.lt
  have hr1 := hr1'.below hb2
  have hG1 : w.grownBy w2 (some g) := only_trans hG1' (only_of_below hb2 _)
  have c1 : w2.cell? ⟨g, 1, none⟩ = some (.int .i64 0) := Blk.cell hr1 1
  have hN1 : NewC w1.heap.size w2 (.slice A (splitN a).2.length c) (splitN a).2 := ⟨A, c, rfl, hc, hSl⟩
  clear hX1' hR1' hr1' hG1' hSl HSS hb2 hc
  by_cases hk : (splitN a).1 = 0
  ·rw [hk]
   have HGO := hide (show getF 110 r = .ok ⟨110, 0, [], (splitN a).2⟩ r' from by rw [HG.out, Hg.out, if_pos hk]; rfl)
   generalize (splitN a).2 = ls at hN1 HGO ⊢
   clear hk Hg HG
   have k1 := hX1.cell 3
   have f1 := hX1.frozen 3
   simp only [List.getElem?_toArray, List.getElem?_cons_zero, List.getElem?_cons_succ] at k1
   have hX2 := hX1.set_ 3 (.slice A ls.length c)
   have hR2 := hR1.far (p := ⟨w.heap.size + 1, 3, none⟩) (by simp) (.slice A ls.length c)
   have hr2 : Rd3 (w2.setCell ⟨w.heap.size + 1, 3, none⟩ (.slice A ls.length c)) g r' 0 := Blk.far hr1 (p := ⟨w.heap.size + 1, 3, none⟩) ng1 (.slice A ls.length c)
   have hG2 : w.grownBy (w2.setCell ⟨w.heap.size + 1, 3, none⟩ (.slice A ls.length c)) (some g) := only_setCell hG1 (.inr (by simp)) _
   have hN2 := hN1.set_ (p := ⟨w.heap.size + 1, 3, none⟩) (by show w.heap.size + 1 < _; omega) (.slice A ls.length c)
   go_upto_region 27 with fail
   generalize w2.setCell ⟨w.heap.size + 1, 3, none⟩ (.slice A ls.length c) = w5 at hX2 hR2 hr2 hG2 hN2 ⊢
   clear k1 f1 hX1 hR1 hr1 hG1 hN1 c1
   have x0 := hX2.cell 0
   have x1 := hX2.cell 1
   have x2 := hX2.cell 2
   have x3 := hX2.cell 3
   have r0 := hR2.cell 0
   have r1 := hR2.cell 1
   have r2 := hR2.cell 2
   have r3 := hR2.cell 3
   have t0 := hR2.frozen 0
   have t1 := hR2.frozen 1
   have t2 := hR2.frozen 2
   have t3 := hR2.frozen 3
   simp at x0 x1 x2 x3 r0 r1 r2 r3
   have e1 : w5.cell? ⟨g, 1, none⟩ = some (.int .i64 0) := Blk.cell hr2 1
   have hF := fin4 hR2 (.int .u8 110) (.int .i64 0) (.string ⟨#[]⟩) (.slice A ls.length c)
   have hGF := only_fin4 hG2 (Nat.le_refl w.heap.size) (.int .u8 110) (.int .i64 0) (.string ⟨#[]⟩) (.slice A ls.length c)
   have hrF := rd3_fin4 hr2 ng0 (.int .u8 110) (.int .i64 0) (.string ⟨#[]⟩) (.slice A ls.length c)
   have hNF := (((hN2.set_ (p := ⟨w.heap.size, 0, none⟩) (by show w.heap.size < _; omega) (.int .u8 110)).set_ (p := ⟨w.heap.size, 1, none⟩) (by show w.heap.size < _; omega) (.int .i64 0)).set_ (p := ⟨w.heap.size, 2, none⟩) (by show w.heap.size < _; omega) (.string ⟨#[]⟩)).set_ (p := ⟨w.heap.size, 3, none⟩) (by show w.heap.size < _; omega) (.slice A ls.length c)
   clear hX2 hR2 hr2 hG2 hN2 HC hX0 hR0 hb0 hz0 hr0
   go_region
   go_wp2_with fail
   generalize (((w5.setCell ⟨w.heap.size, 0, none⟩ (.int .u8 110)).setCell ⟨w.heap.size, 1, none⟩ (.int .i64 0)).setCell ⟨w.heap.size, 2, none⟩ (.string ⟨#[]⟩)).setCell ⟨w.heap.size, 3, none⟩ (.slice A ls.length c) = wF at hF hGF hrF hNF ⊢
   have q0 := hF.cell 0
   have q1 := hF.cell 1
   have q2 := hF.cell 2
   have q3 := hF.cell 3
   simp at q0 q1 q2 q3
   have HF := hide (show GetQ 110 w g r (.returned (.tuple #[.agg #[.int .u8 110, .int .i64 0, .string ⟨#[]⟩, .slice A ls.length c], .int .i64 0])) wF.drew from .inl ⟨⟨110, 0, [], ls⟩, .slice A ls.length c, r', HGO.out, rfl, hNF.mono (by omega), Blk.drew hrF, only_drew hGF⟩)
   clear x0 x1 x2 x3 r0 r1 r2 r3 t0 t1 t2 t3 hF hGF hrF
   exact bodyPost_ret (v := .tuple #[.agg #[.int .u8 110, .int .i64 0, .string ⟨#[]⟩, .slice A ls.length c], .int .i64 0]) (by simp [results, Tryz.results124, go_sem, q0, q1, q2, q3]) rfl HF.out
  ·have HGO := hide (show getF 110 r = .no (splitN a).1 from by rw [HG.out, Hg.out, if_neg hk]; rfl)
   have Hk := hide hk
   have hk1 : (((splitN a).1 : Int) == 0) = false := by rw [beq_eq_false_iff_ne]; omega
   have hk2 : (((splitN a).1 : Int) != 0) = true := by simp [bne, hk1]
   generalize (splitN a).2 = ls at hN1 ⊢
   generalize (splitN a).1 = ke at HGO Hk hk1 hk2 ⊢
   clear hk Hg HG hN1
   have k1 := hX1.cell 3
   have f1 := hX1.frozen 3
   simp only [List.getElem?_toArray, List.getElem?_cons_zero, List.getElem?_cons_succ] at k1
   have hX2 := hX1.set_ 3 (.slice A ls.length c)
   have hR2 := hR1.far (p := ⟨w.heap.size + 1, 3, none⟩) (by simp) (.slice A ls.length c)
   have hr2 : Rd3 (w2.setCell ⟨w.heap.size + 1, 3, none⟩ (.slice A ls.length c)) g r' 0 := Blk.far hr1 (p := ⟨w.heap.size + 1, 3, none⟩) ng1 (.slice A ls.length c)
   have hG2 : w.grownBy (w2.setCell ⟨w.heap.size + 1, 3, none⟩ (.slice A ls.length c)) (some g) := only_setCell hG1 (.inr (by simp)) _
   go_upto_region 16 with fail
   generalize w2.setCell ⟨w.heap.size + 1, 3, none⟩ (.slice A ls.length c) = w5 at hX2 hR2 hr2 hG2 ⊢
   clear k1 f1 hX1 hR1 hr1 hG1 c1
   have x0 := hX2.cell 0
   have x1 := hX2.cell 1
   have x2 := hX2.cell 2
   have x3 := hX2.cell 3
   have r0 := hR2.cell 0
   have r1 := hR2.cell 1
   have r2 := hR2.cell 2
   have r3 := hR2.cell 3
   have t0 := hR2.frozen 0
   have t1 := hR2.frozen 1
   have t2 := hR2.frozen 2
   have t3 := hR2.frozen 3
   simp at x0 x1 x2 x3 r0 r1 r2 r3
   have hF := fin4 hR2 (.int .u8 110) (.int .i64 0) (.string ⟨#[]⟩) (.slice A ls.length c)
   have hGF := only_fin4 hG2 (Nat.le_refl w.heap.size) (.int .u8 110) (.int .i64 0) (.string ⟨#[]⟩) (.slice A ls.length c)
   have hrF := rd3_fin4 hr2 ng0 (.int .u8 110) (.int .i64 0) (.string ⟨#[]⟩) (.slice A ls.length c)
   clear hX2 hR2 hr2 hG2 HC hX0 hR0 hb0 hz0 hr0
   go_wp2_with fail
   generalize (((w5.setCell ⟨w.heap.size, 0, none⟩ (.int .u8 110)).setCell ⟨w.heap.size, 1, none⟩ (.int .i64 0)).setCell ⟨w.heap.size, 2, none⟩ (.string ⟨#[]⟩)).setCell ⟨w.heap.size, 3, none⟩ (.slice A ls.length c) = wF at hF hGF hrF ⊢
   have q0 := hF.cell 0
   have q1 := hF.cell 1
   have q2 := hF.cell 2
   have q3 := hF.cell 3
   simp at q0 q1 q2 q3
   have HF := hide (show GetQ 110 w g r (.returned (.tuple #[.agg #[.int .u8 110, .int .i64 0, .string ⟨#[]⟩, .slice A ls.length c], .int .i64 ke])) wF from .inr ⟨ke, _, _, _, _, _, _, HGO.out, Hk.out, rfl, hGF⟩)
   clear x0 x1 x2 x3 r0 r1 r2 r3 t0 t1 t2 t3 hF hGF hrF
   exact bodyPost_ret (v := .tuple #[.agg #[.int .u8 110, .int .i64 0, .string ⟨#[]⟩, .slice A ls.length c], .int .i64 ke]) (by simp [results, Tryz.results124, go_sem, q0, q1, q2, q3]) rfl HF.out
 ·have hX1' := hX0.grown ho1 (fun e => ng1 (Option.some.inj e).symm)
  have hR1' := hR0.grown ho1 (fun e => ng0 (Option.some.inj e).symm)
  have hG1' : w.grownBy w1 (some g) := only_trans (only_of_below hb0 _) ho1
  have hz1 : w.heap.size + 2 ≤ w1.heap.size := by have := ho1.size; omega
  have hr1' := hr1
  clear hr1
  have HGO := hide (show getF 110 r = .no x from by rw [HG.out, gNames_no hg]; rfl)
  have HSS := hide (HS.out w1 [] (by simp))
  rw [bs_data, show bs [] = ⟨#[]⟩ from rfl, show splitN [] = (0, []) from rfl] at HSS
  have hx1 : ((x : Int) == 0) = false := by rw [beq_eq_false_iff_ne]; omega
  have Hx0 := hide hx0
  clear hg ho1 HS HG hx0
  go_wp2_with fail
  refine HSS.out.mono ?_
  rintro e w2 ⟨v, rfl, hN, hb2⟩
  obtain ⟨A, c, rfl, hc, hSl⟩ := hN
  have hX1 := hX1'.below hb2 hX1'.lt
  have hR1 := hR1'.below hb2 hR1'.lt
  have hr1 := hr1'.below hb2
  have hG1 : w.grownBy w2 (some g) := only_trans hG1' (only_of_below hb2 _)
  have c1 : w2.cell? ⟨g, 1, none⟩ = some (.int .i64 (x : Nat)) := Blk.cell hr1 1
  rw [show ([] : List (List UInt8)).length = 0 from rfl]
  clear hX1' hR1' hr1' hG1' hSl HSS hb2 hc
  have k1 := hX1.cell 3
  have f1 := hX1.frozen 3
  simp only [List.getElem?_toArray, List.getElem?_cons_zero, List.getElem?_cons_succ] at k1
  have hX2 := hX1.set_ 3 (.slice A 0 c)
  have hR2 := hR1.far (p := ⟨w.heap.size + 1, 3, none⟩) (by simp) (.slice A 0 c)
  have hr2 : Rd3 (w2.setCell ⟨w.heap.size + 1, 3, none⟩ (.slice A 0 c)) g r' x := Blk.far hr1 (p := ⟨w.heap.size + 1, 3, none⟩) ng1 (.slice A 0 c)
  have hG2 : w.grownBy (w2.setCell ⟨w.heap.size + 1, 3, none⟩ (.slice A 0 c)) (some g) := only_setCell hG1 (.inr (by simp)) _
  go_upto_region 27 with fail
  generalize w2.setCell ⟨w.heap.size + 1, 3, none⟩ (.slice A 0 c) = w5 at hX2 hR2 hr2 hG2 ⊢
  clear k1 f1 hX1 hR1 hr1 hG1 c1
  have x0 := hX2.cell 0
  have x1 := hX2.cell 1
  have x2 := hX2.cell 2
  have x3 := hX2.cell 3
  have r0 := hR2.cell 0
  have r1 := hR2.cell 1
  have r2 := hR2.cell 2
  have r3 := hR2.cell 3
  have t0 := hR2.frozen 0
  have t1 := hR2.frozen 1
  have t2 := hR2.frozen 2
  have t3 := hR2.frozen 3
  simp at x0 x1 x2 x3 r0 r1 r2 r3
  have e1 : w5.cell? ⟨g, 1, none⟩ = some (.int .i64 x) := Blk.cell hr2 1
  have hF := fin4 hR2 (.int .u8 110) (.int .i64 0) (.string ⟨#[]⟩) (.slice A 0 c)
  have hGF := only_fin4 hG2 (Nat.le_refl w.heap.size) (.int .u8 110) (.int .i64 0) (.string ⟨#[]⟩) (.slice A 0 c)
  have hrF := rd3_fin4 hr2 ng0 (.int .u8 110) (.int .i64 0) (.string ⟨#[]⟩) (.slice A 0 c)
  clear hX2 hR2 hr2 hG2 HC hX0 hR0 hb0 hz0 hr0
  go_region
  go_wp2_with fail
  generalize (((w5.setCell ⟨w.heap.size, 0, none⟩ (.int .u8 110)).setCell ⟨w.heap.size, 1, none⟩ (.int .i64 0)).setCell ⟨w.heap.size, 2, none⟩ (.string ⟨#[]⟩)).setCell ⟨w.heap.size, 3, none⟩ (.slice A 0 c) = wF at hF hGF hrF ⊢
  have q0 := hF.cell 0
  have q1 := hF.cell 1
  have q2 := hF.cell 2
  have q3 := hF.cell 3
  simp at q0 q1 q2 q3
  have HF := hide (show GetQ 110 w g r (.returned (.tuple #[.agg #[.int .u8 110, .int .i64 0, .string ⟨#[]⟩, .slice A 0 c], .int .i64 x])) wF.drew from .inr ⟨x, _, _, _, _, _, _, HGO.out, Hx0.out, rfl, only_drew hGF⟩)
  clear x0 x1 x2 x3 r0 r1 r2 r3 t0 t1 t2 t3 hF hGF hrF
  exact bodyPost_ret (v := .tuple #[.agg #[.int .u8 110, .int .i64 0, .string ⟨#[]⟩, .slice A 0 c], .int .i64 x]) (by simp [results, Tryz.results124, go_sem, q0, q1, q2, q3]) rfl HF.out
set_option maxHeartbeats 8000000 in
set_option maxRecDepth 100000 in
theorem rget_101 (h : Rd3 w g r 0) (hr : r.length ≤ 1000000) : Calls Tryz.prog 124 #[.pointer (some ⟨g, 0, none⟩), .int .u8 101] w (GetQ 101 w g r) := by
 have hlt := Blk.lt h
 obtain ⟨W0, hW0⟩ : ∃ W0, W0 = (w.alloc (.cells #[.int .u8 0, .int .i64 0, .string ⟨#[]⟩, .slice none 0 0] 67)).alloc (.cells #[.int .u8 101, .int .i64 0, .string ⟨#[]⟩, .slice none 0 0] 67) := ⟨_, rfl⟩
 have hb0 : Below w.heap.size w W0 := by rw [hW0]; exact bel_by
 have hz0 : W0.heap.size = w.heap.size + 2 := by rw [hW0]; simp
 have hR0 : Blk W0 w.heap.size 67 #[.int .u8 0, .int .i64 0, .string ⟨#[]⟩, .slice none 0 0] := by rw [hW0]; exact (Blk.new w _ _).alloc _
 have hX0 : Blk W0 (w.heap.size + 1) 67 #[.int .u8 101, .int .i64 0, .string ⟨#[]⟩, .slice none 0 0] := by rw [hW0]; simpa using Blk.new (w.alloc (.cells #[.int .u8 0, .int .i64 0, .string ⟨#[]⟩, .slice none 0 0] 67)) 67 #[.int .u8 101, .int .i64 0, .string ⟨#[]⟩, .slice none 0 0]
 have hr0 : Rd3 W0 g r 0 := h.below hb0
 have HC := hide (r3u32_any hr0 hr)
 have HG := hide (getF_101 (k := 101) r rfl)
 have ng0 : g ≠ w.heap.size := by omega
 have ng1 : g ≠ w.heap.size + 1 := by omega
 have HTx := hide (fun (W : World) (r' : List UInt8) (hW : Rd3 W g r' 0) (hr' : r'.length ≤ 1000000) => r3text_any hW hr')
 go_enter Tryz.func124, Tryz.ntmps124
 go_upto_region 2 with fail
 rw [← hW0]
 clear hW0
 go_wp2_with fail
 refine HC.out.mono ?_
 rintro e w1 (⟨n, r', hg, rfl, hr1, ho1⟩ | ⟨x, r', hg, hx0, rfl, hr1, ho1⟩)
 ·have hX1 := hX0.grown ho1 (fun e => ng1 (Option.some.inj e).symm)
  have hR1 := hR0.grown ho1 (fun e => ng0 (Option.some.inj e).symm)
  have hG1 : w.grownBy w1 (some g) := only_trans (only_of_below hb0 _) ho1
  have hnl := (gU32_get hg).2
  have hw : IntKind.i64.wrap ((n : Nat) : Int) = n := wrap_small _ (by omega) (by omega)
  have c1 : w1.cell? ⟨g, 1, none⟩ = some (.int .i64 0) := Blk.cell hr1 1
  have hrl : r'.length ≤ 1000000 := by
   have := congrArg List.length (gU32_get hg).1
   simp only [List.length_append, q4_len] at this
   omega
  have hz1 : w.heap.size + 2 ≤ w1.heap.size := by have := ho1.size; omega
  by_cases h8 : 8 < n
  ·have h8' : (8 : Int) < n := by omega
   have HGO := hide (show getF 101 r = .no 2 from by rw [HG.out, gExts_of hg, if_pos h8]; rfl)
   clear hg ho1 HG HTx hnl
   go_upto_region 22 with fail
   have hX2 := hX1
   have hR2 := hR1
   have hr2 := hr1
   have hG2 := hG1
   clear hX1 hR1 hr1 hG1
   generalize w1 = w5 at hX2 hR2 hr2 hG2 ⊢
   have x0 := hX2.cell 0
   have x1 := hX2.cell 1
   have x2 := hX2.cell 2
   have x3 := hX2.cell 3
   have r0 := hR2.cell 0
   have r1 := hR2.cell 1
   have r2 := hR2.cell 2
   have r3 := hR2.cell 3
   have t0 := hR2.frozen 0
   have t1 := hR2.frozen 1
   have t2 := hR2.frozen 2
   have t3 := hR2.frozen 3
   simp at x0 x1 x2 x3 r0 r1 r2 r3
   have hF := fin4 hR2 (.int .u8 101) (.int .i64 0) (.string ⟨#[]⟩) (.slice none 0 0)
   have hGF := only_fin4 hG2 (Nat.le_refl w.heap.size) (.int .u8 101) (.int .i64 0) (.string ⟨#[]⟩) (.slice none 0 0)
   have hrF := rd3_fin4 hr2 ng0 (.int .u8 101) (.int .i64 0) (.string ⟨#[]⟩) (.slice none 0 0)
   clear hX2 hR2 hr2 hG2 HC hX0 hR0 hb0 hz0 hr0
   go_wp2_with fail
   generalize (((w5.setCell ⟨w.heap.size, 0, none⟩ (.int .u8 101)).setCell ⟨w.heap.size, 1, none⟩ (.int .i64 0)).setCell ⟨w.heap.size, 2, none⟩ (.string ⟨#[]⟩)).setCell ⟨w.heap.size, 3, none⟩ (.slice none 0 0) = wF at hF hGF hrF ⊢
   have q0 := hF.cell 0
   have q1 := hF.cell 1
   have q2 := hF.cell 2
   have q3 := hF.cell 3
   simp at q0 q1 q2 q3
   have HF := hide (show GetQ 101 w g r (.returned (.tuple #[.agg #[.int .u8 101, .int .i64 0, .string ⟨#[]⟩, .slice none 0 0], .int .i64 2])) wF from .inr ⟨2, _, _, _, _, _, _, HGO.out, by decide, rfl, hGF⟩)
   clear x0 x1 x2 x3 r0 r1 r2 r3 t0 t1 t2 t3 hF hGF hrF
   exact bodyPost_ret (v := .tuple #[.agg #[.int .u8 101, .int .i64 0, .string ⟨#[]⟩, .slice none 0 0], .int .i64 2]) (by simp [results, Tryz.results124, go_sem, q0, q1, q2, q3]) rfl HF.out
  ·have h8' : ¬ (8 : Int) < n := by omega
   obtain ⟨N, hN⟩ : ∃ N, N = 2 * n := ⟨_, rfl⟩
   have h2n : IntKind.i64.wrap (2 * (n : Int)) = N := by rw [hN, wrap_small _ (by omega) (by omega)]; omega
   have h2w : 2 * (n : Int) = (N : Int) := by omega
   have hN16 : N ≤ 16 := by omega
   have HG1 := hide (show getF 101 r = (gTexts N r').map (fun l => ⟨101, 0, [], l⟩) from by rw [HG.out, gExts_of hg, if_neg h8, hN])
   have HI0 := hide (show ExtI w g (gTexts N r') N 0 none 0 w1 from ⟨hG1, hX1, hR1, hz1, [], rfl, World.ownsRow_nil _ _ _ _, .inl ⟨r', hr1, hrl, by rw [Nat.sub_zero]; cases gTexts N r' <;> simp [Res.map]⟩⟩)
   generalize gTexts N r' = R at HG1 HI0
   obtain ⟨iI, hiI, hI0, hI1, hI2⟩ := info_partsN infoStN
   have HII := hide (And.intro hiI (And.intro hI0 (And.intro hI1 hI2)))
   clear hg ho1 HG hX1 hR1 hG1 hX0 hR0 hb0 hz0 hr0 hnl h8 hN hr1 HC hrl hiI hI0 hI1 hI2
   go_wp2_with fail
   clear c1 hw h8'
   go_loopw [11] (fun vi wr => ∃ (j : Nat) (A : Option Addr) (c : Nat), vi = .int .i64 j ∧ j ≤ N ∧ Hid (ExtI w g R N j A c wr)) (fun vi _ => N - (intOf vi).toNat)
   case atStart => exact ⟨0, none, 0, rfl, Nat.zero_le _, HI0⟩
   case round =>
    obtain ⟨j, A, c, rfl, hj, HI⟩ := hrel
    obtain ⟨ls, hls, hown, hst⟩ := HI.out.st
    have hX1 := HI.out.xb
    have hR1 := HI.out.rb
    have hG1 := HI.out.gb
    have hsz := HI.out.sz
    have h2n := h2n
    rcases hst with ⟨rq, hr1, hrl1, hRe⟩ | ⟨rq, x, hr1, hx0, hRe⟩
    ·by_cases hjN : j < N
     ·have hjj : (j : Int) < N := by omega
      have c1 : wr.cell? ⟨g, 1, none⟩ = some (.int .i64 0) := Blk.cell hr1 1
      rw [show N - j = (N - (j + 1)) + 1 by omega] at hRe
      have HRe := hide hRe
      clear hRe HI HG1
      go_upto_region 26 with fail
      refine wp_region_E (fun W => Blk W (w.heap.size + 1) 67 #[.int .u8 101, .int .i64 0, .string ⟨#[]⟩, .slice A j c]) (fun i => [3, 4].contains i) (by kernel_rfl) ?_
      obtain ⟨Wd, hWd⟩ : ∃ Wd, Wd = wr.drew := ⟨_, rfl⟩
      have hXd : Blk Wd (w.heap.size + 1) 67 #[.int .u8 101, .int .i64 0, .string ⟨#[]⟩, .slice A j c] := by rw [hWd]; exact hX1
      have hRz : Blk Wd w.heap.size 67 #[.int .u8 0, .int .i64 0, .string ⟨#[]⟩, .slice none 0 0] := by rw [hWd]; exact hR1
      have hrd : Rd3 Wd g rq 0 := by rw [hWd]; exact Blk.drew hr1
      have hn : Wd.ownsRow (w.heap.size + 2) 9 1 (.slice A j c) j ((ls.map bs).map Value.string) := by rw [hWd]; exact hown
      have hGd : w.grownBy Wd (some g) := by rw [hWd]; exact only_drew hG1
      have hzd : w.heap.size + 2 ≤ Wd.heap.size := by rw [hWd]; exact hsz
      rw [← hWd]
      clear hWd hX1 hR1 hr1 hown hG1 hsz c1
      refine wpAnyE_takeY (i := 0) (oi := ?_) (v := .pointer (some ⟨w.heap.size + 1, 3, none⟩)) ?_ ?_ ?_ ?_ ?_ ?_ ?_ ?_
      rotate_left 1
      ·(first | (simp only [List.getElem?_toArray, List.getElem?_cons_succ, List.getElem?_cons_zero]; exact rfl) | exact rfl)
      ·kernel_rfl
      ·kernel_rfl
      ·kernel_rfl
      ·rfl
      ·exact fun _ _ _ h => h
      ·exact Or.inl ⟨by rfl, fun w _ => by go_simp⟩
      try simp only [Act.put, List.setIfInBounds_toArray, List.set_cons_zero, List.set_cons_succ]
      refine wpAnyE_takeY (i := 2) (oi := ?_) (v := .pointer (some ⟨g, 0, none⟩)) ?_ ?_ ?_ ?_ ?_ ?_ ?_ ?_
      rotate_left 1
      ·(first | (simp only [List.getElem?_toArray, List.getElem?_cons_succ, List.getElem?_cons_zero]; exact rfl) | exact rfl)
      ·kernel_rfl
      ·kernel_rfl
      ·kernel_rfl
      ·rfl
      ·exact fun _ _ _ h => h
      ·exact Or.inl ⟨by rfl, fun w _ => by go_simp⟩
      try simp only [Act.put, List.setIfInBounds_toArray, List.set_cons_zero, List.set_cons_succ]
      refine wpAnyE_take (i := 1) (oi := ?_) (v := .slice A j c) ?_ ?_ ?_ ?_ ?_ ?_ ?_ hXd ?_
      rotate_left 1
      ·(first | (simp only [List.getElem?_toArray, List.getElem?_cons_succ, List.getElem?_cons_zero]; exact rfl) | exact rfl)
      ·kernel_rfl
      ·kernel_rfl
      ·kernel_rfl
      ·kernel_rfl
      ·exact fun _ _ _ h => h
      ·refine Or.inl ⟨by rfl, fun w hSw => ?_⟩
       have k3 := hSw.cell 3
       simp only [List.getElem?_toArray, List.getElem?_cons_zero, List.getElem?_cons_succ] at k3
       clear hSw
       go_simp
      try simp only [Act.put, List.setIfInBounds_toArray, List.set_cons_zero, List.set_cons_succ]
      refine wpAnyE_ready (rs := [3]) (by kernel_rfl) (by simp) ?_
      refine AllReadyE.cons (o := ?_) ?_ (fun K hK => ?_) AllReadyE.nil
      rotate_left 1
      ·(first | (simp only [List.getElem?_toArray, List.getElem?_cons_succ, List.getElem?_cons_zero]; exact rfl) | exact rfl)
      refine step_call1 (u := .pointer (some ⟨g, 0, none⟩)) (f := 165) rfl (callT (x := .tmp 91) _ rfl _ (by rfl) _) (HTx.out _ _ hrd hrl1) ?_
      rintro e w2 (⟨a, r2, hg2, rfl, hr2, ho2⟩ | ⟨x, r2, hg2, hx2, rfl, hr2, ho2⟩)
      ·have hal : r2.length ≤ 1000000 := by
        have := congrArg List.length (gText_get hg2).1
        simp only [textL, List.length_append, q4_len] at this
        omega
       refine ⟨_, rfl, ?_⟩
       have hXd := hXd.grown ho2 (fun e => ng1 (Option.some.inj e).symm)
       have hRz := hRz.grown ho2 (fun e => ng0 (Option.some.inj e).symm)
       have hn := hn.kept ho2 (.inr (own_blk_ne hn hrd (by decide)))
       have hGd := only_trans hGd ho2
       have hzd : w.heap.size + 2 ≤ w2.heap.size := Nat.le_trans hzd ho2.size
       have hrd := hr2
       clear ho2 hr2
       refine hK.out _ _ hXd (fun _ => ?_)
       clear hK K
       try simp only [Act.put, List.setIfInBounds_toArray, List.set_cons_zero, List.set_cons_succ]
       refine wpAnyE_ready (rs := [4]) (by kernel_rfl) (by simp) ?_
       refine AllReadyE.cons (o := ?_) ?_ (fun K hK => ?_) AllReadyE.nil
       rotate_left 1
       ·(first | (simp only [List.getElem?_toArray, List.getElem?_cons_succ, List.getElem?_cons_zero]; exact rfl) | exact rfl)
       refine step_buildV (.cells #[.string (bs a)] 9) (x := .tmp 92) (u := .string (bs a)) rfl (by rfl) (fun ρ hρ => ?_) ?_
       ·exact bldR _ rfl ρ hρ _
       have hn := hn.alloc (.cells #[.string (bs a)] 9)
       have hXd := hXd.alloc (.cells #[.string (bs a)] 9)
       have hRz := hRz.alloc (.cells #[.string (bs a)] 9)
       have hrd := Blk.alloc hrd (.cells #[.string (bs a)] 9)
       have hGd := only_alloc hGd (.cells #[.string (bs a)] 9)
       have hnb := Blk.new w2 9 #[.string (bs a)]
       have hz2 : w.heap.size + 2 ≤ (w2.alloc (.cells #[.string (bs a)] 9)).heap.size := by simp only [World.size_alloc]; omega
       refine hK.out _ _ hXd (fun _ => ?_)
       clear hK K
       try simp only [Act.put, List.setIfInBounds_toArray, List.set_cons_zero, List.set_cons_succ]
       refine wpAnyE_ready (rs := [5]) (by kernel_rfl) (by simp) ?_
       refine AllReadyE.late (o := ?_) ?_ rfl (fun K hK => ?_) AllReadyE.nil
       rotate_left 1
       ·(first | (simp only [List.getElem?_toArray, List.getElem?_cons_succ, List.getElem?_cons_zero]; exact rfl) | exact rfl)
       obtain ⟨hiI, hI0, hI1, hI2⟩ := HII.out
       refine step_append_any _ rfl (.tmp 90) (.tmp 93) _ (by rfl) (w.heap.size + 2) 9 iI (.string ⟨#[]⟩) 1 16 Tryz.underlying35 hiI hI0 hI1 hI2 (by rfl) (by decide) (.slice A j c) j _ (by rfl) hn _ _ 1 1 [.string (bs a)] (by rfl) (reads_blkN hnb (by rfl)) (by simp [Value.oneCell']) (by unfold maxLen; omega) (by omega) hz2 ?_
       intro v6 w6 hown6 hgr6 hor6
       obtain ⟨A6, c6, rfl⟩ := own_slN hown6
       have hrow : ∀ k, (Value.slice A j c).ownBlock = some k → w.heap.size + 2 ≤ k := fun k e => (hn.lt k e).1
       have hXd := hXd.grown hgr6 (fun e => by have := hrow _ e.symm; omega)
       have hRz := hRz.grown hgr6 (fun e => by have := hrow _ e.symm; omega)
       have hrd := Blk.grown hrd hgr6 (fun e => by have := hrow _ e.symm; omega)
       have hGd := only_row hGd hgr6 (fun k e => by have := hrow _ e; omega)
       have hz6 : w.heap.size + 2 ≤ w6.heap.size := Nat.le_trans hz2 hgr6.size
       refine hK.out _ _ ?_
       clear hK K hiI hI0 hI1 hI2 hn hnb hgr6 hor6
       try simp only [Act.put, List.setIfInBounds_toArray, List.set_cons_zero, List.set_cons_succ]
       refine wpAnyE_takeY (i := 6) (oi := ?_) (v := .pointer (some ⟨w.heap.size + 1, 3, none⟩)) ?_ ?_ ?_ ?_ ?_ ?_ ?_ ?_
       rotate_left 1
       ·(first | (simp only [List.getElem?_toArray, List.getElem?_cons_succ, List.getElem?_cons_zero]; exact rfl) | exact rfl)
       ·kernel_rfl
       ·kernel_rfl
       ·kernel_rfl
       ·rfl
       ·exact fun _ _ _ h => h
       ·exact Or.inl ⟨by rfl, fun w _ => by go_simp⟩
       try simp only [Act.put, List.setIfInBounds_toArray, List.set_cons_zero, List.set_cons_succ]
       refine wpAnyE_ready (rs := [7]) (by kernel_rfl) (by simp) ?_
       refine AllReadyE.late (o := ?_) ?_ rfl (fun K hK => ?_) AllReadyE.nil
       rotate_left 1
       ·(first | (simp only [List.getElem?_toArray, List.getElem?_cons_succ, List.getElem?_cons_zero]; exact rfl) | exact rfl)
       refine step_storeV (p := ⟨w.heap.size + 1, 3, none⟩) (x := .tmp 95) (y := .tmp 94) (u := .pointer (some ⟨w.heap.size + 1, 3, none⟩)) (v := .slice A6 (j + 1) c6) rfl (by rfl) (by rfl) (fun ρ hρ hρ2 => ?_) ?_
       ·exact stoR _ rfl ρ hρ hρ2 _ hXd (by simp)
       refine hK.out _ _ ?_
       clear hK K
       have hown7 := own_setR hown6 hXd (by decide) 3 (.slice A6 (j + 1) c6)
       have hX7 := hXd.set_ 3 (.slice A6 (j + 1) c6)
       have hR7 := hRz.far (p := ⟨w.heap.size + 1, 3, none⟩) (by simp) (.slice A6 (j + 1) c6)
       have hr7 : Rd3 (w6.setCell ⟨w.heap.size + 1, 3, none⟩ (.slice A6 (j + 1) c6)) g _ _ := Blk.far hrd (p := ⟨w.heap.size + 1, 3, none⟩) ng1 (.slice A6 (j + 1) c6)
       have hG7 : w.grownBy (w6.setCell ⟨w.heap.size + 1, 3, none⟩ (.slice A6 (j + 1) c6)) (some g) := only_setCell hGd (.inr (by simp)) _
       have hz7 : w.heap.size + 2 ≤ (w6.setCell ⟨w.heap.size + 1, 3, none⟩ (.slice A6 (j + 1) c6)).heap.size := by simpa [World.setCell] using hz6
       try simp only [Act.put, List.setIfInBounds_toArray, List.set_cons_zero, List.set_cons_succ]
       refine wpAnyE_done (by kernel_rfl) ?_ _
       generalize w6.setCell ⟨w.heap.size + 1, 3, none⟩ (.slice A6 (j + 1) c6) = w7 at hown7 hX7 hR7 hr7 hG7 hz7 ⊢
       have HFN := hide (show ExtI w g R N (j + 1) A6 c6 w7 from ⟨hG7, by simpa using hX7, hR7, hz7, ls ++ [a], by rw [List.length_append, hls]; rfl, by rw [List.map_append, List.map_append]; exact hown7, .inl ⟨r2, hr7, hal, map_app HRe.out hg2⟩⟩)
       clear hown7 hX7 hR7 hr7 hG7 hz7 hXd hRz hrd hGd hz6 hown6
       go_wp2_with fail
       exact ⟨⟨j + 1, A6, c6, by go_num, by omega, HFN⟩, by simp [intOf]; omega⟩
      ·refine ⟨_, rfl, ?_⟩
       have hXd := hXd.grown ho2 (fun e => ng1 (Option.some.inj e).symm)
       have hRz := hRz.grown ho2 (fun e => ng0 (Option.some.inj e).symm)
       have hn := hn.kept ho2 (.inr (own_blk_ne hn hrd (by decide)))
       have hGd := only_trans hGd ho2
       have hzd : w.heap.size + 2 ≤ w2.heap.size := Nat.le_trans hzd ho2.size
       have hrd := hr2
       clear ho2 hr2
       refine hK.out _ _ hXd (fun _ => ?_)
       clear hK K
       try simp only [Act.put, List.setIfInBounds_toArray, List.set_cons_zero, List.set_cons_succ]
       refine wpAnyE_ready (rs := [4]) (by kernel_rfl) (by simp) ?_
       refine AllReadyE.cons (o := ?_) ?_ (fun K hK => ?_) AllReadyE.nil
       rotate_left 1
       ·(first | (simp only [List.getElem?_toArray, List.getElem?_cons_succ, List.getElem?_cons_zero]; exact rfl) | exact rfl)
       refine step_buildV (.cells #[.string (⟨#[]⟩)] 9) (x := .tmp 92) (u := .string (⟨#[]⟩)) rfl (by rfl) (fun ρ hρ => ?_) ?_
       ·exact bldR _ rfl ρ hρ _
       have hn := hn.alloc (.cells #[.string (⟨#[]⟩)] 9)
       have hXd := hXd.alloc (.cells #[.string (⟨#[]⟩)] 9)
       have hRz := hRz.alloc (.cells #[.string (⟨#[]⟩)] 9)
       have hrd := Blk.alloc hrd (.cells #[.string (⟨#[]⟩)] 9)
       have hGd := only_alloc hGd (.cells #[.string (⟨#[]⟩)] 9)
       have hnb := Blk.new w2 9 #[.string (⟨#[]⟩)]
       have hz2 : w.heap.size + 2 ≤ (w2.alloc (.cells #[.string (⟨#[]⟩)] 9)).heap.size := by simp only [World.size_alloc]; omega
       refine hK.out _ _ hXd (fun _ => ?_)
       clear hK K
       try simp only [Act.put, List.setIfInBounds_toArray, List.set_cons_zero, List.set_cons_succ]
       refine wpAnyE_ready (rs := [5]) (by kernel_rfl) (by simp) ?_
       refine AllReadyE.late (o := ?_) ?_ rfl (fun K hK => ?_) AllReadyE.nil
       rotate_left 1
       ·(first | (simp only [List.getElem?_toArray, List.getElem?_cons_succ, List.getElem?_cons_zero]; exact rfl) | exact rfl)
       obtain ⟨hiI, hI0, hI1, hI2⟩ := HII.out
       refine step_append_any _ rfl (.tmp 90) (.tmp 93) _ (by rfl) (w.heap.size + 2) 9 iI (.string ⟨#[]⟩) 1 16 Tryz.underlying35 hiI hI0 hI1 hI2 (by rfl) (by decide) (.slice A j c) j _ (by rfl) hn _ _ 1 1 [.string (⟨#[]⟩)] (by rfl) (reads_blkN hnb (by rfl)) (by simp [Value.oneCell']) (by unfold maxLen; omega) (by omega) hz2 ?_
       intro v6 w6 hown6 hgr6 hor6
       obtain ⟨A6, c6, rfl⟩ := own_slN hown6
       have hrow : ∀ k, (Value.slice A j c).ownBlock = some k → w.heap.size + 2 ≤ k := fun k e => (hn.lt k e).1
       have hXd := hXd.grown hgr6 (fun e => by have := hrow _ e.symm; omega)
       have hRz := hRz.grown hgr6 (fun e => by have := hrow _ e.symm; omega)
       have hrd := Blk.grown hrd hgr6 (fun e => by have := hrow _ e.symm; omega)
       have hGd := only_row hGd hgr6 (fun k e => by have := hrow _ e; omega)
       have hz6 : w.heap.size + 2 ≤ w6.heap.size := Nat.le_trans hz2 hgr6.size
       refine hK.out _ _ ?_
       clear hK K hiI hI0 hI1 hI2 hn hnb hgr6 hor6
       try simp only [Act.put, List.setIfInBounds_toArray, List.set_cons_zero, List.set_cons_succ]
       refine wpAnyE_takeY (i := 6) (oi := ?_) (v := .pointer (some ⟨w.heap.size + 1, 3, none⟩)) ?_ ?_ ?_ ?_ ?_ ?_ ?_ ?_
       rotate_left 1
       ·(first | (simp only [List.getElem?_toArray, List.getElem?_cons_succ, List.getElem?_cons_zero]; exact rfl) | exact rfl)
       ·kernel_rfl
       ·kernel_rfl
       ·kernel_rfl
       ·rfl
       ·exact fun _ _ _ h => h
       ·exact Or.inl ⟨by rfl, fun w _ => by go_simp⟩
       try simp only [Act.put, List.setIfInBounds_toArray, List.set_cons_zero, List.set_cons_succ]
       refine wpAnyE_ready (rs := [7]) (by kernel_rfl) (by simp) ?_
       refine AllReadyE.late (o := ?_) ?_ rfl (fun K hK => ?_) AllReadyE.nil
       rotate_left 1
       ·(first | (simp only [List.getElem?_toArray, List.getElem?_cons_succ, List.getElem?_cons_zero]; exact rfl) | exact rfl)
       refine step_storeV (p := ⟨w.heap.size + 1, 3, none⟩) (x := .tmp 95) (y := .tmp 94) (u := .pointer (some ⟨w.heap.size + 1, 3, none⟩)) (v := .slice A6 (j + 1) c6) rfl (by rfl) (by rfl) (fun ρ hρ hρ2 => ?_) ?_
       ·exact stoR _ rfl ρ hρ hρ2 _ hXd (by simp)
       refine hK.out _ _ ?_
       clear hK K
       have hown7 := own_setR hown6 hXd (by decide) 3 (.slice A6 (j + 1) c6)
       have hX7 := hXd.set_ 3 (.slice A6 (j + 1) c6)
       have hR7 := hRz.far (p := ⟨w.heap.size + 1, 3, none⟩) (by simp) (.slice A6 (j + 1) c6)
       have hr7 : Rd3 (w6.setCell ⟨w.heap.size + 1, 3, none⟩ (.slice A6 (j + 1) c6)) g _ _ := Blk.far hrd (p := ⟨w.heap.size + 1, 3, none⟩) ng1 (.slice A6 (j + 1) c6)
       have hG7 : w.grownBy (w6.setCell ⟨w.heap.size + 1, 3, none⟩ (.slice A6 (j + 1) c6)) (some g) := only_setCell hGd (.inr (by simp)) _
       have hz7 : w.heap.size + 2 ≤ (w6.setCell ⟨w.heap.size + 1, 3, none⟩ (.slice A6 (j + 1) c6)).heap.size := by simpa [World.setCell] using hz6
       try simp only [Act.put, List.setIfInBounds_toArray, List.set_cons_zero, List.set_cons_succ]
       refine wpAnyE_done (by kernel_rfl) ?_ _
       generalize w6.setCell ⟨w.heap.size + 1, 3, none⟩ (.slice A6 (j + 1) c6) = w7 at hown7 hX7 hR7 hr7 hG7 hz7 ⊢
       have HFN := hide (show ExtI w g R N (j + 1) A6 c6 w7 from ⟨hG7, by simpa using hX7, hR7, hz7, ls ++ [[]], by rw [List.length_append, hls]; rfl, by rw [List.map_append, List.map_append]; exact hown7, .inr ⟨r2, x, hr7, hx2, map_no HRe.out hg2⟩⟩)
       clear hown7 hX7 hR7 hr7 hG7 hz7 hXd hRz hrd hGd hz6 hown6
       go_wp2_with fail
       exact ⟨⟨j + 1, A6, c6, by go_num, by omega, HFN⟩, by simp [intOf]; omega⟩
     ·have hjj : ¬ (j : Int) < N := by omega
      obtain rfl : j = N := by omega
      have c1 : wr.cell? ⟨g, 1, none⟩ = some (.int .i64 0) := Blk.cell hr1 1
      have HGO := hide (show getF 101 r = .ok ⟨101, 0, [], ls⟩ rq from by rw [HG1.out, hRe, Nat.sub_self]; simp [gTexts, Res.map])
      have hN2 := newC_own hown hls.symm
      clear hRe HI hown HG1 HTx HII c1
      go_upto_region 27 with fail
      have hX2 := hX1
      have hR2 := hR1
      have hr2 := hr1
      have hG2 := hG1
      clear hX1 hR1 hr1 hG1
      generalize wr = w5 at hX2 hR2 hr2 hG2 hN2 ⊢
      have x0 := hX2.cell 0
      have x1 := hX2.cell 1
      have x2 := hX2.cell 2
      have x3 := hX2.cell 3
      have r0 := hR2.cell 0
      have r1 := hR2.cell 1
      have r2 := hR2.cell 2
      have r3 := hR2.cell 3
      have t0 := hR2.frozen 0
      have t1 := hR2.frozen 1
      have t2 := hR2.frozen 2
      have t3 := hR2.frozen 3
      simp at x0 x1 x2 x3 r0 r1 r2 r3
      have e1 : w5.cell? ⟨g, 1, none⟩ = some (.int .i64 0) := Blk.cell hr2 1
      have hF := fin4 hR2 (.int .u8 101) (.int .i64 0) (.string ⟨#[]⟩) (.slice A j c)
      have hGF := only_fin4 hG2 (Nat.le_refl w.heap.size) (.int .u8 101) (.int .i64 0) (.string ⟨#[]⟩) (.slice A j c)
      have hrF := rd3_fin4 hr2 ng0 (.int .u8 101) (.int .i64 0) (.string ⟨#[]⟩) (.slice A j c)
      have hNF := (((hN2.set_ (p := ⟨w.heap.size, 0, none⟩) (by show w.heap.size < _; omega) (.int .u8 101)).set_ (p := ⟨w.heap.size, 1, none⟩) (by show w.heap.size < _; omega) (.int .i64 0)).set_ (p := ⟨w.heap.size, 2, none⟩) (by show w.heap.size < _; omega) (.string ⟨#[]⟩)).set_ (p := ⟨w.heap.size, 3, none⟩) (by show w.heap.size < _; omega) (.slice A j c)
      clear hX2 hR2 hr2 hG2 hN2
      go_region
      go_wp2_with fail
      generalize (((w5.setCell ⟨w.heap.size, 0, none⟩ (.int .u8 101)).setCell ⟨w.heap.size, 1, none⟩ (.int .i64 0)).setCell ⟨w.heap.size, 2, none⟩ (.string ⟨#[]⟩)).setCell ⟨w.heap.size, 3, none⟩ (.slice A j c) = wF at hF hGF hrF hNF ⊢
      have q0 := hF.cell 0
      have q1 := hF.cell 1
      have q2 := hF.cell 2
      have q3 := hF.cell 3
      simp at q0 q1 q2 q3
      have HF := hide (show GetQ 101 w g r (.returned (.tuple #[.agg #[.int .u8 101, .int .i64 0, .string ⟨#[]⟩, .slice A j c], .int .i64 0])) wF.drew from .inl ⟨⟨101, 0, [], ls⟩, .slice A j c, rq, HGO.out, rfl, hNF.mono (by omega), Blk.drew hrF, only_drew hGF⟩)
      clear x0 x1 x2 x3 r0 r1 r2 r3 t0 t1 t2 t3 hF hGF hrF
      exact bodyPost_ret (v := .tuple #[.agg #[.int .u8 101, .int .i64 0, .string ⟨#[]⟩, .slice A j c], .int .i64 0]) (by simp [results, Tryz.results124, go_sem, q0, q1, q2, q3]) rfl HF.out
    ·have HGO := hide (show getF 101 r = .no x from by rw [HG1.out, hRe]; rfl)
     have c1 : wr.cell? ⟨g, 1, none⟩ = some (.int .i64 (x : Nat)) := Blk.cell hr1 1
     have hx1 : ((x : Int) == 0) = false := by rw [beq_eq_false_iff_ne]; omega
     have Hx0 := hide hx0
     clear hRe HI hown HG1 HTx hx0 HII c1
     rcases Nat.lt_or_ge j N with hjN | hjN
     ·have hjj : (j : Int) < N := by omega
      have c1 : wr.cell? ⟨g, 1, none⟩ = some (.int .i64 (x : Nat)) := Blk.cell hr1 1
      go_upto_region 27 with fail
      have hX2 := hX1
      have hR2 := hR1
      have hr2 := hr1
      have hG2 := hG1
      clear c1 hX1 hR1 hr1 hG1
      generalize wr = w5 at hX2 hR2 hr2 hG2 ⊢
      have x0 := hX2.cell 0
      have x1 := hX2.cell 1
      have x2 := hX2.cell 2
      have x3 := hX2.cell 3
      have r0 := hR2.cell 0
      have r1 := hR2.cell 1
      have r2 := hR2.cell 2
      have r3 := hR2.cell 3
      have t0 := hR2.frozen 0
      have t1 := hR2.frozen 1
      have t2 := hR2.frozen 2
      have t3 := hR2.frozen 3
      simp at x0 x1 x2 x3 r0 r1 r2 r3
      have e1 : w5.cell? ⟨g, 1, none⟩ = some (.int .i64 x) := Blk.cell hr2 1
      have hF := fin4 hR2 (.int .u8 101) (.int .i64 0) (.string ⟨#[]⟩) (.slice A j c)
      have hGF := only_fin4 hG2 (Nat.le_refl w.heap.size) (.int .u8 101) (.int .i64 0) (.string ⟨#[]⟩) (.slice A j c)
      have hrF := rd3_fin4 hr2 ng0 (.int .u8 101) (.int .i64 0) (.string ⟨#[]⟩) (.slice A j c)
      clear hX2 hR2 hr2 hG2
      go_region
      go_wp2_with fail
      generalize (((w5.setCell ⟨w.heap.size, 0, none⟩ (.int .u8 101)).setCell ⟨w.heap.size, 1, none⟩ (.int .i64 0)).setCell ⟨w.heap.size, 2, none⟩ (.string ⟨#[]⟩)).setCell ⟨w.heap.size, 3, none⟩ (.slice A j c) = wF at hF hGF hrF ⊢
      have q0 := hF.cell 0
      have q1 := hF.cell 1
      have q2 := hF.cell 2
      have q3 := hF.cell 3
      simp at q0 q1 q2 q3
      have HF := hide (show GetQ 101 w g r (.returned (.tuple #[.agg #[.int .u8 101, .int .i64 0, .string ⟨#[]⟩, .slice A j c], .int .i64 x])) wF.drew from .inr ⟨x, _, _, _, _, _, _, HGO.out, Hx0.out, rfl, only_drew hGF⟩)
      clear x0 x1 x2 x3 r0 r1 r2 r3 t0 t1 t2 t3 hF hGF hrF
      exact bodyPost_ret (v := .tuple #[.agg #[.int .u8 101, .int .i64 0, .string ⟨#[]⟩, .slice A j c], .int .i64 x]) (by simp [results, Tryz.results124, go_sem, q0, q1, q2, q3]) rfl HF.out
     ·have hjj : ¬ (j : Int) < N := by omega
      have c1 : wr.cell? ⟨g, 1, none⟩ = some (.int .i64 (x : Nat)) := Blk.cell hr1 1
      go_upto_region 27 with fail
      have hX2 := hX1
      have hR2 := hR1
      have hr2 := hr1
      have hG2 := hG1
      clear c1 hX1 hR1 hr1 hG1
      generalize wr = w5 at hX2 hR2 hr2 hG2 ⊢
      have x0 := hX2.cell 0
      have x1 := hX2.cell 1
      have x2 := hX2.cell 2
      have x3 := hX2.cell 3
      have r0 := hR2.cell 0
      have r1 := hR2.cell 1
      have r2 := hR2.cell 2
      have r3 := hR2.cell 3
      have t0 := hR2.frozen 0
      have t1 := hR2.frozen 1
      have t2 := hR2.frozen 2
      have t3 := hR2.frozen 3
      simp at x0 x1 x2 x3 r0 r1 r2 r3
      have e1 : w5.cell? ⟨g, 1, none⟩ = some (.int .i64 x) := Blk.cell hr2 1
      have hF := fin4 hR2 (.int .u8 101) (.int .i64 0) (.string ⟨#[]⟩) (.slice A j c)
      have hGF := only_fin4 hG2 (Nat.le_refl w.heap.size) (.int .u8 101) (.int .i64 0) (.string ⟨#[]⟩) (.slice A j c)
      have hrF := rd3_fin4 hr2 ng0 (.int .u8 101) (.int .i64 0) (.string ⟨#[]⟩) (.slice A j c)
      clear hX2 hR2 hr2 hG2
      go_region
      go_wp2_with fail
      generalize (((w5.setCell ⟨w.heap.size, 0, none⟩ (.int .u8 101)).setCell ⟨w.heap.size, 1, none⟩ (.int .i64 0)).setCell ⟨w.heap.size, 2, none⟩ (.string ⟨#[]⟩)).setCell ⟨w.heap.size, 3, none⟩ (.slice A j c) = wF at hF hGF hrF ⊢
      have q0 := hF.cell 0
      have q1 := hF.cell 1
      have q2 := hF.cell 2
      have q3 := hF.cell 3
      simp at q0 q1 q2 q3
      have HF := hide (show GetQ 101 w g r (.returned (.tuple #[.agg #[.int .u8 101, .int .i64 0, .string ⟨#[]⟩, .slice A j c], .int .i64 x])) wF.drew from .inr ⟨x, _, _, _, _, _, _, HGO.out, Hx0.out, rfl, only_drew hGF⟩)
      clear x0 x1 x2 x3 r0 r1 r2 r3 t0 t1 t2 t3 hF hGF hrF
      exact bodyPost_ret (v := .tuple #[.agg #[.int .u8 101, .int .i64 0, .string ⟨#[]⟩, .slice A j c], .int .i64 x]) (by simp [results, Tryz.results124, go_sem, q0, q1, q2, q3]) rfl HF.out
 ·have hX1 := hX0.grown ho1 (fun e => ng1 (Option.some.inj e).symm)
  have hR1 := hR0.grown ho1 (fun e => ng0 (Option.some.inj e).symm)
  have hG1 : w.grownBy w1 (some g) := only_trans (only_of_below hb0 _) ho1
  have HGO := hide (show getF 101 r = .no x from by rw [HG.out, gExts_no hg]; rfl)
  have hw : IntKind.i64.wrap (0 : Int) = 0 := by decide
  have hx1 : ((x : Int) == 0) = false := by rw [beq_eq_false_iff_ne]; omega
  have c1 : w1.cell? ⟨g, 1, none⟩ = some (.int .i64 (x : Nat)) := Blk.cell hr1 1
  have Hx0 := hide hx0
  clear hg ho1 HG HTx hx0
  go_wp2_with fail
  go_loopw [11] (fun vi wr => vi = .int .i64 0 ∧ wr = w1) (fun _ _ => 0)
  case atStart => exact ⟨rfl, rfl⟩
  case round =>
   obtain ⟨rfl, rfl⟩ := hrel
   go_upto_region 27 with fail
   have hX2 := hX1
   have hR2 := hR1
   have hr2 := hr1
   have hG2 := hG1
   clear hX1 hR1 hr1 hG1
   generalize wr = w5 at hX2 hR2 hr2 hG2 ⊢
   have x0 := hX2.cell 0
   have x1 := hX2.cell 1
   have x2 := hX2.cell 2
   have x3 := hX2.cell 3
   have r0 := hR2.cell 0
   have r1 := hR2.cell 1
   have r2 := hR2.cell 2
   have r3 := hR2.cell 3
   have t0 := hR2.frozen 0
   have t1 := hR2.frozen 1
   have t2 := hR2.frozen 2
   have t3 := hR2.frozen 3
   simp at x0 x1 x2 x3 r0 r1 r2 r3
   have e1 : w5.cell? ⟨g, 1, none⟩ = some (.int .i64 x) := Blk.cell hr2 1
   have hF := fin4 hR2 (.int .u8 101) (.int .i64 0) (.string ⟨#[]⟩) (.slice none 0 0)
   have hGF := only_fin4 hG2 (Nat.le_refl w.heap.size) (.int .u8 101) (.int .i64 0) (.string ⟨#[]⟩) (.slice none 0 0)
   have hrF := rd3_fin4 hr2 ng0 (.int .u8 101) (.int .i64 0) (.string ⟨#[]⟩) (.slice none 0 0)
   clear hX2 hR2 hr2 hG2 HC hX0 hR0 hb0 hz0 hr0
   go_region
   go_wp2_with fail
   generalize (((w5.setCell ⟨w.heap.size, 0, none⟩ (.int .u8 101)).setCell ⟨w.heap.size, 1, none⟩ (.int .i64 0)).setCell ⟨w.heap.size, 2, none⟩ (.string ⟨#[]⟩)).setCell ⟨w.heap.size, 3, none⟩ (.slice none 0 0) = wF at hF hGF hrF ⊢
   have q0 := hF.cell 0
   have q1 := hF.cell 1
   have q2 := hF.cell 2
   have q3 := hF.cell 3
   simp at q0 q1 q2 q3
   have HF := hide (show GetQ 101 w g r (.returned (.tuple #[.agg #[.int .u8 101, .int .i64 0, .string ⟨#[]⟩, .slice none 0 0], .int .i64 x])) wF.drew from .inr ⟨x, _, _, _, _, _, _, HGO.out, Hx0.out, rfl, only_drew hGF⟩)
   clear x0 x1 x2 x3 r0 r1 r2 r3 t0 t1 t2 t3 hF hGF hrF
   exact bodyPost_ret (v := .tuple #[.agg #[.int .u8 101, .int .i64 0, .string ⟨#[]⟩, .slice none 0 0], .int .i64 x]) (by simp [results, Tryz.results124, go_sem, q0, q1, q2, q3]) rfl HF.out
theorem rget_any (k : Nat) (h : Rd3 w g r 0) (hr : r.length ≤ 1000000) : Calls Tryz.prog 124 #[.pointer (some ⟨g, 0, none⟩), .int .u8 k] w (GetQ k w g r) := by
 by_cases h0 : k = 98
 ·subst h0
  exact rget_98 h hr
 by_cases h1 : k = 117
 ·subst h1
  exact rget_117 h hr
 by_cases h2 : k = 109
 ·subst h2
  exact rget_109 h hr
 by_cases h3 : k = 110
 ·subst h3
  exact rget_110 h hr
 by_cases h4 : k = 99
 ·subst h4
  exact rget_99 h hr
 by_cases h5 : k = 101
 ·subst h5
  exact rget_101 h hr
 exact rget_else k h0 h1 h2 h3 h4 h5 h hr
end
end Go.Proofs.YtmgfcjpifkoahaaGreatDoor
