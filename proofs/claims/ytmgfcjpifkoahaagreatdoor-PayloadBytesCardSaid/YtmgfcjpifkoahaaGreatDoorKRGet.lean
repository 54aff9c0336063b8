/-
  The contract of the reference's get at the letters of numbers and texts. Conditions: texts of at most 1,000,000 bytes.
-/
import Derived.Test.YtmgfcjpifkoahaaGreatDoorKRRd
import Derived.Test.YtmgfcjpifkoahaaGreatDoorKGetX
set_option linter.unusedVariables false
set_option linter.unusedSimpArgs false
namespace Go.Proofs.YtmgfcjpifkoahaaGreatDoor
open Go.RowKit Go.ChangeShapes Go.WideShapes Go.Sort
def GetQ (k : Nat) (w : World) (g : Nat) (r : List UInt8) (e : Ending) (w' : World) : Prop :=
 (∃ x lv r', getF k r = .ok x r' ∧ e = .returned (.tuple #[fldV x lv, .int .i64 0]) ∧ NewC w.heap.size w' lv x.l ∧ Rd3 w' g r' 0 ∧ w.grownBy w' (some g)) ∨
 (∃ x : Nat, ∃ (a b : Int) (c : ByteArray) (A : Option Addr) (m d : Nat), getF k r = .no x ∧ x ≠ 0 ∧ e = .returned (.tuple #[.agg #[.int .u8 a, .int .i64 b, .string c, .slice A m d], .int .i64 x]) ∧ w.grownBy w' (some g))
theorem rd3_fin4 {w : World} {g r : Nat} {s : List UInt8} {x : Int} (h : Rd3 w g s x) (hr : g ≠ r) (v0 v1 v2 v3 : Value) :
  Rd3 ((((w.setCell ⟨r, 0, none⟩ v0).setCell ⟨r, 1, none⟩ v1).setCell ⟨r, 2, none⟩ v2).setCell ⟨r, 3, none⟩ v3) g s x :=
 (((Blk.far h (p := ⟨r, 0, none⟩) hr v0).far (p := ⟨r, 1, none⟩) hr v1).far (p := ⟨r, 2, none⟩) hr v2).far (p := ⟨r, 3, none⟩) hr v3
section
variable {w : World} {g : Nat} {r : List UInt8}
set_option maxHeartbeats 4000000 in
set_option maxRecDepth 100000 in
theorem rget_else (k : Nat) (h0 : ¬ k = 98) (h1 : ¬ k = 117) (h2 : ¬ k = 109) (h3 : ¬ k = 110) (h4 : ¬ k = 99) (h5 : ¬ k = 101) (h : Rd3 w g r 0) (hr : r.length ≤ 1000000) : Calls Tryz.prog 124 #[.pointer (some ⟨g, 0, none⟩), .int .u8 k] w (GetQ k w g r) := by
 have hlt := Blk.lt h
 obtain ⟨W0, hW0⟩ : ∃ W0, W0 = (w.alloc (.cells #[.int .u8 0, .int .i64 0, .string ⟨#[]⟩, .slice none 0 0] 67)).alloc (.cells #[.int .u8 k, .int .i64 0, .string ⟨#[]⟩, .slice none 0 0] 67) := ⟨_, rfl⟩
 have hb0 : Below w.heap.size w W0 := by rw [hW0]; exact bel_by
 have hz0 : W0.heap.size = w.heap.size + 2 := by rw [hW0]; simp
 have hR0 : Blk W0 w.heap.size 67 #[.int .u8 0, .int .i64 0, .string ⟨#[]⟩, .slice none 0 0] := by rw [hW0]; exact (Blk.new w _ _).alloc _
 have hX0 : Blk W0 (w.heap.size + 1) 67 #[.int .u8 k, .int .i64 0, .string ⟨#[]⟩, .slice none 0 0] := by rw [hW0]; simpa using Blk.new (w.alloc (.cells #[.int .u8 0, .int .i64 0, .string ⟨#[]⟩, .slice none 0 0] 67)) 67 #[.int .u8 k, .int .i64 0, .string ⟨#[]⟩, .slice none 0 0]
 have hr0 : Rd3 W0 g r 0 := h.below hb0
 have HC := hide (r3text_any hr0 hr)
 have HG := hide (getF_else r h0 h1 h2 h3 h4 h5)
 have ng0 : g ≠ w.heap.size := by omega
 have ng1 : g ≠ w.heap.size + 1 := by omega
 have n0 : ((k : Int) == 98) = false := by rw [beq_eq_false_iff_ne]; omega
 have n1 : ((k : Int) == 117) = false := by rw [beq_eq_false_iff_ne]; omega
 have n2 : ((k : Int) == 109) = false := by rw [beq_eq_false_iff_ne]; omega
 have n3 : ((k : Int) == 110) = false := by rw [beq_eq_false_iff_ne]; omega
 have n4 : ((k : Int) == 99) = false := by rw [beq_eq_false_iff_ne]; omega
 have n5 : ((k : Int) == 101) = false := by rw [beq_eq_false_iff_ne]; omega
 clear h0 h1 h2 h3 h4 h5
 go_enter Tryz.func124, Tryz.ntmps124
 go_upto_region 2 with fail
 rw [← hW0]
 clear hW0
 go_wp2_with fail
 refine HC.out.mono ?_
 rintro e w1 (⟨a, r', hg, rfl, hr1, ho1⟩ | ⟨x, r', hg, hx0, rfl, hr1, ho1⟩)
 ·have hX1 := hX0.grown ho1 (fun e => ng1 (Option.some.inj e).symm)
  have hR1 := hR0.grown ho1 (fun e => ng0 (Option.some.inj e).symm)
  have hG1 : w.grownBy w1 (some g) := only_trans (only_of_below hb0 _) ho1
  have Hg := hide hg
  clear hg ho1
  have k1 := hX1.cell 2
  have f1 := hX1.frozen 2
  simp only [List.getElem?_toArray, List.getElem?_cons_zero, List.getElem?_cons_succ] at k1
  have hX2 := hX1.set_ 2 (.string (bs a))
  have hR2 := hR1.far (p := ⟨w.heap.size + 1, 2, none⟩) (by simp) (.string (bs a))
  have hr2 : Rd3 (w1.setCell ⟨w.heap.size + 1, 2, none⟩ (.string (bs a))) g r' 0 := Blk.far hr1 (p := ⟨w.heap.size + 1, 2, none⟩) ng1 (.string (bs a))
  have hG2 : w.grownBy (w1.setCell ⟨w.heap.size + 1, 2, none⟩ (.string (bs a))) (some g) := only_setCell hG1 (.inr (by simp)) _
  go_upto_region 27 with fail
  generalize w1.setCell ⟨w.heap.size + 1, 2, none⟩ (.string (bs a)) = w5 at hX2 hR2 hr2 hG2 ⊢
  clear k1 f1 hX1 hR1 hr1 hG1
  have x0 := hX2.cell 0
  have x1 := hX2.cell 1
  have x2 := hX2.cell 2
  have x3 := hX2.cell 3
  have r0 := hR2.cell 0
  have r1 := hR2.cell 1
  have r2 := hR2.cell 2
  have r3 := hR2.cell 3
  have t0 := hR2.frozen 0
  have t1 := hR2.frozen 1
  have t2 := hR2.frozen 2
  have t3 := hR2.frozen 3
  simp at x0 x1 x2 x3 r0 r1 r2 r3
  have e1 : w5.cell? ⟨g, 1, none⟩ = some (.int .i64 0) := Blk.cell hr2 1
  have hF := fin4 hR2 (.int .u8 k) (.int .i64 0) (.string (bs a)) (.slice none 0 0)
  have hGF := only_fin4 hG2 (Nat.le_refl w.heap.size) (.int .u8 k) (.int .i64 0) (.string (bs a)) (.slice none 0 0)
  have hrF := rd3_fin4 hr2 ng0 (.int .u8 k) (.int .i64 0) (.string (bs a)) (.slice none 0 0)
  clear hX2 hR2 hr2 hG2 HC hX0 hR0 hb0 hz0 hr0
  go_region
  go_wp2_with fail
  generalize (((w5.setCell ⟨w.heap.size, 0, none⟩ (.int .u8 k)).setCell ⟨w.heap.size, 1, none⟩ (.int .i64 0)).setCell ⟨w.heap.size, 2, none⟩ (.string (bs a))).setCell ⟨w.heap.size, 3, none⟩ (.slice none 0 0) = wF at hF hGF hrF ⊢
  have q0 := hF.cell 0
  have q1 := hF.cell 1
  have q2 := hF.cell 2
  have q3 := hF.cell 3
  simp at q0 q1 q2 q3
  have HF := hide (show GetQ k w g r (.returned (.tuple #[.agg #[.int .u8 k, .int .i64 0, .string (bs a), .slice none 0 0], .int .i64 0])) wF.drew from .inl ⟨⟨k, 0, a, []⟩, .slice none 0 0, r', by rw [HG.out, Hg.out]; rfl, rfl, newC_nil _ _ _, Blk.drew hrF, only_drew hGF⟩)
  clear x0 x1 x2 x3 r0 r1 r2 r3 t0 t1 t2 t3 hF hGF hrF
  exact bodyPost_ret (v := .tuple #[.agg #[.int .u8 k, .int .i64 0, .string (bs a), .slice none 0 0], .int .i64 0]) (by simp [results, Tryz.results124, go_sem, q0, q1, q2, q3]) rfl HF.out
 ·have hX1 := hX0.grown ho1 (fun e => ng1 (Option.some.inj e).symm)
  have hR1 := hR0.grown ho1 (fun e => ng0 (Option.some.inj e).symm)
  have hG1 : w.grownBy w1 (some g) := only_trans (only_of_below hb0 _) ho1
  have Hg := hide hg
  have Hx0 := hide hx0
  clear hg ho1 hx0
  have k1 := hX1.cell 2
  have f1 := hX1.frozen 2
  simp only [List.getElem?_toArray, List.getElem?_cons_zero, List.getElem?_cons_succ] at k1
  have hX2 := hX1.set_ 2 (.string ⟨#[]⟩)
  have hR2 := hR1.far (p := ⟨w.heap.size + 1, 2, none⟩) (by simp) (.string ⟨#[]⟩)
  have hr2 : Rd3 (w1.setCell ⟨w.heap.size + 1, 2, none⟩ (.string ⟨#[]⟩)) g r' x := Blk.far hr1 (p := ⟨w.heap.size + 1, 2, none⟩) ng1 (.string ⟨#[]⟩)
  have hG2 : w.grownBy (w1.setCell ⟨w.heap.size + 1, 2, none⟩ (.string ⟨#[]⟩)) (some g) := only_setCell hG1 (.inr (by simp)) _
  go_upto_region 27 with fail
  generalize w1.setCell ⟨w.heap.size + 1, 2, none⟩ (.string ⟨#[]⟩) = w5 at hX2 hR2 hr2 hG2 ⊢
  clear k1 f1 hX1 hR1 hr1 hG1
  have x0 := hX2.cell 0
  have x1 := hX2.cell 1
  have x2 := hX2.cell 2
  have x3 := hX2.cell 3
  have r0 := hR2.cell 0
  have r1 := hR2.cell 1
  have r2 := hR2.cell 2
  have r3 := hR2.cell 3
  have t0 := hR2.frozen 0
  have t1 := hR2.frozen 1
  have t2 := hR2.frozen 2
  have t3 := hR2.frozen 3
  simp at x0 x1 x2 x3 r0 r1 r2 r3
  have e1 : w5.cell? ⟨g, 1, none⟩ = some (.int .i64 x) := Blk.cell hr2 1
  have hF := fin4 hR2 (.int .u8 k) (.int .i64 0) (.string ⟨#[]⟩) (.slice none 0 0)
  have hGF := only_fin4 hG2 (Nat.le_refl w.heap.size) (.int .u8 k) (.int .i64 0) (.string ⟨#[]⟩) (.slice none 0 0)
  have hrF := rd3_fin4 hr2 ng0 (.int .u8 k) (.int .i64 0) (.string ⟨#[]⟩) (.slice none 0 0)
  clear hX2 hR2 hr2 hG2 HC hX0 hR0 hb0 hz0 hr0
  go_region
  go_wp2_with fail
  generalize (((w5.setCell ⟨w.heap.size, 0, none⟩ (.int .u8 k)).setCell ⟨w.heap.size, 1, none⟩ (.int .i64 0)).setCell ⟨w.heap.size, 2, none⟩ (.string ⟨#[]⟩)).setCell ⟨w.heap.size, 3, none⟩ (.slice none 0 0) = wF at hF hGF hrF ⊢
  have q0 := hF.cell 0
  have q1 := hF.cell 1
  have q2 := hF.cell 2
  have q3 := hF.cell 3
  simp at q0 q1 q2 q3
  have HF := hide (show GetQ k w g r (.returned (.tuple #[.agg #[.int .u8 k, .int .i64 0, .string ⟨#[]⟩, .slice none 0 0], .int .i64 x])) wF.drew from .inr ⟨x, _, _, _, _, _, _, by rw [HG.out, Hg.out]; rfl, Hx0.out, rfl, only_drew hGF⟩)
  clear x0 x1 x2 x3 r0 r1 r2 r3 t0 t1 t2 t3 hF hGF hrF
  exact bodyPost_ret (v := .tuple #[.agg #[.int .u8 k, .int .i64 0, .string ⟨#[]⟩, .slice none 0 0], .int .i64 x]) (by simp [results, Tryz.results124, go_sem, q0, q1, q2, q3]) rfl HF.out
set_option maxHeartbeats 4000000 in
set_option maxRecDepth 100000 in
theorem rget_109 (h : Rd3 w g r 0) (hr : r.length ≤ 1000000) : Calls Tryz.prog 124 #[.pointer (some ⟨g, 0, none⟩), .int .u8 109] w (GetQ 109 w g r) := by
 have hlt := Blk.lt h
 obtain ⟨W0, hW0⟩ : ∃ W0, W0 = (w.alloc (.cells #[.int .u8 0, .int .i64 0, .string ⟨#[]⟩, .slice none 0 0] 67)).alloc (.cells #[.int .u8 109, .int .i64 0, .string ⟨#[]⟩, .slice none 0 0] 67) := ⟨_, rfl⟩
 have hb0 : Below w.heap.size w W0 := by rw [hW0]; exact bel_by
 have hz0 : W0.heap.size = w.heap.size + 2 := by rw [hW0]; simp
 have hR0 : Blk W0 w.heap.size 67 #[.int .u8 0, .int .i64 0, .string ⟨#[]⟩, .slice none 0 0] := by rw [hW0]; exact (Blk.new w _ _).alloc _
 have hX0 : Blk W0 (w.heap.size + 1) 67 #[.int .u8 109, .int .i64 0, .string ⟨#[]⟩, .slice none 0 0] := by rw [hW0]; simpa using Blk.new (w.alloc (.cells #[.int .u8 0, .int .i64 0, .string ⟨#[]⟩, .slice none 0 0] 67)) 67 #[.int .u8 109, .int .i64 0, .string ⟨#[]⟩, .slice none 0 0]
 have hr0 : Rd3 W0 g r 0 := h.below hb0
 have HC := hide (r3whole_any hr0 hr)
 have HG := hide (getF_109 (k := 109) r rfl)
 have ng0 : g ≠ w.heap.size := by omega
 have ng1 : g ≠ w.heap.size + 1 := by omega
 go_enter Tryz.func124, Tryz.ntmps124
 go_upto_region 2 with fail
 rw [← hW0]
 clear hW0
 go_wp2_with fail
 refine HC.out.mono ?_
 rintro e w1 (⟨a, r', hg, rfl, hr1, ho1⟩ | ⟨x, r', hg, hx0, rfl, hr1, ho1⟩)
 ·have hX1 := hX0.grown ho1 (fun e => ng1 (Option.some.inj e).symm)
  have hR1 := hR0.grown ho1 (fun e => ng0 (Option.some.inj e).symm)
  have hG1 : w.grownBy w1 (some g) := only_trans (only_of_below hb0 _) ho1
  have Hg := hide hg
  clear hg ho1
  have k1 := hX1.cell 2
  have f1 := hX1.frozen 2
  simp only [List.getElem?_toArray, List.getElem?_cons_zero, List.getElem?_cons_succ] at k1
  have hX2 := hX1.set_ 2 (.string (bs a))
  have hR2 := hR1.far (p := ⟨w.heap.size + 1, 2, none⟩) (by simp) (.string (bs a))
  have hr2 : Rd3 (w1.setCell ⟨w.heap.size + 1, 2, none⟩ (.string (bs a))) g r' 0 := Blk.far hr1 (p := ⟨w.heap.size + 1, 2, none⟩) ng1 (.string (bs a))
  have hG2 : w.grownBy (w1.setCell ⟨w.heap.size + 1, 2, none⟩ (.string (bs a))) (some g) := only_setCell hG1 (.inr (by simp)) _
  go_upto_region 27 with fail
  generalize w1.setCell ⟨w.heap.size + 1, 2, none⟩ (.string (bs a)) = w5 at hX2 hR2 hr2 hG2 ⊢
  clear k1 f1 hX1 hR1 hr1 hG1
  have x0 := hX2.cell 0
  have x1 := hX2.cell 1
  have x2 := hX2.cell 2
  have x3 := hX2.cell 3
  have r0 := hR2.cell 0
  have r1 := hR2.cell 1
  have r2 := hR2.cell 2
  have r3 := hR2.cell 3
  have t0 := hR2.frozen 0
  have t1 := hR2.frozen 1
  have t2 := hR2.frozen 2
  have t3 := hR2.frozen 3
  simp at x0 x1 x2 x3 r0 r1 r2 r3
  have e1 : w5.cell? ⟨g, 1, none⟩ = some (.int .i64 0) := Blk.cell hr2 1
  have hF := fin4 hR2 (.int .u8 109) (.int .i64 0) (.string (bs a)) (.slice none 0 0)
  have hGF := only_fin4 hG2 (Nat.le_refl w.heap.size) (.int .u8 109) (.int .i64 0) (.string (bs a)) (.slice none 0 0)
  have hrF := rd3_fin4 hr2 ng0 (.int .u8 109) (.int .i64 0) (.string (bs a)) (.slice none 0 0)
  clear hX2 hR2 hr2 hG2 HC hX0 hR0 hb0 hz0 hr0
  go_region
  go_wp2_with fail
  generalize (((w5.setCell ⟨w.heap.size, 0, none⟩ (.int .u8 109)).setCell ⟨w.heap.size, 1, none⟩ (.int .i64 0)).setCell ⟨w.heap.size, 2, none⟩ (.string (bs a))).setCell ⟨w.heap.size, 3, none⟩ (.slice none 0 0) = wF at hF hGF hrF ⊢
  have q0 := hF.cell 0
  have q1 := hF.cell 1
  have q2 := hF.cell 2
  have q3 := hF.cell 3
  simp at q0 q1 q2 q3
  have HF := hide (show GetQ 109 w g r (.returned (.tuple #[.agg #[.int .u8 109, .int .i64 0, .string (bs a), .slice none 0 0], .int .i64 0])) wF.drew from .inl ⟨⟨109, 0, a, []⟩, .slice none 0 0, r', by rw [HG.out, Hg.out]; rfl, rfl, newC_nil _ _ _, Blk.drew hrF, only_drew hGF⟩)
  clear x0 x1 x2 x3 r0 r1 r2 r3 t0 t1 t2 t3 hF hGF hrF
  exact bodyPost_ret (v := .tuple #[.agg #[.int .u8 109, .int .i64 0, .string (bs a), .slice none 0 0], .int .i64 0]) (by simp [results, Tryz.results124, go_sem, q0, q1, q2, q3]) rfl HF.out
 ·have hX1 := hX0.grown ho1 (fun e => ng1 (Option.some.inj e).symm)
  have hR1 := hR0.grown ho1 (fun e => ng0 (Option.some.inj e).symm)
  have hG1 : w.grownBy w1 (some g) := only_trans (only_of_below hb0 _) ho1
  have Hg := hide hg
  have Hx0 := hide hx0
  clear hg ho1 hx0
  have k1 := hX1.cell 2
  have f1 := hX1.frozen 2
  simp only [List.getElem?_toArray, List.getElem?_cons_zero, List.getElem?_cons_succ] at k1
  have hX2 := hX1.set_ 2 (.string ⟨#[]⟩)
  have hR2 := hR1.far (p := ⟨w.heap.size + 1, 2, none⟩) (by simp) (.string ⟨#[]⟩)
  have hr2 : Rd3 (w1.setCell ⟨w.heap.size + 1, 2, none⟩ (.string ⟨#[]⟩)) g r' x := Blk.far hr1 (p := ⟨w.heap.size + 1, 2, none⟩) ng1 (.string ⟨#[]⟩)
  have hG2 : w.grownBy (w1.setCell ⟨w.heap.size + 1, 2, none⟩ (.string ⟨#[]⟩)) (some g) := only_setCell hG1 (.inr (by simp)) _
  go_upto_region 27 with fail
  generalize w1.setCell ⟨w.heap.size + 1, 2, none⟩ (.string ⟨#[]⟩) = w5 at hX2 hR2 hr2 hG2 ⊢
  clear k1 f1 hX1 hR1 hr1 hG1
  have x0 := hX2.cell 0
  have x1 := hX2.cell 1
  have x2 := hX2.cell 2
  have x3 := hX2.cell 3
  have r0 := hR2.cell 0
  have r1 := hR2.cell 1
  have r2 := hR2.cell 2
  have r3 := hR2.cell 3
  have t0 := hR2.frozen 0
  have t1 := hR2.frozen 1
  have t2 := hR2.frozen 2
  have t3 := hR2.frozen 3
  simp at x0 x1 x2 x3 r0 r1 r2 r3
  have e1 : w5.cell? ⟨g, 1, none⟩ = some (.int .i64 x) := Blk.cell hr2 1
  have hF := fin4 hR2 (.int .u8 109) (.int .i64 0) (.string ⟨#[]⟩) (.slice none 0 0)
  have hGF := only_fin4 hG2 (Nat.le_refl w.heap.size) (.int .u8 109) (.int .i64 0) (.string ⟨#[]⟩) (.slice none 0 0)
  have hrF := rd3_fin4 hr2 ng0 (.int .u8 109) (.int .i64 0) (.string ⟨#[]⟩) (.slice none 0 0)
  clear hX2 hR2 hr2 hG2 HC hX0 hR0 hb0 hz0 hr0
  go_region
  go_wp2_with fail
  generalize (((w5.setCell ⟨w.heap.size, 0, none⟩ (.int .u8 109)).setCell ⟨w.heap.size, 1, none⟩ (.int .i64 0)).setCell ⟨w.heap.size, 2, none⟩ (.string ⟨#[]⟩)).setCell ⟨w.heap.size, 3, none⟩ (.slice none 0 0) = wF at hF hGF hrF ⊢
  have q0 := hF.cell 0
  have q1 := hF.cell 1
  have q2 := hF.cell 2
  have q3 := hF.cell 3
  simp at q0 q1 q2 q3
  have HF := hide (show GetQ 109 w g r (.returned (.tuple #[.agg #[.int .u8 109, .int .i64 0, .string ⟨#[]⟩, .slice none 0 0], .int .i64 x])) wF.drew from .inr ⟨x, _, _, _, _, _, _, by rw [HG.out, Hg.out]; rfl, Hx0.out, rfl, only_drew hGF⟩)
  clear x0 x1 x2 x3 r0 r1 r2 r3 t0 t1 t2 t3 hF hGF hrF
  exact bodyPost_ret (v := .tuple #[.agg #[.int .u8 109, .int .i64 0, .string ⟨#[]⟩, .slice none 0 0], .int .i64 x]) (by simp [results, Tryz.results124, go_sem, q0, q1, q2, q3]) rfl HF.out
set_option maxHeartbeats 4000000 in
set_option maxRecDepth 100000 in
theorem rget_99 (h : Rd3 w g r 0) (hr : r.length ≤ 1000000) : Calls Tryz.prog 124 #[.pointer (some ⟨g, 0, none⟩), .int .u8 99] w (GetQ 99 w g r) := by
 have hlt := Blk.lt h
 obtain ⟨W0, hW0⟩ : ∃ W0, W0 = (w.alloc (.cells #[.int .u8 0, .int .i64 0, .string ⟨#[]⟩, .slice none 0 0] 67)).alloc (.cells #[.int .u8 99, .int .i64 0, .string ⟨#[]⟩, .slice none 0 0] 67) := ⟨_, rfl⟩
 have hb0 : Below w.heap.size w W0 := by rw [hW0]; exact bel_by
 have hz0 : W0.heap.size = w.heap.size + 2 := by rw [hW0]; simp
 have hR0 : Blk W0 w.heap.size 67 #[.int .u8 0, .int .i64 0, .string ⟨#[]⟩, .slice none 0 0] := by rw [hW0]; exact (Blk.new w _ _).alloc _
 have hX0 : Blk W0 (w.heap.size + 1) 67 #[.int .u8 99, .int .i64 0, .string ⟨#[]⟩, .slice none 0 0] := by rw [hW0]; simpa using Blk.new (w.alloc (.cells #[.int .u8 0, .int .i64 0, .string ⟨#[]⟩, .slice none 0 0] 67)) 67 #[.int .u8 99, .int .i64 0, .string ⟨#[]⟩, .slice none 0 0]
 have hr0 : Rd3 W0 g r 0 := h.below hb0
 have HC := hide (r3bytes_any hr0 hr 16 (by omega))
 have HG := hide (getF_99 (k := 99) r rfl)
 have ng0 : g ≠ w.heap.size := by omega
 have ng1 : g ≠ w.heap.size + 1 := by omega
 go_enter Tryz.func124, Tryz.ntmps124
 go_upto_region 2 with fail
 rw [← hW0]
 clear hW0
 go_wp2_with fail
 refine HC.out.mono ?_
 rintro e w1 (⟨a, r', hg, rfl, hr1, ho1⟩ | ⟨x, r', hg, hx0, rfl, hr1, ho1⟩)
 ·have hX1 := hX0.grown ho1 (fun e => ng1 (Option.some.inj e).symm)
  have hR1 := hR0.grown ho1 (fun e => ng0 (Option.some.inj e).symm)
  have hG1 : w.grownBy w1 (some g) := only_trans (only_of_below hb0 _) ho1
  have Hg := hide hg
  clear hg ho1
  have k1 := hX1.cell 2
  have f1 := hX1.frozen 2
  simp only [List.getElem?_toArray, List.getElem?_cons_zero, List.getElem?_cons_succ] at k1
  have hX2 := hX1.set_ 2 (.string (bs a))
  have hR2 := hR1.far (p := ⟨w.heap.size + 1, 2, none⟩) (by simp) (.string (bs a))
  have hr2 : Rd3 (w1.setCell ⟨w.heap.size + 1, 2, none⟩ (.string (bs a))) g r' 0 := Blk.far hr1 (p := ⟨w.heap.size + 1, 2, none⟩) ng1 (.string (bs a))
  have hG2 : w.grownBy (w1.setCell ⟨w.heap.size + 1, 2, none⟩ (.string (bs a))) (some g) := only_setCell hG1 (.inr (by simp)) _
  go_upto_region 27 with fail
  generalize w1.setCell ⟨w.heap.size + 1, 2, none⟩ (.string (bs a)) = w5 at hX2 hR2 hr2 hG2 ⊢
  clear k1 f1 hX1 hR1 hr1 hG1
  have x0 := hX2.cell 0
  have x1 := hX2.cell 1
  have x2 := hX2.cell 2
  have x3 := hX2.cell 3
  have r0 := hR2.cell 0
  have r1 := hR2.cell 1
  have r2 := hR2.cell 2
  have r3 := hR2.cell 3
  have t0 := hR2.frozen 0
  have t1 := hR2.frozen 1
  have t2 := hR2.frozen 2
  have t3 := hR2.frozen 3
  simp at x0 x1 x2 x3 r0 r1 r2 r3
  have e1 : w5.cell? ⟨g, 1, none⟩ = some (.int .i64 0) := Blk.cell hr2 1
  have hF := fin4 hR2 (.int .u8 99) (.int .i64 0) (.string (bs a)) (.slice none 0 0)
  have hGF := only_fin4 hG2 (Nat.le_refl w.heap.size) (.int .u8 99) (.int .i64 0) (.string (bs a)) (.slice none 0 0)
  have hrF := rd3_fin4 hr2 ng0 (.int .u8 99) (.int .i64 0) (.string (bs a)) (.slice none 0 0)
  clear hX2 hR2 hr2 hG2 HC hX0 hR0 hb0 hz0 hr0
  go_region
  go_wp2_with fail
  generalize (((w5.setCell ⟨w.heap.size, 0, none⟩ (.int .u8 99)).setCell ⟨w.heap.size, 1, none⟩ (.int .i64 0)).setCell ⟨w.heap.size, 2, none⟩ (.string (bs a))).setCell ⟨w.heap.size, 3, none⟩ (.slice none 0 0) = wF at hF hGF hrF ⊢
  have q0 := hF.cell 0
  have q1 := hF.cell 1
  have q2 := hF.cell 2
  have q3 := hF.cell 3
  simp at q0 q1 q2 q3
  have HF := hide (show GetQ 99 w g r (.returned (.tuple #[.agg #[.int .u8 99, .int .i64 0, .string (bs a), .slice none 0 0], .int .i64 0])) wF.drew from .inl ⟨⟨99, 0, a, []⟩, .slice none 0 0, r', by rw [HG.out, Hg.out]; rfl, rfl, newC_nil _ _ _, Blk.drew hrF, only_drew hGF⟩)
  clear x0 x1 x2 x3 r0 r1 r2 r3 t0 t1 t2 t3 hF hGF hrF
  exact bodyPost_ret (v := .tuple #[.agg #[.int .u8 99, .int .i64 0, .string (bs a), .slice none 0 0], .int .i64 0]) (by simp [results, Tryz.results124, go_sem, q0, q1, q2, q3]) rfl HF.out
 ·have hX1 := hX0.grown ho1 (fun e => ng1 (Option.some.inj e).symm)
  have hR1 := hR0.grown ho1 (fun e => ng0 (Option.some.inj e).symm)
  have hG1 : w.grownBy w1 (some g) := only_trans (only_of_below hb0 _) ho1
  have Hg := hide hg
  have Hx0 := hide hx0
  clear hg ho1 hx0
  have k1 := hX1.cell 2
  have f1 := hX1.frozen 2
  simp only [List.getElem?_toArray, List.getElem?_cons_zero, List.getElem?_cons_succ] at k1
  have hX2 := hX1.set_ 2 (.string ⟨#[]⟩)
  have hR2 := hR1.far (p := ⟨w.heap.size + 1, 2, none⟩) (by simp) (.string ⟨#[]⟩)
  have hr2 : Rd3 (w1.setCell ⟨w.heap.size + 1, 2, none⟩ (.string ⟨#[]⟩)) g r' x := Blk.far hr1 (p := ⟨w.heap.size + 1, 2, none⟩) ng1 (.string ⟨#[]⟩)
  have hG2 : w.grownBy (w1.setCell ⟨w.heap.size + 1, 2, none⟩ (.string ⟨#[]⟩)) (some g) := only_setCell hG1 (.inr (by simp)) _
  go_upto_region 27 with fail
  generalize w1.setCell ⟨w.heap.size + 1, 2, none⟩ (.string ⟨#[]⟩) = w5 at hX2 hR2 hr2 hG2 ⊢
  clear k1 f1 hX1 hR1 hr1 hG1
  have x0 := hX2.cell 0
  have x1 := hX2.cell 1
  have x2 := hX2.cell 2
  have x3 := hX2.cell 3
  have r0 := hR2.cell 0
  have r1 := hR2.cell 1
  have r2 := hR2.cell 2
  have r3 := hR2.cell 3
  have t0 := hR2.frozen 0
  have t1 := hR2.frozen 1
  have t2 := hR2.frozen 2
  have t3 := hR2.frozen 3
  simp at x0 x1 x2 x3 r0 r1 r2 r3
  have e1 : w5.cell? ⟨g, 1, none⟩ = some (.int .i64 x) := Blk.cell hr2 1
  have hF := fin4 hR2 (.int .u8 99) (.int .i64 0) (.string ⟨#[]⟩) (.slice none 0 0)
  have hGF := only_fin4 hG2 (Nat.le_refl w.heap.size) (.int .u8 99) (.int .i64 0) (.string ⟨#[]⟩) (.slice none 0 0)
  have hrF := rd3_fin4 hr2 ng0 (.int .u8 99) (.int .i64 0) (.string ⟨#[]⟩) (.slice none 0 0)
  clear hX2 hR2 hr2 hG2 HC hX0 hR0 hb0 hz0 hr0
  go_region
  go_wp2_with fail
  generalize (((w5.setCell ⟨w.heap.size, 0, none⟩ (.int .u8 99)).setCell ⟨w.heap.size, 1, none⟩ (.int .i64 0)).setCell ⟨w.heap.size, 2, none⟩ (.string ⟨#[]⟩)).setCell ⟨w.heap.size, 3, none⟩ (.slice none 0 0) = wF at hF hGF hrF ⊢
  have q0 := hF.cell 0
  have q1 := hF.cell 1
  have q2 := hF.cell 2
  have q3 := hF.cell 3
  simp at q0 q1 q2 q3
  have HF := hide (show GetQ 99 w g r (.returned (.tuple #[.agg #[.int .u8 99, .int .i64 0, .string ⟨#[]⟩, .slice none 0 0], .int .i64 x])) wF.drew from .inr ⟨x, _, _, _, _, _, _, by rw [HG.out, Hg.out]; rfl, Hx0.out, rfl, only_drew hGF⟩)
  clear x0 x1 x2 x3 r0 r1 r2 r3 t0 t1 t2 t3 hF hGF hrF
  exact bodyPost_ret (v := .tuple #[.agg #[.int .u8 99, .int .i64 0, .string ⟨#[]⟩, .slice none 0 0], .int .i64 x]) (by simp [results, Tryz.results124, go_sem, q0, q1, q2, q3]) rfl HF.out
set_option maxHeartbeats 4000000 in
set_option maxRecDepth 100000 in
theorem rget_117 (h : Rd3 w g r 0) (hr : r.length ≤ 1000000) : Calls Tryz.prog 124 #[.pointer (some ⟨g, 0, none⟩), .int .u8 117] w (GetQ 117 w g r) := by
 have hlt := Blk.lt h
 obtain ⟨W0, hW0⟩ : ∃ W0, W0 = (w.alloc (.cells #[.int .u8 0, .int .i64 0, .string ⟨#[]⟩, .slice none 0 0] 67)).alloc (.cells #[.int .u8 117, .int .i64 0, .string ⟨#[]⟩, .slice none 0 0] 67) := ⟨_, rfl⟩
 have hb0 : Below w.heap.size w W0 := by rw [hW0]; exact bel_by
 have hz0 : W0.heap.size = w.heap.size + 2 := by rw [hW0]; simp
 have hR0 : Blk W0 w.heap.size 67 #[.int .u8 0, .int .i64 0, .string ⟨#[]⟩, .slice none 0 0] := by rw [hW0]; exact (Blk.new w _ _).alloc _
 have hX0 : Blk W0 (w.heap.size + 1) 67 #[.int .u8 117, .int .i64 0, .string ⟨#[]⟩, .slice none 0 0] := by rw [hW0]; simpa using Blk.new (w.alloc (.cells #[.int .u8 0, .int .i64 0, .string ⟨#[]⟩, .slice none 0 0] 67)) 67 #[.int .u8 117, .int .i64 0, .string ⟨#[]⟩, .slice none 0 0]
 have hr0 : Rd3 W0 g r 0 := h.below hb0
 have HC := hide (r3u32_any hr0 hr)
 have HG := hide (getF_117 (k := 117) r rfl)
 have ng0 : g ≠ w.heap.size := by omega
 have ng1 : g ≠ w.heap.size + 1 := by omega
 go_enter Tryz.func124, Tryz.ntmps124
 go_upto_region 2 with fail
 rw [← hW0]
 clear hW0
 go_wp2_with fail
 refine HC.out.mono ?_
 rintro e w1 (⟨a, r', hg, rfl, hr1, ho1⟩ | ⟨x, r', hg, hx0, rfl, hr1, ho1⟩)
 ·have hX1 := hX0.grown ho1 (fun e => ng1 (Option.some.inj e).symm)
  have hR1 := hR0.grown ho1 (fun e => ng0 (Option.some.inj e).symm)
  have hG1 : w.grownBy w1 (some g) := only_trans (only_of_below hb0 _) ho1
  have hw : IntKind.i64.wrap ((a : Nat) : Int) = a := wrap_small _ (by omega) (by have := (gU32_get hg).2; omega)
  have Hg := hide hg
  clear hg ho1
  have k1 := hX1.cell 1
  have f1 := hX1.frozen 1
  simp only [List.getElem?_toArray, List.getElem?_cons_zero, List.getElem?_cons_succ] at k1
  have hX2 := hX1.set_ 1 (.int .i64 a)
  have hR2 := hR1.far (p := ⟨w.heap.size + 1, 1, none⟩) (by simp) (.int .i64 a)
  have hr2 : Rd3 (w1.setCell ⟨w.heap.size + 1, 1, none⟩ (.int .i64 a)) g r' 0 := Blk.far hr1 (p := ⟨w.heap.size + 1, 1, none⟩) ng1 (.int .i64 a)
  have hG2 : w.grownBy (w1.setCell ⟨w.heap.size + 1, 1, none⟩ (.int .i64 a)) (some g) := only_setCell hG1 (.inr (by simp)) _
  go_upto_region 27 with fail
  generalize w1.setCell ⟨w.heap.size + 1, 1, none⟩ (.int .i64 a) = w5 at hX2 hR2 hr2 hG2 ⊢
  clear k1 f1 hX1 hR1 hr1 hG1
  have x0 := hX2.cell 0
  have x1 := hX2.cell 1
  have x2 := hX2.cell 2
  have x3 := hX2.cell 3
  have r0 := hR2.cell 0
  have r1 := hR2.cell 1
  have r2 := hR2.cell 2
  have r3 := hR2.cell 3
  have t0 := hR2.frozen 0
  have t1 := hR2.frozen 1
  have t2 := hR2.frozen 2
  have t3 := hR2.frozen 3
  simp at x0 x1 x2 x3 r0 r1 r2 r3
  have e1 : w5.cell? ⟨g, 1, none⟩ = some (.int .i64 0) := Blk.cell hr2 1
  have hF := fin4 hR2 (.int .u8 117) (.int .i64 a) (.string ⟨#[]⟩) (.slice none 0 0)
  have hGF := only_fin4 hG2 (Nat.le_refl w.heap.size) (.int .u8 117) (.int .i64 a) (.string ⟨#[]⟩) (.slice none 0 0)
  have hrF := rd3_fin4 hr2 ng0 (.int .u8 117) (.int .i64 a) (.string ⟨#[]⟩) (.slice none 0 0)
  clear hX2 hR2 hr2 hG2 HC hX0 hR0 hb0 hz0 hr0
  go_region
  go_wp2_with fail
  generalize (((w5.setCell ⟨w.heap.size, 0, none⟩ (.int .u8 117)).setCell ⟨w.heap.size, 1, none⟩ (.int .i64 a)).setCell ⟨w.heap.size, 2, none⟩ (.string ⟨#[]⟩)).setCell ⟨w.heap.size, 3, none⟩ (.slice none 0 0) = wF at hF hGF hrF ⊢
  have q0 := hF.cell 0
  have q1 := hF.cell 1
  have q2 := hF.cell 2
  have q3 := hF.cell 3
  simp at q0 q1 q2 q3
  have HF := hide (show GetQ 117 w g r (.returned (.tuple #[.agg #[.int .u8 117, .int .i64 a, .string ⟨#[]⟩, .slice none 0 0], .int .i64 0])) wF.drew from .inl ⟨⟨117, a, [], []⟩, .slice none 0 0, r', by rw [HG.out, Hg.out]; rfl, rfl, newC_nil _ _ _, Blk.drew hrF, only_drew hGF⟩)
  clear x0 x1 x2 x3 r0 r1 r2 r3 t0 t1 t2 t3 hF hGF hrF
  exact bodyPost_ret (v := .tuple #[.agg #[.int .u8 117, .int .i64 a, .string ⟨#[]⟩, .slice none 0 0], .int .i64 0]) (by simp [results, Tryz.results124, go_sem, q0, q1, q2, q3]) rfl HF.out
 ·have hX1 := hX0.grown ho1 (fun e => ng1 (Option.some.inj e).symm)
  have hR1 := hR0.grown ho1 (fun e => ng0 (Option.some.inj e).symm)
  have hG1 : w.grownBy w1 (some g) := only_trans (only_of_below hb0 _) ho1
  have Hg := hide hg
  have Hx0 := hide hx0
  clear hg ho1 hx0
  have k1 := hX1.cell 1
  have f1 := hX1.frozen 1
  simp only [List.getElem?_toArray, List.getElem?_cons_zero, List.getElem?_cons_succ] at k1
  have hX2 := hX1.set_ 1 (.int .i64 0)
  have hR2 := hR1.far (p := ⟨w.heap.size + 1, 1, none⟩) (by simp) (.int .i64 0)
  have hr2 : Rd3 (w1.setCell ⟨w.heap.size + 1, 1, none⟩ (.int .i64 0)) g r' x := Blk.far hr1 (p := ⟨w.heap.size + 1, 1, none⟩) ng1 (.int .i64 0)
  have hG2 : w.grownBy (w1.setCell ⟨w.heap.size + 1, 1, none⟩ (.int .i64 0)) (some g) := only_setCell hG1 (.inr (by simp)) _
  go_upto_region 27 with fail
  generalize w1.setCell ⟨w.heap.size + 1, 1, none⟩ (.int .i64 0) = w5 at hX2 hR2 hr2 hG2 ⊢
  clear k1 f1 hX1 hR1 hr1 hG1
  have x0 := hX2.cell 0
  have x1 := hX2.cell 1
  have x2 := hX2.cell 2
  have x3 := hX2.cell 3
  have r0 := hR2.cell 0
  have r1 := hR2.cell 1
  have r2 := hR2.cell 2
  have r3 := hR2.cell 3
  have t0 := hR2.frozen 0
  have t1 := hR2.frozen 1
  have t2 := hR2.frozen 2
  have t3 := hR2.frozen 3
  simp at x0 x1 x2 x3 r0 r1 r2 r3
  have e1 : w5.cell? ⟨g, 1, none⟩ = some (.int .i64 x) := Blk.cell hr2 1
  have hF := fin4 hR2 (.int .u8 117) (.int .i64 0) (.string ⟨#[]⟩) (.slice none 0 0)
  have hGF := only_fin4 hG2 (Nat.le_refl w.heap.size) (.int .u8 117) (.int .i64 0) (.string ⟨#[]⟩) (.slice none 0 0)
  have hrF := rd3_fin4 hr2 ng0 (.int .u8 117) (.int .i64 0) (.string ⟨#[]⟩) (.slice none 0 0)
  clear hX2 hR2 hr2 hG2 HC hX0 hR0 hb0 hz0 hr0
  go_region
  go_wp2_with fail
  generalize (((w5.setCell ⟨w.heap.size, 0, none⟩ (.int .u8 117)).setCell ⟨w.heap.size, 1, none⟩ (.int .i64 0)).setCell ⟨w.heap.size, 2, none⟩ (.string ⟨#[]⟩)).setCell ⟨w.heap.size, 3, none⟩ (.slice none 0 0) = wF at hF hGF hrF ⊢
  have q0 := hF.cell 0
  have q1 := hF.cell 1
  have q2 := hF.cell 2
  have q3 := hF.cell 3
  simp at q0 q1 q2 q3
  have HF := hide (show GetQ 117 w g r (.returned (.tuple #[.agg #[.int .u8 117, .int .i64 0, .string ⟨#[]⟩, .slice none 0 0], .int .i64 x])) wF.drew from .inr ⟨x, _, _, _, _, _, _, by rw [HG.out, Hg.out]; rfl, Hx0.out, rfl, only_drew hGF⟩)
  clear x0 x1 x2 x3 r0 r1 r2 r3 t0 t1 t2 t3 hF hGF hrF
  exact bodyPost_ret (v := .tuple #[.agg #[.int .u8 117, .int .i64 0, .string ⟨#[]⟩, .slice none 0 0], .int .i64 x]) (by simp [results, Tryz.results124, go_sem, q0, q1, q2, q3]) rfl HF.out
set_option maxHeartbeats 4000000 in
set_option maxRecDepth 100000 in
theorem rget_98 (h : Rd3 w g r 0) (hr : r.length ≤ 1000000) : Calls Tryz.prog 124 #[.pointer (some ⟨g, 0, none⟩), .int .u8 98] w (GetQ 98 w g r) := by
 have hlt := Blk.lt h
 obtain ⟨W0, hW0⟩ : ∃ W0, W0 = (w.alloc (.cells #[.int .u8 0, .int .i64 0, .string ⟨#[]⟩, .slice none 0 0] 67)).alloc (.cells #[.int .u8 98, .int .i64 0, .string ⟨#[]⟩, .slice none 0 0] 67) := ⟨_, rfl⟩
 have hb0 : Below w.heap.size w W0 := by rw [hW0]; exact bel_by
 have hz0 : W0.heap.size = w.heap.size + 2 := by rw [hW0]; simp
 have hR0 : Blk W0 w.heap.size 67 #[.int .u8 0, .int .i64 0, .string ⟨#[]⟩, .slice none 0 0] := by rw [hW0]; exact (Blk.new w _ _).alloc _
 have hX0 : Blk W0 (w.heap.size + 1) 67 #[.int .u8 98, .int .i64 0, .string ⟨#[]⟩, .slice none 0 0] := by rw [hW0]; simpa using Blk.new (w.alloc (.cells #[.int .u8 0, .int .i64 0, .string ⟨#[]⟩, .slice none 0 0] 67)) 67 #[.int .u8 98, .int .i64 0, .string ⟨#[]⟩, .slice none 0 0]
 have hr0 : Rd3 W0 g r 0 := h.below hb0
 have HC := hide (r3bool_any hr0 hr)
 have HG := hide (getF_98 (k := 98) r rfl)
 have ng0 : g ≠ w.heap.size := by omega
 have ng1 : g ≠ w.heap.size + 1 := by omega
 go_enter Tryz.func124, Tryz.ntmps124
 go_upto_region 2 with fail
 rw [← hW0]
 clear hW0
 go_wp2_with fail
 refine HC.out.mono ?_
 rintro e w1 (⟨a, r', hg, rfl, hr1, ho1⟩ | ⟨x, r', hg, hx0, rfl, hr1, ho1⟩)
 ·have hX1 := hX0.grown ho1 (fun e => ng1 (Option.some.inj e).symm)
  have hR1 := hR0.grown ho1 (fun e => ng0 (Option.some.inj e).symm)
  have hG1 : w.grownBy w1 (some g) := only_trans (only_of_below hb0 _) ho1
  have h01 := gBool_01 hg
  have Hg := hide hg
  clear hg ho1
  rcases h01 with rfl | rfl
  ·go_upto_region 27 with fail
   have hX2 := hX1
   have hR2 := hR1
   have hr2 := hr1
   have hG2 := hG1
   clear hX1 hR1 hr1 hG1
   generalize w1 = w5 at hX2 hR2 hr2 hG2 ⊢
   have x0 := hX2.cell 0
   have x1 := hX2.cell 1
   have x2 := hX2.cell 2
   have x3 := hX2.cell 3
   have r0 := hR2.cell 0
   have r1 := hR2.cell 1
   have r2 := hR2.cell 2
   have r3 := hR2.cell 3
   have t0 := hR2.frozen 0
   have t1 := hR2.frozen 1
   have t2 := hR2.frozen 2
   have t3 := hR2.frozen 3
   simp at x0 x1 x2 x3 r0 r1 r2 r3
   have e1 : w5.cell? ⟨g, 1, none⟩ = some (.int .i64 0) := Blk.cell hr2 1
   have hF := fin4 hR2 (.int .u8 98) (.int .i64 0) (.string ⟨#[]⟩) (.slice none 0 0)
   have hGF := only_fin4 hG2 (Nat.le_refl w.heap.size) (.int .u8 98) (.int .i64 0) (.string ⟨#[]⟩) (.slice none 0 0)
   have hrF := rd3_fin4 hr2 ng0 (.int .u8 98) (.int .i64 0) (.string ⟨#[]⟩) (.slice none 0 0)
   clear hX2 hR2 hr2 hG2 HC hX0 hR0 hb0 hz0 hr0
   go_region
   go_wp2_with fail
   generalize (((w5.setCell ⟨w.heap.size, 0, none⟩ (.int .u8 98)).setCell ⟨w.heap.size, 1, none⟩ (.int .i64 0)).setCell ⟨w.heap.size, 2, none⟩ (.string ⟨#[]⟩)).setCell ⟨w.heap.size, 3, none⟩ (.slice none 0 0) = wF at hF hGF hrF ⊢
   have q0 := hF.cell 0
   have q1 := hF.cell 1
   have q2 := hF.cell 2
   have q3 := hF.cell 3
   simp at q0 q1 q2 q3
   have HF := hide (show GetQ 98 w g r (.returned (.tuple #[.agg #[.int .u8 98, .int .i64 0, .string ⟨#[]⟩, .slice none 0 0], .int .i64 0])) wF.drew from .inl ⟨⟨98, 0, [], []⟩, .slice none 0 0, r', by rw [HG.out, Hg.out]; rfl, rfl, newC_nil _ _ _, Blk.drew hrF, only_drew hGF⟩)
   clear x0 x1 x2 x3 r0 r1 r2 r3 t0 t1 t2 t3 hF hGF hrF
   exact bodyPost_ret (v := .tuple #[.agg #[.int .u8 98, .int .i64 0, .string ⟨#[]⟩, .slice none 0 0], .int .i64 0]) (by simp [results, Tryz.results124, go_sem, q0, q1, q2, q3]) rfl HF.out
  ·have k1 := hX1.cell 1
   have f1 := hX1.frozen 1
   simp only [List.getElem?_toArray, List.getElem?_cons_zero, List.getElem?_cons_succ] at k1
   have hX2 := hX1.set_ 1 (.int .i64 1)
   have hR2 := hR1.far (p := ⟨w.heap.size + 1, 1, none⟩) (by simp) (.int .i64 1)
   have hr2 : Rd3 (w1.setCell ⟨w.heap.size + 1, 1, none⟩ (.int .i64 1)) g r' 0 := Blk.far hr1 (p := ⟨w.heap.size + 1, 1, none⟩) ng1 (.int .i64 1)
   have hG2 : w.grownBy (w1.setCell ⟨w.heap.size + 1, 1, none⟩ (.int .i64 1)) (some g) := only_setCell hG1 (.inr (by simp)) _
   go_upto_region 27 with fail
   generalize w1.setCell ⟨w.heap.size + 1, 1, none⟩ (.int .i64 1) = w5 at hX2 hR2 hr2 hG2 ⊢
   clear k1 f1 hX1 hR1 hr1 hG1
   have x0 := hX2.cell 0
   have x1 := hX2.cell 1
   have x2 := hX2.cell 2
   have x3 := hX2.cell 3
   have r0 := hR2.cell 0
   have r1 := hR2.cell 1
   have r2 := hR2.cell 2
   have r3 := hR2.cell 3
   have t0 := hR2.frozen 0
   have t1 := hR2.frozen 1
   have t2 := hR2.frozen 2
   have t3 := hR2.frozen 3
   simp at x0 x1 x2 x3 r0 r1 r2 r3
   have e1 : w5.cell? ⟨g, 1, none⟩ = some (.int .i64 0) := Blk.cell hr2 1
   have hF := fin4 hR2 (.int .u8 98) (.int .i64 1) (.string ⟨#[]⟩) (.slice none 0 0)
   have hGF := only_fin4 hG2 (Nat.le_refl w.heap.size) (.int .u8 98) (.int .i64 1) (.string ⟨#[]⟩) (.slice none 0 0)
   have hrF := rd3_fin4 hr2 ng0 (.int .u8 98) (.int .i64 1) (.string ⟨#[]⟩) (.slice none 0 0)
   clear hX2 hR2 hr2 hG2 HC hX0 hR0 hb0 hz0 hr0
   go_region
   go_wp2_with fail
   generalize (((w5.setCell ⟨w.heap.size, 0, none⟩ (.int .u8 98)).setCell ⟨w.heap.size, 1, none⟩ (.int .i64 1)).setCell ⟨w.heap.size, 2, none⟩ (.string ⟨#[]⟩)).setCell ⟨w.heap.size, 3, none⟩ (.slice none 0 0) = wF at hF hGF hrF ⊢
   have q0 := hF.cell 0
   have q1 := hF.cell 1
   have q2 := hF.cell 2
   have q3 := hF.cell 3
   simp at q0 q1 q2 q3
   have HF := hide (show GetQ 98 w g r (.returned (.tuple #[.agg #[.int .u8 98, .int .i64 1, .string ⟨#[]⟩, .slice none 0 0], .int .i64 0])) wF.drew from .inl ⟨⟨98, 1, [], []⟩, .slice none 0 0, r', by rw [HG.out, Hg.out]; rfl, rfl, newC_nil _ _ _, Blk.drew hrF, only_drew hGF⟩)
   clear x0 x1 x2 x3 r0 r1 r2 r3 t0 t1 t2 t3 hF hGF hrF
   exact bodyPost_ret (v := .tuple #[.agg #[.int .u8 98, .int .i64 1, .string ⟨#[]⟩, .slice none 0 0], .int .i64 0]) (by simp [results, Tryz.results124, go_sem, q0, q1, q2, q3]) rfl HF.out
 ·have hX1 := hX0.grown ho1 (fun e => ng1 (Option.some.inj e).symm)
  have hR1 := hR0.grown ho1 (fun e => ng0 (Option.some.inj e).symm)
  have hG1 : w.grownBy w1 (some g) := only_trans (only_of_below hb0 _) ho1
  have Hg := hide hg
  have Hx0 := hide hx0
  clear hg ho1 hx0
  go_upto_region 27 with fail
  have hX2 := hX1
  have hR2 := hR1
  have hr2 := hr1
  have hG2 := hG1
  clear hX1 hR1 hr1 hG1
  generalize w1 = w5 at hX2 hR2 hr2 hG2 ⊢
  have x0 := hX2.cell 0
  have x1 := hX2.cell 1
  have x2 := hX2.cell 2
  have x3 := hX2.cell 3
  have r0 := hR2.cell 0
  have r1 := hR2.cell 1
  have r2 := hR2.cell 2
  have r3 := hR2.cell 3
  have t0 := hR2.frozen 0
  have t1 := hR2.frozen 1
  have t2 := hR2.frozen 2
  have t3 := hR2.frozen 3
  simp at x0 x1 x2 x3 r0 r1 r2 r3
  have e1 : w5.cell? ⟨g, 1, none⟩ = some (.int .i64 x) := Blk.cell hr2 1
  have hF := fin4 hR2 (.int .u8 98) (.int .i64 0) (.string ⟨#[]⟩) (.slice none 0 0)
  have hGF := only_fin4 hG2 (Nat.le_refl w.heap.size) (.int .u8 98) (.int .i64 0) (.string ⟨#[]⟩) (.slice none 0 0)
  have hrF := rd3_fin4 hr2 ng0 (.int .u8 98) (.int .i64 0) (.string ⟨#[]⟩) (.slice none 0 0)
  clear hX2 hR2 hr2 hG2 HC hX0 hR0 hb0 hz0 hr0
  go_region
  go_wp2_with fail
  generalize (((w5.setCell ⟨w.heap.size, 0, none⟩ (.int .u8 98)).setCell ⟨w.heap.size, 1, none⟩ (.int .i64 0)).setCell ⟨w.heap.size, 2, none⟩ (.string ⟨#[]⟩)).setCell ⟨w.heap.size, 3, none⟩ (.slice none 0 0) = wF at hF hGF hrF ⊢
  have q0 := hF.cell 0
  have q1 := hF.cell 1
  have q2 := hF.cell 2
  have q3 := hF.cell 3
  simp at q0 q1 q2 q3
  have HF := hide (show GetQ 98 w g r (.returned (.tuple #[.agg #[.int .u8 98, .int .i64 0, .string ⟨#[]⟩, .slice none 0 0], .int .i64 x])) wF.drew from .inr ⟨x, _, _, _, _, _, _, by rw [HG.out, Hg.out]; rfl, Hx0.out, rfl, only_drew hGF⟩)
  clear x0 x1 x2 x3 r0 r1 r2 r3 t0 t1 t2 t3 hF hGF hrF
  exact bodyPost_ret (v := .tuple #[.agg #[.int .u8 98, .int .i64 0, .string ⟨#[]⟩, .slice none 0 0], .int .i64 x]) (by simp [results, Tryz.results124, go_sem, q0, q1, q2, q3]) rfl HF.out
end
end Go.Proofs.YtmgfcjpifkoahaaGreatDoor
