/-
 The contract of kexinit's Parse. Conditions: payloads of at most 1,000,000 bytes; the library's own number is there.
-/
import Derived.Test.YtjaipdenahlheaaGreatDoorKKxJG
import Derived.Test.YtjaipdenahlheaaGreatDoorKKx6
set_option linter.unusedVariables false
set_option linter.unusedSimpArgs false
namespace Go.Proofs.YtjaipdenahlheaaGreatDoor
open Go.RowKit Go.ChangeShapes Go.WideShapes Go.Sort
def ParE (D : DecR) (ps : List (List UInt8)) (k : Nat) : Prop :=
 (∃ qs, decErr D = some (qs, k) ∧ ps = kexB :: qs) ∨ (∃ n l, D = .ok n l ∧ n ≠ 20 ∧ ps = [kexB] ∧ k = 6) ∨
  (∃ ck l1 more f u, D = .ok 20 (kexFs ck (l1 :: more) f u) ∧ more.length = 9 ∧ (f = 0 ∨ f = 1) ∧ (markedL (splitM l1).rest = true ∨ u ≠ 0) ∧ ps = [kexB] ∧ k = 3)
def ParP (p : List UInt8) (w : World) (e : Ending) (w' : World) : Prop :=
 Below w.heap.size w w' ∧
  ((∃ ck l1 l2 l3 l4 l5 l6 l7 l8 l9 l10 f, ∃ A0 n0 c0 A1 n1 c1 A2 n2 c2 A3 n3 c3 A4 n4 c4 A5 n5 c5 A6 n6 c6 A7 n7 c7 A8 n8 c8 A9 n9 c9, decS p = .ok 20 (kexFs ck [l1, l2, l3, l4, l5, l6, l7, l8, l9, l10] f 0) ∧ (f = 0 ∨ f = 1) ∧ markedL (splitM l1).rest = false ∧
   e = .returned (.tuple #[.agg #[.string (bs ck), .slice A0 n0 c0, .slice A1 n1 c1, .slice A2 n2 c2, .slice A3 n3 c3, .slice A4 n4 c4, .slice A5 n5 c5, .slice A6 n6 c6, .slice A7 n7 c7, .slice A8 n8 c8, .slice A9 n9 c9, .bool (splitM l1).a, .bool (splitM l1).b, .bool (splitM l1).c, .bool (splitM l1).d, .bool (f == 1)], .nilIface]) ∧
   AllC w' [.slice A0 n0 c0, .slice A1 n1 c1, .slice A2 n2 c2, .slice A3 n3 c3, .slice A4 n4 c4, .slice A5 n5 c5, .slice A6 n6 c6, .slice A7 n7 c7, .slice A8 n8 c8, .slice A9 n9 c9] [(splitM l1).rest, l2, l3, l4, l5, l6, l7, l8, l9, l10]) ∨
  (∃ b ps, ∃ k : Nat, ParE (decS p) ps k ∧ e = .returned (.tuple #[.agg #[.string ⟨#[]⟩, .slice none 0 0, .slice none 0 0, .slice none 0 0, .slice none 0 0, .slice none 0 0, .slice none 0 0, .slice none 0 0, .slice none 0 0, .slice none 0 0, .slice none 0 0, .bool false, .bool false, .bool false, .bool false, .bool false], errV b]) ∧ IsErr w' (errV b) ps k))
theorem fieldF_l (x0 x1 : Int) (x3 : ByteArray) (A : Option Addr) (n c : Nat) (w : World) : (Instr.field 83 (.agg #[.int .u8 x0, .int .i64 x1, .string x3, .slice A n c]) 3).run Tryz.prog w = .ok (.slice A n c) w := by kernel_rfl
theorem fieldF_s (x0 x1 : Int) (x3 : ByteArray) (A : Option Addr) (n c : Nat) (w : World) : (Instr.field 83 (.agg #[.int .u8 x0, .int .i64 x1, .string x3, .slice A n c]) 2).run Tryz.prog w = .ok (.string x3) w := by kernel_rfl
theorem fieldF_n (x0 x1 : Int) (x3 : ByteArray) (A : Option Addr) (n c : Nat) (w : World) : (Instr.field 83 (.agg #[.int .u8 x0, .int .i64 x1, .string x3, .slice A n c]) 1).run Tryz.prog w = .ok (.int .i64 x1) w := by kernel_rfl
structure RowI (w5 : World) (vs : List Value) (i : Nat) (A : Option Addr) (n c : Nat) (W : World) : Prop where
 bel : Below w5.heap.size w5 W
 len : n = i
 own : W.ownsRow w5.heap.size 22 1 (.slice A n c) n (vs.take i)
set_option maxHeartbeats 40000000 in
set_option maxRecDepth 100000 in
theorem parse16_a {w : World} (pl : ByteArray) (hpl : pl.size ≤ 1000000) (hM : MaxL w) (hok : ∀ l, decS pl.data.toList ≠ .ok 20 l) : Calls Tryz.prog 18 #[.string pl] w (ParP pl.data.toList w) := by
 obtain ⟨W0, hW0⟩ : ∃ W0, W0 = w.alloc (.cells #[.string ⟨#[]⟩, .slice none 0 0, .slice none 0 0, .slice none 0 0, .slice none 0 0, .slice none 0 0, .slice none 0 0, .slice none 0 0, .slice none 0 0, .slice none 0 0, .slice none 0 0, .bool false, .bool false, .bool false, .bool false, .bool false] 45) := ⟨_, rfl⟩
 have hb0 : Below w.heap.size w W0 := by rw [hW0]; (repeat (first | exact Below.refl _ _ | refine below_drewN ?_ _ | refine Below.drew ?_ | refine Below.alloc ?_ (by first | omega | (simp; done) | (simp; omega)) _ | refine Below.setCell ?_ (by first | omega | (simp; done) | (simp; omega)) _ | refine bel_alloc ?_ _ | refine bel_trans ?_ (by assumption) | refine Below.trans ?_ (Below.mono (by assumption) (by first | omega | (simp; done) | (simp; omega)))))
 have hR0 : Blk W0 w.heap.size 45 #[.string ⟨#[]⟩, .slice none 0 0, .slice none 0 0, .slice none 0 0, .slice none 0 0, .slice none 0 0, .slice none 0 0, .slice none 0 0, .slice none 0 0, .slice none 0 0, .slice none 0 0, .bool false, .bool false, .bool false, .bool false, .bool false] := by rw [hW0]; exact Blk.new w _ _
 have HOK := hide hok
 clear hok
 have HD := hide (decode_anyN (w := W0) pl hpl (hM.below hb0))
 have HX := hide (And.intro hb0 hR0)
 clear hb0 hR0 hM hpl
 go_enter Tryz.func18, Tryz.ntmps18
 go_upto_region 1 with fail
 rw [← hW0]
 clear hW0
 go_wp2_with fail
 refine HD.out.mono ?_
 rintro e w1 ⟨hb1, hr1⟩
 have hb01 := HX.out.1.trans (hb1.mono HX.out.1.size)
 have hR1 := HX.out.2.below hb1 HX.out.2.lt
 have HS := hide (And.intro hb01 hR1)
 have hrlt := hR1.lt
 clear HD hb1 hb01 hR1
 rcases hr1 with ⟨num, l, A, c, hd, rfl, hF⟩ | ⟨b, ps, k, hk, rfl, hi⟩
 ·by_cases hn : num = 20
  ·subst hn
   exact absurd hd (HOK.out l)
  ·have HE := hide (show ParE (decS pl.data.toList) [kexB] 6 from .inr (.inl ⟨num, l, hd, hn, rfl, rfl⟩))
   have hne : (((num : Nat) : Int) == 20) = false := by rw [beq_eq_false_iff_ne]; omega
   have HI := hide (fun (W : World) => show Calls Tryz.prog 49 #[.agg #[.int .i64 (num : Nat), .slice A l.length c], .int .i64 20, .int .i64 13] W (fun e w' => e = .returned (.bool false) ∧ Below W.heap.size W w') from by have := is07_any (num : Nat) 20 13 (A := A) (n := l.length) (c := c) W; rwa [hne, Bool.false_and] at this)
   have HO := hide (fun (W : World) => fof_any ⟨#[107, 101, 120, 105, 110, 105, 116]⟩ 6 (by decide) W)
   have HB7 := hide (Blk.new w1 86 #[.int .i64 (num : Nat), .slice A l.length c])
   have HBX := hide ((Below.refl w1.heap.size w1).alloc (Nat.le_refl _) (.cells #[.int .i64 (num : Nat), .slice A l.length c] 86))
   generalize l.length = nl at HI HB7 HBX ⊢
   clear hd hn hne hF
   go_wp2_with (first
    | (go_at_call 49; refine (HI.out _).mono ?_; rintro e w2 ⟨rfl, hb2⟩)
    | (go_at_call 39; refine (HO.out _).mono ?_; rintro e w3 ⟨q, rfl, hiz, hb3⟩; have hb13 := HBX.out.trans ((hb2.trans (hb3.mono hb2.size)).mono HBX.out.size); have hRz := HS.out.2.below hb13 HS.out.2.lt; have hbz := HS.out.1.trans (hb13.mono HS.out.1.size); have r0 := hRz.cell 0; have t0 := hRz.frozen 0; have r1 := hRz.cell 1; have t1 := hRz.frozen 1; have r2 := hRz.cell 2; have t2 := hRz.frozen 2; have r3 := hRz.cell 3; have t3 := hRz.frozen 3; have r4 := hRz.cell 4; have t4 := hRz.frozen 4; have r5 := hRz.cell 5; have t5 := hRz.frozen 5; have r6 := hRz.cell 6; have t6 := hRz.frozen 6; have r7 := hRz.cell 7; have t7 := hRz.frozen 7; have r8 := hRz.cell 8; have t8 := hRz.frozen 8; have r9 := hRz.cell 9; have t9 := hRz.frozen 9; have r10 := hRz.cell 10; have t10 := hRz.frozen 10; have r11 := hRz.cell 11; have t11 := hRz.frozen 11; have r12 := hRz.cell 12; have t12 := hRz.frozen 12; have r13 := hRz.cell 13; have t13 := hRz.frozen 13; have r14 := hRz.cell 14; have t14 := hRz.frozen 14; have r15 := hRz.cell 15; have t15 := hRz.frozen 15; simp at r0 r1 r2 r3 r4 r5 r6 r7 r8 r9 r10 r11 r12 r13 r14 r15)
    | fail)
   obtain ⟨wF, hwF⟩ : ∃ wF, wF = sto16 w3 w.heap.size (.string ⟨#[]⟩) (.slice none 0 0) (.slice none 0 0) (.slice none 0 0) (.slice none 0 0) (.slice none 0 0) (.slice none 0 0) (.slice none 0 0) (.slice none 0 0) (.slice none 0 0) (.slice none 0 0) (.bool false) (.bool false) (.bool false) (.bool false) (.bool false) := ⟨_, rfl⟩
   have hF := sto16_blk hRz (.string ⟨#[]⟩) (.slice none 0 0) (.slice none 0 0) (.slice none 0 0) (.slice none 0 0) (.slice none 0 0) (.slice none 0 0) (.slice none 0 0) (.slice none 0 0) (.slice none 0 0) (.slice none 0 0) (.bool false) (.bool false) (.bool false) (.bool false) (.bool false)
   have hbF := sto16_bel (r := w.heap.size) hbz (Nat.le_refl _) (.string ⟨#[]⟩) (.slice none 0 0) (.slice none 0 0) (.slice none 0 0) (.slice none 0 0) (.slice none 0 0) (.slice none 0 0) (.slice none 0 0) (.slice none 0 0) (.slice none 0 0) (.slice none 0 0) (.bool false) (.bool false) (.bool false) (.bool false) (.bool false)
   have hiF := sto16_err hRz hiz (.string ⟨#[]⟩) (.slice none 0 0) (.slice none 0 0) (.slice none 0 0) (.slice none 0 0) (.slice none 0 0) (.slice none 0 0) (.slice none 0 0) (.slice none 0 0) (.slice none 0 0) (.slice none 0 0) (.bool false) (.bool false) (.bool false) (.bool false) (.bool false)
   have hch : ((((((((((((((((w3.setCell ⟨w.heap.size, 0, none⟩ (.string ⟨#[]⟩)).setCell ⟨w.heap.size, 1, none⟩ (.slice none 0 0)).setCell ⟨w.heap.size, 2, none⟩ (.slice none 0 0)).setCell ⟨w.heap.size, 3, none⟩ (.slice none 0 0)).setCell ⟨w.heap.size, 4, none⟩ (.slice none 0 0)).setCell ⟨w.heap.size, 5, none⟩ (.slice none 0 0)).setCell ⟨w.heap.size, 6, none⟩ (.slice none 0 0)).setCell ⟨w.heap.size, 7, none⟩ (.slice none 0 0)).setCell ⟨w.heap.size, 8, none⟩ (.slice none 0 0)).setCell ⟨w.heap.size, 9, none⟩ (.slice none 0 0)).setCell ⟨w.heap.size, 10, none⟩ (.slice none 0 0)).setCell ⟨w.heap.size, 11, none⟩ (.bool false)).setCell ⟨w.heap.size, 12, none⟩ (.bool false)).setCell ⟨w.heap.size, 13, none⟩ (.bool false)).setCell ⟨w.heap.size, 14, none⟩ (.bool false)).setCell ⟨w.heap.size, 15, none⟩ (.bool false)) = wF := hwF.symm
   rw [← hwF] at hF hbF hiF
   rw [hch]
   clear hwF hch
   try unfold errV at hiF
   clear r0 t0 r1 t1 r2 t2 r3 t3 r4 t4 r5 t5 r6 t6 r7 t7 r8 t8 r9 t9 r10 t10 r11 t11 r12 t12 r13 t13 r14 t14 r15 t15
   have q0 := hF.cell 0
   have q1 := hF.cell 1
   have q2 := hF.cell 2
   have q3 := hF.cell 3
   have q4 := hF.cell 4
   have q5 := hF.cell 5
   have q6 := hF.cell 6
   have q7 := hF.cell 7
   have q8 := hF.cell 8
   have q9 := hF.cell 9
   have q10 := hF.cell 10
   have q11 := hF.cell 11
   have q12 := hF.cell 12
   have q13 := hF.cell 13
   have q14 := hF.cell 14
   have q15 := hF.cell 15
   simp at q0 q1 q2 q3 q4 q5 q6 q7 q8 q9 q10 q11 q12 q13 q14 q15
   have HF := hide (show ParP pl.data.toList w (.returned (.tuple #[.agg #[.string ⟨#[]⟩, .slice none 0 0, .slice none 0 0, .slice none 0 0, .slice none 0 0, .slice none 0 0, .slice none 0 0, .slice none 0 0, .slice none 0 0, .slice none 0 0, .slice none 0 0, .bool false, .bool false, .bool false, .bool false, .bool false], errV q])) wF from ⟨hbF, .inr ⟨q, _, _, HE.out, rfl, hiF⟩⟩)
   clear hF hbF hiF hRz hbz hiz
   unfold errV at HF
   exact bodyPost_ret (v := .tuple #[.agg #[.string ⟨#[]⟩, .slice none 0 0, .slice none 0 0, .slice none 0 0, .slice none 0 0, .slice none 0 0, .slice none 0 0, .slice none 0 0, .slice none 0 0, .slice none 0 0, .slice none 0 0, .bool false, .bool false, .bool false, .bool false, .bool false], .iface 117 (.pointer (some ⟨q, 0, none⟩))]) (by simp [results, Tryz.results18, go_sem, errV, q0, q1, q2, q3, q4, q5, q6, q7, q8, q9, q10, q11, q12, q13, q14, q15]) rfl HF.out
 ·have HE := hide (show ParE (decS pl.data.toList) (kexB :: ps) k from .inl ⟨ps, hk, rfl⟩)
  have HBX := hide ((Below.refl w1.heap.size w1).alloc (Nat.le_refl _) (.cells #[.int .i64 0, .slice none 0 0] 86))
  have HA := hide (fat_any ⟨#[107, 101, 120, 105, 110, 105, 116]⟩ b (hi.below HBX.out))
  clear hk hi
  unfold errV at HA ⊢
  go_wp2_with (first
   | (go_at_call 27; refine HA.out.mono ?_; rintro e w3 ⟨q, rfl, hiz, hb3⟩; have hb13 := HBX.out.trans (hb3.mono HBX.out.size); have hRz := HS.out.2.below hb13 HS.out.2.lt; have hbz := HS.out.1.trans (hb13.mono HS.out.1.size); have r0 := hRz.cell 0; have t0 := hRz.frozen 0; have r1 := hRz.cell 1; have t1 := hRz.frozen 1; have r2 := hRz.cell 2; have t2 := hRz.frozen 2; have r3 := hRz.cell 3; have t3 := hRz.frozen 3; have r4 := hRz.cell 4; have t4 := hRz.frozen 4; have r5 := hRz.cell 5; have t5 := hRz.frozen 5; have r6 := hRz.cell 6; have t6 := hRz.frozen 6; have r7 := hRz.cell 7; have t7 := hRz.frozen 7; have r8 := hRz.cell 8; have t8 := hRz.frozen 8; have r9 := hRz.cell 9; have t9 := hRz.frozen 9; have r10 := hRz.cell 10; have t10 := hRz.frozen 10; have r11 := hRz.cell 11; have t11 := hRz.frozen 11; have r12 := hRz.cell 12; have t12 := hRz.frozen 12; have r13 := hRz.cell 13; have t13 := hRz.frozen 13; have r14 := hRz.cell 14; have t14 := hRz.frozen 14; have r15 := hRz.cell 15; have t15 := hRz.frozen 15; simp at r0 r1 r2 r3 r4 r5 r6 r7 r8 r9 r10 r11 r12 r13 r14 r15)
   | fail)
  obtain ⟨wF, hwF⟩ : ∃ wF, wF = sto16 w3 w.heap.size (.string ⟨#[]⟩) (.slice none 0 0) (.slice none 0 0) (.slice none 0 0) (.slice none 0 0) (.slice none 0 0) (.slice none 0 0) (.slice none 0 0) (.slice none 0 0) (.slice none 0 0) (.slice none 0 0) (.bool false) (.bool false) (.bool false) (.bool false) (.bool false) := ⟨_, rfl⟩
  have hF := sto16_blk hRz (.string ⟨#[]⟩) (.slice none 0 0) (.slice none 0 0) (.slice none 0 0) (.slice none 0 0) (.slice none 0 0) (.slice none 0 0) (.slice none 0 0) (.slice none 0 0) (.slice none 0 0) (.slice none 0 0) (.bool false) (.bool false) (.bool false) (.bool false) (.bool false)
  have hbF := sto16_bel (r := w.heap.size) hbz (Nat.le_refl _) (.string ⟨#[]⟩) (.slice none 0 0) (.slice none 0 0) (.slice none 0 0) (.slice none 0 0) (.slice none 0 0) (.slice none 0 0) (.slice none 0 0) (.slice none 0 0) (.slice none 0 0) (.slice none 0 0) (.bool false) (.bool false) (.bool false) (.bool false) (.bool false)
  have hiF := sto16_err hRz hiz (.string ⟨#[]⟩) (.slice none 0 0) (.slice none 0 0) (.slice none 0 0) (.slice none 0 0) (.slice none 0 0) (.slice none 0 0) (.slice none 0 0) (.slice none 0 0) (.slice none 0 0) (.slice none 0 0) (.bool false) (.bool false) (.bool false) (.bool false) (.bool false)
  have hch : ((((((((((((((((w3.setCell ⟨w.heap.size, 0, none⟩ (.string ⟨#[]⟩)).setCell ⟨w.heap.size, 1, none⟩ (.slice none 0 0)).setCell ⟨w.heap.size, 2, none⟩ (.slice none 0 0)).setCell ⟨w.heap.size, 3, none⟩ (.slice none 0 0)).setCell ⟨w.heap.size, 4, none⟩ (.slice none 0 0)).setCell ⟨w.heap.size, 5, none⟩ (.slice none 0 0)).setCell ⟨w.heap.size, 6, none⟩ (.slice none 0 0)).setCell ⟨w.heap.size, 7, none⟩ (.slice none 0 0)).setCell ⟨w.heap.size, 8, none⟩ (.slice none 0 0)).setCell ⟨w.heap.size, 9, none⟩ (.slice none 0 0)).setCell ⟨w.heap.size, 10, none⟩ (.slice none 0 0)).setCell ⟨w.heap.size, 11, none⟩ (.bool false)).setCell ⟨w.heap.size, 12, none⟩ (.bool false)).setCell ⟨w.heap.size, 13, none⟩ (.bool false)).setCell ⟨w.heap.size, 14, none⟩ (.bool false)).setCell ⟨w.heap.size, 15, none⟩ (.bool false)) = wF := hwF.symm
  rw [← hwF] at hF hbF hiF
  rw [hch]
  clear hwF hch
  try unfold errV at hiF
  clear r0 t0 r1 t1 r2 t2 r3 t3 r4 t4 r5 t5 r6 t6 r7 t7 r8 t8 r9 t9 r10 t10 r11 t11 r12 t12 r13 t13 r14 t14 r15 t15
  have q0 := hF.cell 0
  have q1 := hF.cell 1
  have q2 := hF.cell 2
  have q3 := hF.cell 3
  have q4 := hF.cell 4
  have q5 := hF.cell 5
  have q6 := hF.cell 6
  have q7 := hF.cell 7
  have q8 := hF.cell 8
  have q9 := hF.cell 9
  have q10 := hF.cell 10
  have q11 := hF.cell 11
  have q12 := hF.cell 12
  have q13 := hF.cell 13
  have q14 := hF.cell 14
  have q15 := hF.cell 15
  simp at q0 q1 q2 q3 q4 q5 q6 q7 q8 q9 q10 q11 q12 q13 q14 q15
  have HF := hide (show ParP pl.data.toList w (.returned (.tuple #[.agg #[.string ⟨#[]⟩, .slice none 0 0, .slice none 0 0, .slice none 0 0, .slice none 0 0, .slice none 0 0, .slice none 0 0, .slice none 0 0, .slice none 0 0, .slice none 0 0, .slice none 0 0, .bool false, .bool false, .bool false, .bool false, .bool false], errV q])) wF from ⟨hbF, .inr ⟨q, _, _, HE.out, rfl, hiF⟩⟩)
  clear hF hbF hiF hRz hbz hiz
  unfold errV at HF
  exact bodyPost_ret (v := .tuple #[.agg #[.string ⟨#[]⟩, .slice none 0 0, .slice none 0 0, .slice none 0 0, .slice none 0 0, .slice none 0 0, .slice none 0 0, .slice none 0 0, .slice none 0 0, .slice none 0 0, .slice none 0 0, .bool false, .bool false, .bool false, .bool false, .bool false], .iface 117 (.pointer (some ⟨q, 0, none⟩))]) (by simp [results, Tryz.results18, go_sem, errV, q0, q1, q2, q3, q4, q5, q6, q7, q8, q9, q10, q11, q12, q13, q14, q15]) rfl HF.out
set_option maxHeartbeats 40000000 in
set_option maxRecDepth 100000 in
theorem parse16_d {w : World} (pl : ByteArray) (hpl : pl.size ≤ 1000000) (hM : MaxL w) (hok : (∃ l, decS pl.data.toList = .ok 20 l) ∧ ∀ ck l1 l2 l3 l4 l5 l6 l7 l8 l9 l10 f, decS pl.data.toList = .ok 20 (kexFs ck [l1, l2, l3, l4, l5, l6, l7, l8, l9, l10] f 0) → markedL (splitM l1).rest = true) : Calls Tryz.prog 18 #[.string pl] w (ParP pl.data.toList w) := by
 obtain ⟨W0, hW0⟩ : ∃ W0, W0 = w.alloc (.cells #[.string ⟨#[]⟩, .slice none 0 0, .slice none 0 0, .slice none 0 0, .slice none 0 0, .slice none 0 0, .slice none 0 0, .slice none 0 0, .slice none 0 0, .slice none 0 0, .slice none 0 0, .bool false, .bool false, .bool false, .bool false, .bool false] 45) := ⟨_, rfl⟩
 have hb0 : Below w.heap.size w W0 := by rw [hW0]; (repeat (first | exact Below.refl _ _ | refine below_drewN ?_ _ | refine Below.drew ?_ | refine Below.alloc ?_ (by first | omega | (simp; done) | (simp; omega)) _ | refine Below.setCell ?_ (by first | omega | (simp; done) | (simp; omega)) _ | refine bel_alloc ?_ _ | refine bel_trans ?_ (by assumption) | refine Below.trans ?_ (Below.mono (by assumption) (by first | omega | (simp; done) | (simp; omega)))))
 have hR0 : Blk W0 w.heap.size 45 #[.string ⟨#[]⟩, .slice none 0 0, .slice none 0 0, .slice none 0 0, .slice none 0 0, .slice none 0 0, .slice none 0 0, .slice none 0 0, .slice none 0 0, .slice none 0 0, .slice none 0 0, .bool false, .bool false, .bool false, .bool false, .bool false] := by rw [hW0]; exact Blk.new w _ _
 have HOK := hide hok
 clear hok
 have HD := hide (decode_anyN (w := W0) pl hpl (hM.below hb0))
 have HX := hide (And.intro hb0 hR0)
 clear hb0 hR0 hM hpl
 go_enter Tryz.func18, Tryz.ntmps18
 go_upto_region 1 with fail
 rw [← hW0]
 clear hW0
 go_wp2_with fail
 refine HD.out.mono ?_
 rintro e w1 ⟨hb1, hr1⟩
 have hb01 := HX.out.1.trans (hb1.mono HX.out.1.size)
 have hR1 := HX.out.2.below hb1 HX.out.2.lt
 have HS := hide (And.intro hb01 hR1)
 have hrlt := hR1.lt
 clear HD hb1 hb01 hR1
 rcases hr1 with ⟨num, l, A, c, hd, rfl, hF⟩ | ⟨b, ps, k, hk, rfl, hi⟩
 ·by_cases hn : num = 20
  ·subst hn
   obtain ⟨ck, ls, f, u, hls, hl, hf, hu⟩ := dec_20 hd
   have hlen := dec_len hd
   have hl13 : l.length = 13 := by rw [hl]; simp [kexFs, hls]
   rw [hl13]
   clear hl13
   match ls, hls, hl with
   | [l1, l2, l3, l4, l5, l6, l7, l8, l9, l10], _, hl =>
   subst hl
   obtain ⟨ad, b0, c0, b1, c1, b2, c2, b3, c3, b4, c4, b5, c5, b6, c6, b7, c7, b8, c8, b9, c9, b10, c10, b11, c11, b12, c12, rfl, hP⟩ := hF.par
   have hlenK : ∀ k ∈ [l1, l2, l3, l4, l5, l6, l7, l8, l9, l10], k.length ≤ 1000000 := by
    intro k hk
    have := hlen ⟨110, 0, [], k⟩ (by unfold kexFs; exact List.mem_cons_of_mem _ (List.mem_append_left _ (List.mem_map.2 ⟨k, hk, rfl⟩)))
    have h2 : k.length ≤ 16 := this
    omega
   have hbx := (Below.refl w1.heap.size w1).alloc (Nat.le_refl _) (.cells #[.int .i64 20, .slice (some ad) 13 c] 86)
   have hM5 := Blk.new w1 86 #[.int .i64 20, .slice (some ad) 13 c]
   have hP5 := hP.below hbx
   have hb5 := HS.out.1.trans (hbx.mono HS.out.1.size)
   have hR5 := HS.out.2.below hbx HS.out.2.lt
   have HIs := hide (fun (W : World) => show Calls Tryz.prog 49 #[.agg #[.int .i64 20, .slice (some ad) 13 c], .int .i64 20, .int .i64 13] W (fun e w' => e = .returned (.bool true) ∧ Below W.heap.size W w') from is07_any 20 20 13 (n := 13) W)
   have HW0 := hide (show w.heap.size < W0.heap.size from HX.out.2.lt)
   go_upto_region 2 with fail
   generalize w1.alloc (.cells #[.int .i64 20, .slice (some ad) 13 c] 86) = w5 at hbx hM5 hP5 hb5 hR5 ⊢
   obtain ⟨mb, hmb⟩ : ∃ mb, mb = w1.heap.size := ⟨_, rfl⟩
   rw [← hmb] at hM5
   simp only [← hmb]
   have hmlt := hM5.lt
   have H5 := hide (And.intro hM5 (And.intro hP5 (And.intro hb5 hR5)))
   have HG0 := hide (fun (W : World) (hb : Below w5.heap.size w5 W) => show Calls Tryz.prog 50 #[.agg #[.int .i64 20, .slice (some ad) 13 c], .int .i64 0] W (fun e w' => e = .returned (.agg #[.int .u8 99, .int .i64 0, .string (bs ck), .slice b0 0 c0]) ∧ Below W.heap.size W w') from get07_in 20 0 (by omega) (by omega) ⟨99, 0, ck, []⟩ ((H5.out.2.1.below hb).at_ 0 _ _ rfl rfl).1)
   have HG9 := hide (fun (W : World) (hb : Below w5.heap.size w5 W) => show Calls Tryz.prog 50 #[.agg #[.int .i64 20, .slice (some ad) 13 c], .int .i64 9] W (fun e w' => e = .returned (.agg #[.int .u8 110, .int .i64 0, .string ⟨#[]⟩, .slice b9 l9.length c9]) ∧ Below W.heap.size W w') from get07_in 20 9 (by omega) (by omega) ⟨110, 0, [], l9⟩ ((H5.out.2.1.below hb).at_ 9 _ _ rfl rfl).1)
   have HG10 := hide (fun (W : World) (hb : Below w5.heap.size w5 W) => show Calls Tryz.prog 50 #[.agg #[.int .i64 20, .slice (some ad) 13 c], .int .i64 10] W (fun e w' => e = .returned (.agg #[.int .u8 110, .int .i64 0, .string ⟨#[]⟩, .slice b10 l10.length c10]) ∧ Below W.heap.size W w') from get07_in 20 10 (by omega) (by omega) ⟨110, 0, [], l10⟩ ((H5.out.2.1.below hb).at_ 10 _ _ rfl rfl).1)
   have HG11 := hide (fun (W : World) (hb : Below w5.heap.size w5 W) => show Calls Tryz.prog 50 #[.agg #[.int .i64 20, .slice (some ad) 13 c], .int .i64 11] W (fun e w' => e = .returned (.agg #[.int .u8 98, .int .i64 f, .string ⟨#[]⟩, .slice b11 0 c11]) ∧ Below W.heap.size W w') from get07_in 20 11 (by omega) (by omega) ⟨98, f, [], []⟩ ((H5.out.2.1.below hb).at_ 11 _ _ rfl rfl).1)
   have HG12 := hide (fun (W : World) (hb : Below w5.heap.size w5 W) => show Calls Tryz.prog 50 #[.agg #[.int .i64 20, .slice (some ad) 13 c], .int .i64 12] W (fun e w' => e = .returned (.agg #[.int .u8 117, .int .i64 u, .string ⟨#[]⟩, .slice b12 0 c12]) ∧ Below W.heap.size W w') from get07_in 20 12 (by omega) (by omega) ⟨117, u, [], []⟩ ((H5.out.2.1.below hb).at_ 12 _ _ rfl rfl).1)
   have HGI := hide (fun (W : World) (hb : Below w5.heap.size w5 W) (i : Nat) (hi : i < 8) (B : Option Addr) (n d : Nat) (hv : ([.slice b1 l1.length c1, .slice b2 l2.length c2, .slice b3 l3.length c3, .slice b4 l4.length c4, .slice b5 l5.length c5, .slice b6 l6.length c6, .slice b7 l7.length c7, .slice b8 l8.length c8] : List Value)[i]? = some (.slice B n d)) => show Calls Tryz.prog 50 #[.agg #[.int .i64 20, .slice (some ad) 13 c], .int .i64 ((1 + i : Nat) : Int)] W (fun e w' => e = .returned (.agg #[.int .u8 110, .int .i64 0, .string ⟨#[]⟩, .slice B n d]) ∧ Below W.heap.size W w') from by
    have hl : i < [l1, l2, l3, l4, l5, l6, l7, l8, l9, l10].length := by show i < 10; omega
    have hfx : (kexFs ck [l1, l2, l3, l4, l5, l6, l7, l8, l9, l10] f u)[1 + i]? = some ⟨110, 0, [], [l1, l2, l3, l4, l5, l6, l7, l8, l9, l10][i]⟩ := by
     match i, hi with
     | 0, _ => rfl
     | 1, _ => rfl
     | 2, _ => rfl
     | 3, _ => rfl
     | 4, _ => rfl
     | 5, _ => rfl
     | 6, _ => rfl
     | 7, _ => rfl
    have hvx : ([.slice b0 0 c0, .slice b1 l1.length c1, .slice b2 l2.length c2, .slice b3 l3.length c3, .slice b4 l4.length c4, .slice b5 l5.length c5, .slice b6 l6.length c6, .slice b7 l7.length c7, .slice b8 l8.length c8, .slice b9 l9.length c9, .slice b10 l10.length c10, .slice b11 0 c11, .slice b12 0 c12] : List Value)[1 + i]? = some (.slice B n d) := by
     rw [← hv]
     match i, hi with
     | 0, _ => rfl
     | 1, _ => rfl
     | 2, _ => rfl
     | 3, _ => rfl
     | 4, _ => rfl
     | 5, _ => rfl
     | 6, _ => rfl
     | 7, _ => rfl
    have ha := (H5.out.2.1.below hb).at_ (1 + i) _ _ hfx hvx
    have hn : n = ([l1, l2, l3, l4, l5, l6, l7, l8, l9, l10][i]).length := by
     obtain ⟨_, _, e, _⟩ := ha.2
     injection e
    subst hn
    exact get07_in 20 (1 + i) (by omega) (by omega) ⟨110, 0, [], [l1, l2, l3, l4, l5, l6, l7, l8, l9, l10][i]⟩ ha.1)
   have HD := hide (And.intro hd (And.intro hf hlenK))
   clear hM5 hP5 hb5 hR5 hP hbx hmb hlen hF hd hf hlenK HS
   have HRow0 := hide (show RowI w5 [.slice b1 l1.length c1, .slice b2 l2.length c2, .slice b3 l3.length c3, .slice b4 l4.length c4, .slice b5 l5.length c5, .slice b6 l6.length c6, .slice b7 l7.length c7, .slice b8 l8.length c8] 0 none 0 0 w5 from ⟨Below.refl _ _, rfl, World.ownsRow_nil _ _ _ _⟩)
   have y0 := H5.out.1.cell 0
   have y1 := H5.out.1.cell 1
   simp at y0 y1
   go_wp2_with (first
    | (go_at_call 49; refine (HIs.out _).mono ?_; rintro e w2 ⟨rfl, hb2⟩)
    | fail)
   have HRow0 := hide (show RowI w5 [.slice b1 l1.length c1, .slice b2 l2.length c2, .slice b3 l3.length c3, .slice b4 l4.length c4, .slice b5 l5.length c5, .slice b6 l6.length c6, .slice b7 l7.length c7, .slice b8 l8.length c8] 0 none 0 0 w2 from ⟨hb2, rfl, World.ownsRow_nil _ _ _ _⟩)
   clear hb2 HIs y0 y1
   go_loopw [6, 28, 7] (fun vo vi vj wr => ∃ (i : Nat) (Ai : Option Addr) (n ci : Nat), vo = .slice Ai n ci ∧ vi = .int .i64 i ∧ i ≤ 8 ∧ Hid (RowI w5 [.slice b1 l1.length c1, .slice b2 l2.length c2, .slice b3 l3.length c3, .slice b4 l4.length c4, .slice b5 l5.length c5, .slice b6 l6.length c6, .slice b7 l7.length c7, .slice b8 l8.length c8] i Ai n ci wr)) (fun _ vi _ _ => 8 - (intOf vi).toNat)
   case atStart => exact ⟨0, none, 0, 0, rfl, rfl, Nat.zero_le _, HRow0⟩
   case round =>
    obtain ⟨i, Ai, n, ci, rfl, rfl, hi, HR⟩ := hrel
    have hmw := H5.out.1.below HR.out.bel H5.out.1.lt
    have y0 := hmw.cell 0
    have y1 := hmw.cell 1
    simp at y0 y1
    by_cases hlt : i < 8
    ·have hii : (i : Int) < 8 := by omega
     obtain ⟨B, nb, d, hv⟩ : ∃ B nb d, ([.slice b1 l1.length c1, .slice b2 l2.length c2, .slice b3 l3.length c3, .slice b4 l4.length c4, .slice b5 l5.length c5, .slice b6 l6.length c6, .slice b7 l7.length c7, .slice b8 l8.length c8] : List Value)[i]? = some (.slice B nb d) := by
      match i, hlt with
      | 0, _ => exact ⟨_, _, _, rfl⟩
      | 1, _ => exact ⟨_, _, _, rfl⟩
      | 2, _ => exact ⟨_, _, _, rfl⟩
      | 3, _ => exact ⟨_, _, _, rfl⟩
      | 4, _ => exact ⟨_, _, _, rfl⟩
      | 5, _ => exact ⟨_, _, _, rfl⟩
      | 6, _ => exact ⟨_, _, _, rfl⟩
      | 7, _ => exact ⟨_, _, _, rfl⟩
     have HG := hide (HGI.out wr HR.out.bel i hlt B nb d hv)
     obtain ⟨q, hq⟩ : ∃ q, q = 1 + i := ⟨_, rfl⟩
     rw [← hq] at HG
     have hw : IntKind.i64.wrap (1 + (i : Int)) = (q : Int) := by rw [wrap_small _ (by omega) (by omega)]; omega
     have hT := hide (show ([.slice b1 l1.length c1, .slice b2 l2.length c2, .slice b3 l3.length c3, .slice b4 l4.length c4, .slice b5 l5.length c5, .slice b6 l6.length c6, .slice b7 l7.length c7, .slice b8 l8.length c8] : List Value).take (i + 1) = ([.slice b1 l1.length c1, .slice b2 l2.length c2, .slice b3 l3.length c3, .slice b4 l4.length c4, .slice b5 l5.length c5, .slice b6 l6.length c6, .slice b7 l7.length c7, .slice b8 l8.length c8] : List Value).take i ++ [.slice B nb d] from by
      have hl8 : i < ([.slice b1 l1.length c1, .slice b2 l2.length c2, .slice b3 l3.length c3, .slice b4 l4.length c4, .slice b5 l5.length c5, .slice b6 l6.length c6, .slice b7 l7.length c7, .slice b8 l8.length c8] : List Value).length := hlt
      rw [List.getElem?_eq_getElem hl8] at hv
      rw [List.take_succ_eq_append_getElem hl8, Option.some.inj hv])
     have hfl := fieldF_l
     obtain ⟨iL, hiL, hL0, hL1, hL2⟩ := info_partsN infoLs
     have hni : n ≤ 8 := by have := HR.out.len; omega
     clear hq hv hmw
     go_wp2_with (first
      | (go_at_call 50; refine HG.out.mono ?_; rintro e w3 ⟨rfl, hb3⟩; have hown3 := own_belowN HR.out.own hb3; have hsz3 := (HR.out.bel.trans (hb3.mono HR.out.bel.size)).size)
      | (at_builtin; refine wpList_append_any _ rfl (.tmp 31) (.tmp 37) _ rfl w5.heap.size 22 iL (.slice none 0 0) 1 24 Tryz.underlying88 hiL hL0 hL1 hL2 rfl (by decide) (.slice Ai n ci) n _ rfl (hown3.alloc _) _ (some ⟨_, 0, none⟩) 1 1 [.slice B nb d] rfl (reads_blkN (Blk.new _ _ _) rfl) (by simp [Value.oneCell']) (by unfold maxLen; omega) (by omega) (by simp only [World.size_alloc]; omega) ?_; intro v6 w6 hown6 hgr6 hor6; obtain ⟨AX, cX, rfl⟩ := own_slN hown6)
      | fail)
     have hb36 := ((HR.out.bel.trans (hb3.mono HR.out.bel.size)).alloc hsz3 (.cells #[.slice B nb d] 22)).grown hgr6 (by simp only [World.size_alloc]; omega) (fun k e => (hown3.lt k e).1)
     rw [← hT.out] at hown6
     have HN := hide (show RowI w5 [.slice b1 l1.length c1, .slice b2 l2.length c2, .slice b3 l3.length c3, .slice b4 l4.length c4, .slice b5 l5.length c5, .slice b6 l6.length c6, .slice b7 l7.length c7, .slice b8 l8.length c8] (i + 1) AX (n + 1) cX w6 from ⟨hb36, by rw [HR.out.len], hown6⟩)
     clear hfl hown6 hgr6 hor6 hb36 hown3 hsz3 hb3 hiL hL0 hL1 hL2 HG HR y0 y1
     exact ⟨⟨i + 1, AX, n + 1, cX, rfl, by go_num, by omega, HN⟩, by simp [intOf]; omega⟩
    ·have hii : ¬ (i : Int) < 8 := by omega
     obtain rfl : i = 8 := by omega
     have hn8 := HR.out.len
     subst hn8
     obtain ⟨g, rfl, hTn⟩ := tn_own HR.out.own (by omega)
     have HRw := hide HR.out
     clear HR HRow0 hmw hTn hi hlt hii y0 y1
     go_upto_region 12 with fail
     go_cut [8] (fun v wx => ∃ xb, v = .pointer (some ⟨xb, 0, none⟩) ∧ Hid (Blk wx xb 45 #[.string (bs ck), .slice none 0 0, .slice none 0 0, .slice none 0 0, .slice none 0 0, .slice none 0 0, .slice none 0 0, .slice none 0 0, .slice none 0 0, .slice none 0 0, .slice none 0 0, .bool false, .bool false, .bool false, .bool false, .bool (f == 1)] ∧ Below wr.heap.size wr wx ∧ wr.heap.size ≤ xb))
     case first =>
      as_aux_lemma =>
       have hmw := H5.out.1.below HRw.out.bel H5.out.1.lt
       have y0 := hmw.cell 0
       have y1 := hmw.cell 1
       simp at y0 y1
       have hmz := hmw.lt
       have hfs := fieldF_s
       have hfn := fieldF_n
       have G0 := hide (fun (W : World) (hb : Below wr.heap.size wr W) => HG0.out W (HRw.out.bel.trans (hb.mono HRw.out.bel.size)))
       have G1 := hide (fun (W : World) (hb : Below wr.heap.size wr W) => HG11.out W (HRw.out.bel.trans (hb.mono HRw.out.bel.size)))
       clear HRw HG0 HG11 HG9 HG10 HG12 HGI H5 HD HX HW0
       refine wp_region_E (fun W => Below wr.heap.size wr W) (fun i => [0, 1, 2, 3, 4, 5, 6, 7, 8].contains i) (by kernel_rfl) ?_
       obtain ⟨Wd, hWd⟩ : ∃ Wd, Wd = wr.drew := ⟨_, rfl⟩
       have hSd : Below wr.heap.size wr Wd := by rw [hWd]; exact (Below.refl _ _).drew
       rw [← hWd]
       clear hWd y0 y1
       refine wpAnyE_take (i := 0) (oi := ?_) (v := .agg #[.int .i64 20, .slice (some ad) 13 c]) ?_ ?_ ?_ ?_ ?_ ?_ ?_ hSd ?_
       rotate_left 1
       ·(try simp only [List.getElem?_toArray, List.getElem?_cons_succ, List.getElem?_cons_zero]); exact rfl
       ·kernel_rfl
       ·kernel_rfl
       ·kernel_rfl
       ·kernel_rfl
       ·exact fun _ _ _ h => h
       ·refine Or.inl ⟨by rfl, fun w hSw => ?_⟩
        have hq := hmw.below hSw hmw.lt
        have y0 := hq.cell 0
        have y1 := hq.cell 1
        simp at y0 y1
        clear hq
        clear hSw
        go_simp
       try simp only [Act.put, List.setIfInBounds_toArray, List.set_cons_zero, List.set_cons_succ]
       refine wpAnyE_take (i := 3) (oi := ?_) (v := .agg #[.int .i64 20, .slice (some ad) 13 c]) ?_ ?_ ?_ ?_ ?_ ?_ ?_ hSd ?_
       rotate_left 1
       ·(try simp only [List.getElem?_toArray, List.getElem?_cons_succ, List.getElem?_cons_zero]); exact rfl
       ·kernel_rfl
       ·kernel_rfl
       ·kernel_rfl
       ·kernel_rfl
       ·exact fun _ _ _ h => h
       ·refine Or.inl ⟨by rfl, fun w hSw => ?_⟩
        have hq := hmw.below hSw hmw.lt
        have y0 := hq.cell 0
        have y1 := hq.cell 1
        simp at y0 y1
        clear hq
        clear hSw
        go_simp
       try simp only [Act.put, List.setIfInBounds_toArray, List.set_cons_zero, List.set_cons_succ]
       refine wpAnyE_ready (rs := [1, 8]) (by kernel_rfl) (by simp) ?_
       refine AllReadyE.cons (o := ?_) ?_ (fun K hK => ?_) (AllReadyE.cons (o := ?_) ?_ (fun K hK => ?_) AllReadyE.nil)
       rotate_left 1
       ·(try simp only [List.getElem?_toArray, List.getElem?_cons_succ, List.getElem?_cons_zero]); exact rfl
       rotate_left 2
       ·(try simp only [List.getElem?_toArray, List.getElem?_cons_succ, List.getElem?_cons_zero]); exact rfl
       rotate_left 1
       ·refine step_call2K rfl (callG (x := .tmp 40) (j := 0) _ rfl _ (by rfl) _) (G0.out _ hSd) ?_
        rintro e wp ⟨rfl, hbwp⟩
        refine ⟨_, rfl, ?_⟩
        have hSp := hSd.trans (hbwp.mono hSd.size)
        refine hK.out _ _ hSp (fun _ => ?_)
        clear hK K
        try simp only [Act.put, List.setIfInBounds_toArray, List.set_cons_zero, List.set_cons_succ]
        refine wpAnyE_take (i := 2) (oi := ?_) (v := .string (bs ck)) ?_ ?_ ?_ ?_ ?_ ?_ ?_ hSp ?_
        rotate_left 1
        ·(try simp only [List.getElem?_toArray, List.getElem?_cons_succ, List.getElem?_cons_zero]); exact rfl
        ·kernel_rfl
        ·kernel_rfl
        ·kernel_rfl
        ·kernel_rfl
        ·exact fun _ _ _ h => h
        ·refine Or.inl ⟨by rfl, fun w hSw => ?_⟩
         clear hSw
         go_simp
        try simp only [Act.put, List.setIfInBounds_toArray, List.set_cons_zero, List.set_cons_succ]
        refine wpAnyE_ready (rs := [4, 8]) (by kernel_rfl) (by simp) ?_
        refine AllReadyE.cons (o := ?_) ?_ (fun K hK => ?_) (AllReadyE.cons (o := ?_) ?_ (fun K hK => ?_) AllReadyE.nil)
        rotate_left 1
        ·(try simp only [List.getElem?_toArray, List.getElem?_cons_succ, List.getElem?_cons_zero]); exact rfl
        rotate_left 2
        ·(try simp only [List.getElem?_toArray, List.getElem?_cons_succ, List.getElem?_cons_zero]); exact rfl
        rotate_left 1
        ·refine step_call2K rfl (callG (x := .tmp 43) (j := 11) _ rfl _ (by rfl) _) (G1.out _ hSp) ?_
         rintro e wq ⟨rfl, hbwq⟩
         refine ⟨_, rfl, ?_⟩
         have hSq := hSp.trans (hbwq.mono hSp.size)
         refine hK.out _ _ hSq (fun _ => ?_)
         clear hK K
         try simp only [Act.put, List.setIfInBounds_toArray, List.set_cons_zero, List.set_cons_succ]
         refine wpAnyE_take (i := 5) (oi := ?_) (v := .int .i64 f) ?_ ?_ ?_ ?_ ?_ ?_ ?_ hSq ?_
         rotate_left 1
         ·(try simp only [List.getElem?_toArray, List.getElem?_cons_succ, List.getElem?_cons_zero]); exact rfl
         ·kernel_rfl
         ·kernel_rfl
         ·kernel_rfl
         ·kernel_rfl
         ·exact fun _ _ _ h => h
         ·refine Or.inl ⟨by rfl, fun w hSw => ?_⟩
          clear hSw
          go_simp
         try simp only [Act.put, List.setIfInBounds_toArray, List.set_cons_zero, List.set_cons_succ]
         refine wpAnyE_take (i := 6) (oi := ?_) (v := .bool (f == 1)) ?_ ?_ ?_ ?_ ?_ ?_ ?_ hSq ?_
         rotate_left 1
         ·(try simp only [List.getElem?_toArray, List.getElem?_cons_succ, List.getElem?_cons_zero]); exact rfl
         ·kernel_rfl
         ·kernel_rfl
         ·kernel_rfl
         ·kernel_rfl
         ·exact fun _ _ _ h => h
         ·refine Or.inl ⟨by rfl, fun w hSw => ?_⟩
          clear hSw
          go_simp
         try simp only [Act.put, List.setIfInBounds_toArray, List.set_cons_zero, List.set_cons_succ]
         refine wpAnyE_take (i := 7) (oi := ?_) (v := .agg #[.string (bs ck), .slice none 0 0, .slice none 0 0, .slice none 0 0, .slice none 0 0, .slice none 0 0, .slice none 0 0, .slice none 0 0, .slice none 0 0, .slice none 0 0, .slice none 0 0, .bool false, .bool false, .bool false, .bool false, .bool (f == 1)]) ?_ ?_ ?_ ?_ ?_ ?_ ?_ hSq ?_
         rotate_left 1
         ·(try simp only [List.getElem?_toArray, List.getElem?_cons_succ, List.getElem?_cons_zero]); exact rfl
         ·kernel_rfl
         ·kernel_rfl
         ·kernel_rfl
         ·kernel_rfl
         ·exact fun _ _ _ h => h
         ·refine Or.inl ⟨by rfl, fun w hSw => ?_⟩
          clear hSw
          go_simp
         try simp only [Act.put, List.setIfInBounds_toArray, List.set_cons_zero, List.set_cons_succ]
         refine wpAnyE_ready (rs := [8]) (by kernel_rfl) (by simp) ?_
         refine AllReadyE.cons (o := ?_) ?_ (fun K hK => ?_) AllReadyE.nil
         rotate_left 1
         ·(try simp only [List.getElem?_toArray, List.getElem?_cons_succ, List.getElem?_cons_zero]); exact rfl
         refine step_eqA rfl (allI _ rfl _ _) ?_
         have hX := Blk.new wq 45 #[.string ⟨#[]⟩, .slice none 0 0, .slice none 0 0, .slice none 0 0, .slice none 0 0, .slice none 0 0, .slice none 0 0, .slice none 0 0, .slice none 0 0, .slice none 0 0, .slice none 0 0, .bool false, .bool false, .bool false, .bool false, .bool false]
         have hSa := hSq.alloc hSq.size (.cells #[.string ⟨#[]⟩, .slice none 0 0, .slice none 0 0, .slice none 0 0, .slice none 0 0, .slice none 0 0, .slice none 0 0, .slice none 0 0, .slice none 0 0, .slice none 0 0, .slice none 0 0, .bool false, .bool false, .bool false, .bool false, .bool false] 45)
         refine hK.out _ _ hSa (fun _ => ?_)
         clear hK K
         try simp only [Act.put, List.setIfInBounds_toArray, List.set_cons_zero, List.set_cons_succ]
         obtain ⟨wa, hwa⟩ : ∃ wa, wa = wq.alloc (.cells #[.string ⟨#[]⟩, .slice none 0 0, .slice none 0 0, .slice none 0 0, .slice none 0 0, .slice none 0 0, .slice none 0 0, .slice none 0 0, .slice none 0 0, .slice none 0 0, .slice none 0 0, .bool false, .bool false, .bool false, .bool false, .bool false] 45) := ⟨_, rfl⟩
         rw [← hwa] at hX hSa
         simp only [← hwa]
         clear hwa
         obtain ⟨xb, hxb⟩ : ∃ xb, xb = wq.heap.size := ⟨_, rfl⟩
         have hxz : wr.heap.size ≤ xb := by rw [hxb]; exact hSq.size
         rw [← hxb] at hX
         simp only [← hxb]
         clear hxb
         refine wpAnyE_ready (rs := [9]) (by kernel_rfl) (by simp) ?_
         refine AllReadyE.late (o := ?_) ?_ rfl (fun K hK => ?_) AllReadyE.nil
         rotate_left 1
         ·(try simp only [List.getElem?_toArray, List.getElem?_cons_succ, List.getElem?_cons_zero]); exact rfl
         refine step_skipA rfl (stoI (x := .tmp 8) (y := .tmp 47) (s := bs ck) (b := (f == 1)) _ rfl _ (by rfl) (by rfl) _ hX) ?_
         refine hK.out _ _ ?_
         clear hK K
         try simp only [Act.put, List.setIfInBounds_toArray, List.set_cons_zero, List.set_cons_succ]
         refine wpAnyE_done (by kernel_rfl) ?_ _
         have hXn := sto16_blk hX (.string (bs ck)) (.slice none 0 0) (.slice none 0 0) (.slice none 0 0) (.slice none 0 0) (.slice none 0 0) (.slice none 0 0) (.slice none 0 0) (.slice none 0 0) (.slice none 0 0) (.slice none 0 0) (.bool false) (.bool false) (.bool false) (.bool false) (.bool (f == 1))
         have hBn := sto16_bel (r := xb) hSa hxz (.string (bs ck)) (.slice none 0 0) (.slice none 0 0) (.slice none 0 0) (.slice none 0 0) (.slice none 0 0) (.slice none 0 0) (.slice none 0 0) (.slice none 0 0) (.slice none 0 0) (.slice none 0 0) (.bool false) (.bool false) (.bool false) (.bool false) (.bool (f == 1))
         generalize sto16 wa xb (.string (bs ck)) (.slice none 0 0) (.slice none 0 0) (.slice none 0 0) (.slice none 0 0) (.slice none 0 0) (.slice none 0 0) (.slice none 0 0) (.slice none 0 0) (.slice none 0 0) (.slice none 0 0) (.bool false) (.bool false) (.bool false) (.bool false) (.bool (f == 1)) = wX at hXn hBn ⊢
         go_wp2_with fail
         go_meet
         exact ⟨_, rfl, hide ⟨hXn, hBn, hxz⟩⟩
        ·refine step_eqA rfl (allI _ rfl _ _) ?_
         have hX := Blk.new wp 45 #[.string ⟨#[]⟩, .slice none 0 0, .slice none 0 0, .slice none 0 0, .slice none 0 0, .slice none 0 0, .slice none 0 0, .slice none 0 0, .slice none 0 0, .slice none 0 0, .slice none 0 0, .bool false, .bool false, .bool false, .bool false, .bool false]
         have hSa := hSp.alloc hSp.size (.cells #[.string ⟨#[]⟩, .slice none 0 0, .slice none 0 0, .slice none 0 0, .slice none 0 0, .slice none 0 0, .slice none 0 0, .slice none 0 0, .slice none 0 0, .slice none 0 0, .slice none 0 0, .bool false, .bool false, .bool false, .bool false, .bool false] 45)
         refine hK.out _ _ hSa (fun _ => ?_)
         clear hK K
         try simp only [Act.put, List.setIfInBounds_toArray, List.set_cons_zero, List.set_cons_succ]
         obtain ⟨wa, hwa⟩ : ∃ wa, wa = wp.alloc (.cells #[.string ⟨#[]⟩, .slice none 0 0, .slice none 0 0, .slice none 0 0, .slice none 0 0, .slice none 0 0, .slice none 0 0, .slice none 0 0, .slice none 0 0, .slice none 0 0, .slice none 0 0, .bool false, .bool false, .bool false, .bool false, .bool false] 45) := ⟨_, rfl⟩
         rw [← hwa] at hX hSa
         simp only [← hwa]
         clear hwa
         obtain ⟨xb, hxb⟩ : ∃ xb, xb = wp.heap.size := ⟨_, rfl⟩
         have hxz : wr.heap.size ≤ xb := by rw [hxb]; exact hSp.size
         rw [← hxb] at hX
         simp only [← hxb]
         clear hxb
         refine wpAnyE_ready (rs := [4]) (by kernel_rfl) (by simp) ?_
         refine AllReadyE.cons (o := ?_) ?_ (fun K hK => ?_) AllReadyE.nil
         rotate_left 1
         ·(try simp only [List.getElem?_toArray, List.getElem?_cons_succ, List.getElem?_cons_zero]); exact rfl
         refine step_call2K rfl (callG (x := .tmp 43) (j := 11) _ rfl _ (by rfl) _) (G1.out _ hSa) ?_
         rintro e wq ⟨rfl, hbwq⟩
         refine ⟨_, rfl, ?_⟩
         have hSq := hSa.trans (hbwq.mono hSa.size)
         refine hK.out _ _ hSq (fun _ => ?_)
         clear hK K
         try simp only [Act.put, List.setIfInBounds_toArray, List.set_cons_zero, List.set_cons_succ]
         have hX := hX.below hbwq hX.lt
         refine wpAnyE_take (i := 5) (oi := ?_) (v := .int .i64 f) ?_ ?_ ?_ ?_ ?_ ?_ ?_ hSq ?_
         rotate_left 1
         ·(try simp only [List.getElem?_toArray, List.getElem?_cons_succ, List.getElem?_cons_zero]); exact rfl
         ·kernel_rfl
         ·kernel_rfl
         ·kernel_rfl
         ·kernel_rfl
         ·exact fun _ _ _ h => h
         ·refine Or.inl ⟨by rfl, fun w hSw => ?_⟩
          clear hSw
          go_simp
         try simp only [Act.put, List.setIfInBounds_toArray, List.set_cons_zero, List.set_cons_succ]
         refine wpAnyE_take (i := 6) (oi := ?_) (v := .bool (f == 1)) ?_ ?_ ?_ ?_ ?_ ?_ ?_ hSq ?_
         rotate_left 1
         ·(try simp only [List.getElem?_toArray, List.getElem?_cons_succ, List.getElem?_cons_zero]); exact rfl
         ·kernel_rfl
         ·kernel_rfl
         ·kernel_rfl
         ·kernel_rfl
         ·exact fun _ _ _ h => h
         ·refine Or.inl ⟨by rfl, fun w hSw => ?_⟩
          clear hSw
          go_simp
         try simp only [Act.put, List.setIfInBounds_toArray, List.set_cons_zero, List.set_cons_succ]
         refine wpAnyE_take (i := 7) (oi := ?_) (v := .agg #[.string (bs ck), .slice none 0 0, .slice none 0 0, .slice none 0 0, .slice none 0 0, .slice none 0 0, .slice none 0 0, .slice none 0 0, .slice none 0 0, .slice none 0 0, .slice none 0 0, .bool false, .bool false, .bool false, .bool false, .bool (f == 1)]) ?_ ?_ ?_ ?_ ?_ ?_ ?_ hSq ?_
         rotate_left 1
         ·(try simp only [List.getElem?_toArray, List.getElem?_cons_succ, List.getElem?_cons_zero]); exact rfl
         ·kernel_rfl
         ·kernel_rfl
         ·kernel_rfl
         ·kernel_rfl
         ·exact fun _ _ _ h => h
         ·refine Or.inl ⟨by rfl, fun w hSw => ?_⟩
          clear hSw
          go_simp
         try simp only [Act.put, List.setIfInBounds_toArray, List.set_cons_zero, List.set_cons_succ]
         refine wpAnyE_ready (rs := [9]) (by kernel_rfl) (by simp) ?_
         refine AllReadyE.late (o := ?_) ?_ rfl (fun K hK => ?_) AllReadyE.nil
         rotate_left 1
         ·(try simp only [List.getElem?_toArray, List.getElem?_cons_succ, List.getElem?_cons_zero]); exact rfl
         refine step_skipA rfl (stoI (x := .tmp 8) (y := .tmp 47) (s := bs ck) (b := (f == 1)) _ rfl _ (by rfl) (by rfl) _ hX) ?_
         refine hK.out _ _ ?_
         clear hK K
         try simp only [Act.put, List.setIfInBounds_toArray, List.set_cons_zero, List.set_cons_succ]
         refine wpAnyE_done (by kernel_rfl) ?_ _
         have hXn := sto16_blk hX (.string (bs ck)) (.slice none 0 0) (.slice none 0 0) (.slice none 0 0) (.slice none 0 0) (.slice none 0 0) (.slice none 0 0) (.slice none 0 0) (.slice none 0 0) (.slice none 0 0) (.slice none 0 0) (.bool false) (.bool false) (.bool false) (.bool false) (.bool (f == 1))
         have hBn := sto16_bel (r := xb) hSq hxz (.string (bs ck)) (.slice none 0 0) (.slice none 0 0) (.slice none 0 0) (.slice none 0 0) (.slice none 0 0) (.slice none 0 0) (.slice none 0 0) (.slice none 0 0) (.slice none 0 0) (.slice none 0 0) (.bool false) (.bool false) (.bool false) (.bool false) (.bool (f == 1))
         generalize sto16 wq xb (.string (bs ck)) (.slice none 0 0) (.slice none 0 0) (.slice none 0 0) (.slice none 0 0) (.slice none 0 0) (.slice none 0 0) (.slice none 0 0) (.slice none 0 0) (.slice none 0 0) (.slice none 0 0) (.bool false) (.bool false) (.bool false) (.bool false) (.bool (f == 1)) = wX at hXn hBn ⊢
         go_wp2_with fail
         go_meet
         exact ⟨_, rfl, hide ⟨hXn, hBn, hxz⟩⟩
       ·refine step_eqA rfl (allI _ rfl _ _) ?_
        have hX := Blk.new Wd 45 #[.string ⟨#[]⟩, .slice none 0 0, .slice none 0 0, .slice none 0 0, .slice none 0 0, .slice none 0 0, .slice none 0 0, .slice none 0 0, .slice none 0 0, .slice none 0 0, .slice none 0 0, .bool false, .bool false, .bool false, .bool false, .bool false]
        have hSa := hSd.alloc hSd.size (.cells #[.string ⟨#[]⟩, .slice none 0 0, .slice none 0 0, .slice none 0 0, .slice none 0 0, .slice none 0 0, .slice none 0 0, .slice none 0 0, .slice none 0 0, .slice none 0 0, .slice none 0 0, .bool false, .bool false, .bool false, .bool false, .bool false] 45)
        refine hK.out _ _ hSa (fun _ => ?_)
        clear hK K
        try simp only [Act.put, List.setIfInBounds_toArray, List.set_cons_zero, List.set_cons_succ]
        obtain ⟨wa, hwa⟩ : ∃ wa, wa = Wd.alloc (.cells #[.string ⟨#[]⟩, .slice none 0 0, .slice none 0 0, .slice none 0 0, .slice none 0 0, .slice none 0 0, .slice none 0 0, .slice none 0 0, .slice none 0 0, .slice none 0 0, .slice none 0 0, .bool false, .bool false, .bool false, .bool false, .bool false] 45) := ⟨_, rfl⟩
        rw [← hwa] at hX hSa
        simp only [← hwa]
        clear hwa
        obtain ⟨xb, hxb⟩ : ∃ xb, xb = Wd.heap.size := ⟨_, rfl⟩
        have hxz : wr.heap.size ≤ xb := by rw [hxb]; exact hSd.size
        rw [← hxb] at hX
        simp only [← hxb]
        clear hxb
        refine wpAnyE_ready (rs := [1]) (by kernel_rfl) (by simp) ?_
        refine AllReadyE.cons (o := ?_) ?_ (fun K hK => ?_) AllReadyE.nil
        rotate_left 1
        ·(try simp only [List.getElem?_toArray, List.getElem?_cons_succ, List.getElem?_cons_zero]); exact rfl
        refine step_call2K rfl (callG (x := .tmp 40) (j := 0) _ rfl _ (by rfl) _) (G0.out _ hSa) ?_
        rintro e wp ⟨rfl, hbwp⟩
        refine ⟨_, rfl, ?_⟩
        have hSp := hSa.trans (hbwp.mono hSa.size)
        refine hK.out _ _ hSp (fun _ => ?_)
        clear hK K
        try simp only [Act.put, List.setIfInBounds_toArray, List.set_cons_zero, List.set_cons_succ]
        have hX := hX.below hbwp hX.lt
        refine wpAnyE_take (i := 2) (oi := ?_) (v := .string (bs ck)) ?_ ?_ ?_ ?_ ?_ ?_ ?_ hSp ?_
        rotate_left 1
        ·(try simp only [List.getElem?_toArray, List.getElem?_cons_succ, List.getElem?_cons_zero]); exact rfl
        ·kernel_rfl
        ·kernel_rfl
        ·kernel_rfl
        ·kernel_rfl
        ·exact fun _ _ _ h => h
        ·refine Or.inl ⟨by rfl, fun w hSw => ?_⟩
         clear hSw
         go_simp
        try simp only [Act.put, List.setIfInBounds_toArray, List.set_cons_zero, List.set_cons_succ]
        refine wpAnyE_ready (rs := [4]) (by kernel_rfl) (by simp) ?_
        refine AllReadyE.cons (o := ?_) ?_ (fun K hK => ?_) AllReadyE.nil
        rotate_left 1
        ·(try simp only [List.getElem?_toArray, List.getElem?_cons_succ, List.getElem?_cons_zero]); exact rfl
        refine step_call2K rfl (callG (x := .tmp 43) (j := 11) _ rfl _ (by rfl) _) (G1.out _ hSp) ?_
        rintro e wq ⟨rfl, hbwq⟩
        refine ⟨_, rfl, ?_⟩
        have hSq := hSp.trans (hbwq.mono hSp.size)
        refine hK.out _ _ hSq (fun _ => ?_)
        clear hK K
        try simp only [Act.put, List.setIfInBounds_toArray, List.set_cons_zero, List.set_cons_succ]
        have hX := hX.below hbwq hX.lt
        refine wpAnyE_take (i := 5) (oi := ?_) (v := .int .i64 f) ?_ ?_ ?_ ?_ ?_ ?_ ?_ hSq ?_
        rotate_left 1
        ·(try simp only [List.getElem?_toArray, List.getElem?_cons_succ, List.getElem?_cons_zero]); exact rfl
        ·kernel_rfl
        ·kernel_rfl
        ·kernel_rfl
        ·kernel_rfl
        ·exact fun _ _ _ h => h
        ·refine Or.inl ⟨by rfl, fun w hSw => ?_⟩
         clear hSw
         go_simp
        try simp only [Act.put, List.setIfInBounds_toArray, List.set_cons_zero, List.set_cons_succ]
        refine wpAnyE_take (i := 6) (oi := ?_) (v := .bool (f == 1)) ?_ ?_ ?_ ?_ ?_ ?_ ?_ hSq ?_
        rotate_left 1
        ·(try simp only [List.getElem?_toArray, List.getElem?_cons_succ, List.getElem?_cons_zero]); exact rfl
        ·kernel_rfl
        ·kernel_rfl
        ·kernel_rfl
        ·kernel_rfl
        ·exact fun _ _ _ h => h
        ·refine Or.inl ⟨by rfl, fun w hSw => ?_⟩
         clear hSw
         go_simp
        try simp only [Act.put, List.setIfInBounds_toArray, List.set_cons_zero, List.set_cons_succ]
        refine wpAnyE_take (i := 7) (oi := ?_) (v := .agg #[.string (bs ck), .slice none 0 0, .slice none 0 0, .slice none 0 0, .slice none 0 0, .slice none 0 0, .slice none 0 0, .slice none 0 0, .slice none 0 0, .slice none 0 0, .slice none 0 0, .bool false, .bool false, .bool false, .bool false, .bool (f == 1)]) ?_ ?_ ?_ ?_ ?_ ?_ ?_ hSq ?_
        rotate_left 1
        ·(try simp only [List.getElem?_toArray, List.getElem?_cons_succ, List.getElem?_cons_zero]); exact rfl
        ·kernel_rfl
        ·kernel_rfl
        ·kernel_rfl
        ·kernel_rfl
        ·exact fun _ _ _ h => h
        ·refine Or.inl ⟨by rfl, fun w hSw => ?_⟩
         clear hSw
         go_simp
        try simp only [Act.put, List.setIfInBounds_toArray, List.set_cons_zero, List.set_cons_succ]
        refine wpAnyE_ready (rs := [9]) (by kernel_rfl) (by simp) ?_
        refine AllReadyE.late (o := ?_) ?_ rfl (fun K hK => ?_) AllReadyE.nil
        rotate_left 1
        ·(try simp only [List.getElem?_toArray, List.getElem?_cons_succ, List.getElem?_cons_zero]); exact rfl
        refine step_skipA rfl (stoI (x := .tmp 8) (y := .tmp 47) (s := bs ck) (b := (f == 1)) _ rfl _ (by rfl) (by rfl) _ hX) ?_
        refine hK.out _ _ ?_
        clear hK K
        try simp only [Act.put, List.setIfInBounds_toArray, List.set_cons_zero, List.set_cons_succ]
        refine wpAnyE_done (by kernel_rfl) ?_ _
        have hXn := sto16_blk hX (.string (bs ck)) (.slice none 0 0) (.slice none 0 0) (.slice none 0 0) (.slice none 0 0) (.slice none 0 0) (.slice none 0 0) (.slice none 0 0) (.slice none 0 0) (.slice none 0 0) (.slice none 0 0) (.bool false) (.bool false) (.bool false) (.bool false) (.bool (f == 1))
        have hBn := sto16_bel (r := xb) hSq hxz (.string (bs ck)) (.slice none 0 0) (.slice none 0 0) (.slice none 0 0) (.slice none 0 0) (.slice none 0 0) (.slice none 0 0) (.slice none 0 0) (.slice none 0 0) (.slice none 0 0) (.slice none 0 0) (.bool false) (.bool false) (.bool false) (.bool false) (.bool (f == 1))
        generalize sto16 wq xb (.string (bs ck)) (.slice none 0 0) (.slice none 0 0) (.slice none 0 0) (.slice none 0 0) (.slice none 0 0) (.slice none 0 0) (.slice none 0 0) (.slice none 0 0) (.slice none 0 0) (.slice none 0 0) (.bool false) (.bool false) (.bool false) (.bool false) (.bool (f == 1)) = wX at hXn hBn ⊢
        go_wp2_with fail
        go_meet
        exact ⟨_, rfl, hide ⟨hXn, hBn, hxz⟩⟩
     case rest =>
      obtain ⟨xb, rfl, HX2⟩ := hcut
      clear HGI HG0 HG11
      have hb5c := HRw.out.bel.trans (HX2.out.2.1.mono HRw.out.bel.size)
      have hownc := own_belowN HRw.out.own HX2.out.2.1
      obtain ⟨g9, eg, hTc⟩ := tn_own hownc (by omega)
      obtain rfl : g = g9 := by cases eg; rfl
      have k0 := hTc.at_ (i := 0) rfl
      have hPc := H5.out.2.1.below hb5c
      have hN1 := ((hPc.at_ 1 _ _ rfl rfl).2).mono (Nat.zero_le _)
      have hl1 := HD.out.2.2 l1 (by simp)
      have HSp := hide (split16_any (w := wc) hN1 hl1 HX2.out.1)
      have Hc := hide (And.intro hb5c (And.intro (Nat.le_trans HRw.out.bel.size HX2.out.2.2) (And.intro hownc HX2.out.1)))
      have hfn := fieldF_n
      have HO := hide (fun (W : World) => fof_any ⟨#[107, 101, 120, 105, 110, 105, 116]⟩ 3 (by decide) W)
      clear eg hTc hPc hN1 hl1 hb5c hownc HRw HX2
      unfold SplitP at HSp
      cases hm : markedL (splitM l1).rest with
      | true =>
       have HE := hide (show ParE (decS pl.data.toList) [kexB] 3 from .inr (.inr ⟨ck, l1, [l2, l3, l4, l5, l6, l7, l8, l9, l10], f, u, HD.out.1, rfl, HD.out.2.1, .inl hm, rfl, rfl⟩))
       rw [hm] at HSp
       clear hm HG12 HG9 HG10 HD
       go_wp2_with (first
        | (go_at_call 51; refine HSp.out.mono ?_; rintro e w6 ⟨n, rfl, hNr, hX6, hg6⟩; have hb56 := Hc.out.1.grown hg6 Hc.out.1.size (fun k e => by cases e; exact Hc.out.2.1); have hm6 := H5.out.1.below hb56 H5.out.1.lt; have y0 := hm6.cell 0; have y1 := hm6.cell 1; simp at y0 y1)
        | (go_at_call 39; refine (HO.out _).mono ?_; rintro e w8 ⟨q, rfl, hiz, hb8⟩; have hb58 := hb56.trans (hb8.mono hb56.size); have hRz := H5.out.2.2.2.below hb58 H5.out.2.2.2.lt; have hbz := H5.out.2.2.1.trans (hb58.mono H5.out.2.2.1.size); have r0 := hRz.cell 0; have t0 := hRz.frozen 0; have r1 := hRz.cell 1; have t1 := hRz.frozen 1; have r2 := hRz.cell 2; have t2 := hRz.frozen 2; have r3 := hRz.cell 3; have t3 := hRz.frozen 3; have r4 := hRz.cell 4; have t4 := hRz.frozen 4; have r5 := hRz.cell 5; have t5 := hRz.frozen 5; have r6 := hRz.cell 6; have t6 := hRz.frozen 6; have r7 := hRz.cell 7; have t7 := hRz.frozen 7; have r8 := hRz.cell 8; have t8 := hRz.frozen 8; have r9 := hRz.cell 9; have t9 := hRz.frozen 9; have r10 := hRz.cell 10; have t10 := hRz.frozen 10; have r11 := hRz.cell 11; have t11 := hRz.frozen 11; have r12 := hRz.cell 12; have t12 := hRz.frozen 12; have r13 := hRz.cell 13; have t13 := hRz.frozen 13; have r14 := hRz.cell 14; have t14 := hRz.frozen 14; have r15 := hRz.cell 15; have t15 := hRz.frozen 15; simp at r0 r1 r2 r3 r4 r5 r6 r7 r8 r9 r10 r11 r12 r13 r14 r15)
        | fail)
       obtain ⟨wF, hwF⟩ : ∃ wF, wF = sto16 w8 w.heap.size (.string ⟨#[]⟩) (.slice none 0 0) (.slice none 0 0) (.slice none 0 0) (.slice none 0 0) (.slice none 0 0) (.slice none 0 0) (.slice none 0 0) (.slice none 0 0) (.slice none 0 0) (.slice none 0 0) (.bool false) (.bool false) (.bool false) (.bool false) (.bool false) := ⟨_, rfl⟩
       have hF := sto16_blk hRz (.string ⟨#[]⟩) (.slice none 0 0) (.slice none 0 0) (.slice none 0 0) (.slice none 0 0) (.slice none 0 0) (.slice none 0 0) (.slice none 0 0) (.slice none 0 0) (.slice none 0 0) (.slice none 0 0) (.bool false) (.bool false) (.bool false) (.bool false) (.bool false)
       have hbF := sto16_bel (r := w.heap.size) hbz (Nat.le_refl _) (.string ⟨#[]⟩) (.slice none 0 0) (.slice none 0 0) (.slice none 0 0) (.slice none 0 0) (.slice none 0 0) (.slice none 0 0) (.slice none 0 0) (.slice none 0 0) (.slice none 0 0) (.slice none 0 0) (.bool false) (.bool false) (.bool false) (.bool false) (.bool false)
       have hiF := sto16_err hRz hiz (.string ⟨#[]⟩) (.slice none 0 0) (.slice none 0 0) (.slice none 0 0) (.slice none 0 0) (.slice none 0 0) (.slice none 0 0) (.slice none 0 0) (.slice none 0 0) (.slice none 0 0) (.slice none 0 0) (.bool false) (.bool false) (.bool false) (.bool false) (.bool false)
       have hch : ((((((((((((((((w8.setCell ⟨w.heap.size, 0, none⟩ (.string ⟨#[]⟩)).setCell ⟨w.heap.size, 1, none⟩ (.slice none 0 0)).setCell ⟨w.heap.size, 2, none⟩ (.slice none 0 0)).setCell ⟨w.heap.size, 3, none⟩ (.slice none 0 0)).setCell ⟨w.heap.size, 4, none⟩ (.slice none 0 0)).setCell ⟨w.heap.size, 5, none⟩ (.slice none 0 0)).setCell ⟨w.heap.size, 6, none⟩ (.slice none 0 0)).setCell ⟨w.heap.size, 7, none⟩ (.slice none 0 0)).setCell ⟨w.heap.size, 8, none⟩ (.slice none 0 0)).setCell ⟨w.heap.size, 9, none⟩ (.slice none 0 0)).setCell ⟨w.heap.size, 10, none⟩ (.slice none 0 0)).setCell ⟨w.heap.size, 11, none⟩ (.bool false)).setCell ⟨w.heap.size, 12, none⟩ (.bool false)).setCell ⟨w.heap.size, 13, none⟩ (.bool false)).setCell ⟨w.heap.size, 14, none⟩ (.bool false)).setCell ⟨w.heap.size, 15, none⟩ (.bool false)) = wF := hwF.symm
       rw [← hwF] at hF hbF hiF
       rw [hch]
       clear hwF hch
       try unfold errV at hiF
       clear r0 t0 r1 t1 r2 t2 r3 t3 r4 t4 r5 t5 r6 t6 r7 t7 r8 t8 r9 t9 r10 t10 r11 t11 r12 t12 r13 t13 r14 t14 r15 t15
       have q0 := hF.cell 0
       have q1 := hF.cell 1
       have q2 := hF.cell 2
       have q3 := hF.cell 3
       have q4 := hF.cell 4
       have q5 := hF.cell 5
       have q6 := hF.cell 6
       have q7 := hF.cell 7
       have q8 := hF.cell 8
       have q9 := hF.cell 9
       have q10 := hF.cell 10
       have q11 := hF.cell 11
       have q12 := hF.cell 12
       have q13 := hF.cell 13
       have q14 := hF.cell 14
       have q15 := hF.cell 15
       simp at q0 q1 q2 q3 q4 q5 q6 q7 q8 q9 q10 q11 q12 q13 q14 q15
       have HF := hide (show ParP pl.data.toList w (.returned (.tuple #[.agg #[.string ⟨#[]⟩, .slice none 0 0, .slice none 0 0, .slice none 0 0, .slice none 0 0, .slice none 0 0, .slice none 0 0, .slice none 0 0, .slice none 0 0, .slice none 0 0, .slice none 0 0, .bool false, .bool false, .bool false, .bool false, .bool false], errV q])) wF from ⟨hbF, .inr ⟨q, _, _, HE.out, rfl, hiF⟩⟩)
       clear hF hbF hiF hRz hbz hiz
       unfold errV at HF
       exact bodyPost_ret (v := .tuple #[.agg #[.string ⟨#[]⟩, .slice none 0 0, .slice none 0 0, .slice none 0 0, .slice none 0 0, .slice none 0 0, .slice none 0 0, .slice none 0 0, .slice none 0 0, .slice none 0 0, .slice none 0 0, .bool false, .bool false, .bool false, .bool false, .bool false], .iface 117 (.pointer (some ⟨q, 0, none⟩))]) (by simp [results, Tryz.results18, go_sem, errV, q0, q1, q2, q3, q4, q5, q6, q7, q8, q9, q10, q11, q12, q13, q14, q15]) rfl HF.out
      | false =>
       rw [hm] at HSp
       by_cases hu0 : u = 0
       ·subst hu0
        have h9 := HOK.out.2 ck l1 l2 l3 l4 l5 l6 l7 l8 l9 l10 f HD.out.1
        rw [hm] at h9
        cases h9
       ·have HE := hide (show ParE (decS pl.data.toList) [kexB] 3 from .inr (.inr ⟨ck, l1, [l2, l3, l4, l5, l6, l7, l8, l9, l10], f, u, HD.out.1, rfl, HD.out.2.1, .inr hu0, rfl, rfl⟩))
        have hu1 : (u == 0) = false := by rw [beq_eq_false_iff_ne]; exact hu0
        have hu2 : (u != 0) = true := by simp [bne, hu1]
        clear hm HG9 HG10 HD hu0
        go_wp2_with (first
         | (go_at_call 51; refine HSp.out.mono ?_; rintro e w6 ⟨n, rfl, hNr, hX6, hg6⟩; have hb56 := Hc.out.1.grown hg6 Hc.out.1.size (fun k e => by cases e; exact Hc.out.2.1); have hm6 := H5.out.1.below hb56 H5.out.1.lt; have y0 := hm6.cell 0; have y1 := hm6.cell 1; simp at y0 y1)
         | (go_at_call 50; refine (HG12.out _ hb56).mono ?_; rintro e w7 ⟨rfl, hb7⟩)
         | (go_at_call 39; refine (HO.out _).mono ?_; rintro e w8 ⟨q, rfl, hiz, hb8⟩; have hb58 := hb56.trans ((hb7.trans (hb8.mono hb7.size)).mono hb56.size); have hRz := H5.out.2.2.2.below hb58 H5.out.2.2.2.lt; have hbz := H5.out.2.2.1.trans (hb58.mono H5.out.2.2.1.size); have r0 := hRz.cell 0; have t0 := hRz.frozen 0; have r1 := hRz.cell 1; have t1 := hRz.frozen 1; have r2 := hRz.cell 2; have t2 := hRz.frozen 2; have r3 := hRz.cell 3; have t3 := hRz.frozen 3; have r4 := hRz.cell 4; have t4 := hRz.frozen 4; have r5 := hRz.cell 5; have t5 := hRz.frozen 5; have r6 := hRz.cell 6; have t6 := hRz.frozen 6; have r7 := hRz.cell 7; have t7 := hRz.frozen 7; have r8 := hRz.cell 8; have t8 := hRz.frozen 8; have r9 := hRz.cell 9; have t9 := hRz.frozen 9; have r10 := hRz.cell 10; have t10 := hRz.frozen 10; have r11 := hRz.cell 11; have t11 := hRz.frozen 11; have r12 := hRz.cell 12; have t12 := hRz.frozen 12; have r13 := hRz.cell 13; have t13 := hRz.frozen 13; have r14 := hRz.cell 14; have t14 := hRz.frozen 14; have r15 := hRz.cell 15; have t15 := hRz.frozen 15; simp at r0 r1 r2 r3 r4 r5 r6 r7 r8 r9 r10 r11 r12 r13 r14 r15)
         | fail)
        obtain ⟨wF, hwF⟩ : ∃ wF, wF = sto16 w8 w.heap.size (.string ⟨#[]⟩) (.slice none 0 0) (.slice none 0 0) (.slice none 0 0) (.slice none 0 0) (.slice none 0 0) (.slice none 0 0) (.slice none 0 0) (.slice none 0 0) (.slice none 0 0) (.slice none 0 0) (.bool false) (.bool false) (.bool false) (.bool false) (.bool false) := ⟨_, rfl⟩
        have hF := sto16_blk hRz (.string ⟨#[]⟩) (.slice none 0 0) (.slice none 0 0) (.slice none 0 0) (.slice none 0 0) (.slice none 0 0) (.slice none 0 0) (.slice none 0 0) (.slice none 0 0) (.slice none 0 0) (.slice none 0 0) (.bool false) (.bool false) (.bool false) (.bool false) (.bool false)
        have hbF := sto16_bel (r := w.heap.size) hbz (Nat.le_refl _) (.string ⟨#[]⟩) (.slice none 0 0) (.slice none 0 0) (.slice none 0 0) (.slice none 0 0) (.slice none 0 0) (.slice none 0 0) (.slice none 0 0) (.slice none 0 0) (.slice none 0 0) (.slice none 0 0) (.bool false) (.bool false) (.bool false) (.bool false) (.bool false)
        have hiF := sto16_err hRz hiz (.string ⟨#[]⟩) (.slice none 0 0) (.slice none 0 0) (.slice none 0 0) (.slice none 0 0) (.slice none 0 0) (.slice none 0 0) (.slice none 0 0) (.slice none 0 0) (.slice none 0 0) (.slice none 0 0) (.bool false) (.bool false) (.bool false) (.bool false) (.bool false)
        have hch : ((((((((((((((((w8.setCell ⟨w.heap.size, 0, none⟩ (.string ⟨#[]⟩)).setCell ⟨w.heap.size, 1, none⟩ (.slice none 0 0)).setCell ⟨w.heap.size, 2, none⟩ (.slice none 0 0)).setCell ⟨w.heap.size, 3, none⟩ (.slice none 0 0)).setCell ⟨w.heap.size, 4, none⟩ (.slice none 0 0)).setCell ⟨w.heap.size, 5, none⟩ (.slice none 0 0)).setCell ⟨w.heap.size, 6, none⟩ (.slice none 0 0)).setCell ⟨w.heap.size, 7, none⟩ (.slice none 0 0)).setCell ⟨w.heap.size, 8, none⟩ (.slice none 0 0)).setCell ⟨w.heap.size, 9, none⟩ (.slice none 0 0)).setCell ⟨w.heap.size, 10, none⟩ (.slice none 0 0)).setCell ⟨w.heap.size, 11, none⟩ (.bool false)).setCell ⟨w.heap.size, 12, none⟩ (.bool false)).setCell ⟨w.heap.size, 13, none⟩ (.bool false)).setCell ⟨w.heap.size, 14, none⟩ (.bool false)).setCell ⟨w.heap.size, 15, none⟩ (.bool false)) = wF := hwF.symm
        rw [← hwF] at hF hbF hiF
        rw [hch]
        clear hwF hch
        try unfold errV at hiF
        clear r0 t0 r1 t1 r2 t2 r3 t3 r4 t4 r5 t5 r6 t6 r7 t7 r8 t8 r9 t9 r10 t10 r11 t11 r12 t12 r13 t13 r14 t14 r15 t15
        have q0 := hF.cell 0
        have q1 := hF.cell 1
        have q2 := hF.cell 2
        have q3 := hF.cell 3
        have q4 := hF.cell 4
        have q5 := hF.cell 5
        have q6 := hF.cell 6
        have q7 := hF.cell 7
        have q8 := hF.cell 8
        have q9 := hF.cell 9
        have q10 := hF.cell 10
        have q11 := hF.cell 11
        have q12 := hF.cell 12
        have q13 := hF.cell 13
        have q14 := hF.cell 14
        have q15 := hF.cell 15
        simp at q0 q1 q2 q3 q4 q5 q6 q7 q8 q9 q10 q11 q12 q13 q14 q15
        have HF := hide (show ParP pl.data.toList w (.returned (.tuple #[.agg #[.string ⟨#[]⟩, .slice none 0 0, .slice none 0 0, .slice none 0 0, .slice none 0 0, .slice none 0 0, .slice none 0 0, .slice none 0 0, .slice none 0 0, .slice none 0 0, .slice none 0 0, .bool false, .bool false, .bool false, .bool false, .bool false], errV q])) wF from ⟨hbF, .inr ⟨q, _, _, HE.out, rfl, hiF⟩⟩)
        clear hF hbF hiF hRz hbz hiz
        unfold errV at HF
        exact bodyPost_ret (v := .tuple #[.agg #[.string ⟨#[]⟩, .slice none 0 0, .slice none 0 0, .slice none 0 0, .slice none 0 0, .slice none 0 0, .slice none 0 0, .slice none 0 0, .slice none 0 0, .slice none 0 0, .slice none 0 0, .bool false, .bool false, .bool false, .bool false, .bool false], .iface 117 (.pointer (some ⟨q, 0, none⟩))]) (by simp [results, Tryz.results18, go_sem, errV, q0, q1, q2, q3, q4, q5, q6, q7, q8, q9, q10, q11, q12, q13, q14, q15]) rfl HF.out
  ·obtain ⟨l9, h9⟩ := HOK.out.1
   rw [hd] at h9
   injection h9 with h9 _
   exact absurd h9 hn
 ·obtain ⟨l9, h9⟩ := HOK.out.1
  rw [h9] at hk
  cases hk
set_option maxHeartbeats 40000000 in
set_option maxRecDepth 100000 in
theorem parse16_o {w : World} (pl : ByteArray) (hpl : pl.size ≤ 1000000) (hM : MaxL w) (hok : ∃ ck l1 l2 l3 l4 l5 l6 l7 l8 l9 l10 f, decS pl.data.toList = .ok 20 (kexFs ck [l1, l2, l3, l4, l5, l6, l7, l8, l9, l10] f 0) ∧ markedL (splitM l1).rest = false) : Calls Tryz.prog 18 #[.string pl] w (ParP pl.data.toList w) := by
 obtain ⟨W0, hW0⟩ : ∃ W0, W0 = w.alloc (.cells #[.string ⟨#[]⟩, .slice none 0 0, .slice none 0 0, .slice none 0 0, .slice none 0 0, .slice none 0 0, .slice none 0 0, .slice none 0 0, .slice none 0 0, .slice none 0 0, .slice none 0 0, .bool false, .bool false, .bool false, .bool false, .bool false] 45) := ⟨_, rfl⟩
 have hb0 : Below w.heap.size w W0 := by rw [hW0]; (repeat (first | exact Below.refl _ _ | refine below_drewN ?_ _ | refine Below.drew ?_ | refine Below.alloc ?_ (by first | omega | (simp; done) | (simp; omega)) _ | refine Below.setCell ?_ (by first | omega | (simp; done) | (simp; omega)) _ | refine bel_alloc ?_ _ | refine bel_trans ?_ (by assumption) | refine Below.trans ?_ (Below.mono (by assumption) (by first | omega | (simp; done) | (simp; omega)))))
 have hR0 : Blk W0 w.heap.size 45 #[.string ⟨#[]⟩, .slice none 0 0, .slice none 0 0, .slice none 0 0, .slice none 0 0, .slice none 0 0, .slice none 0 0, .slice none 0 0, .slice none 0 0, .slice none 0 0, .slice none 0 0, .bool false, .bool false, .bool false, .bool false, .bool false] := by rw [hW0]; exact Blk.new w _ _
 have HOK := hide hok
 clear hok
 have HD := hide (decode_anyN (w := W0) pl hpl (hM.below hb0))
 have HX := hide (And.intro hb0 hR0)
 clear hb0 hR0 hM hpl
 go_enter Tryz.func18, Tryz.ntmps18
 go_upto_region 1 with fail
 rw [← hW0]
 clear hW0
 go_wp2_with fail
 refine HD.out.mono ?_
 rintro e w1 ⟨hb1, hr1⟩
 have hb01 := HX.out.1.trans (hb1.mono HX.out.1.size)
 have hR1 := HX.out.2.below hb1 HX.out.2.lt
 have HS := hide (And.intro hb01 hR1)
 have hrlt := hR1.lt
 clear HD hb1 hb01 hR1
 rcases hr1 with ⟨num, l, A, c, hd, rfl, hF⟩ | ⟨b, ps, k, hk, rfl, hi⟩
 ·by_cases hn : num = 20
  ·subst hn
   obtain ⟨ck, ls, f, u, hls, hl, hf, hu⟩ := dec_20 hd
   have hlen := dec_len hd
   have hl13 : l.length = 13 := by rw [hl]; simp [kexFs, hls]
   rw [hl13]
   clear hl13
   match ls, hls, hl with
   | [l1, l2, l3, l4, l5, l6, l7, l8, l9, l10], _, hl =>
   subst hl
   obtain ⟨ad, b0, c0, b1, c1, b2, c2, b3, c3, b4, c4, b5, c5, b6, c6, b7, c7, b8, c8, b9, c9, b10, c10, b11, c11, b12, c12, rfl, hP⟩ := hF.par
   have hlenK : ∀ k ∈ [l1, l2, l3, l4, l5, l6, l7, l8, l9, l10], k.length ≤ 1000000 := by
    intro k hk
    have := hlen ⟨110, 0, [], k⟩ (by unfold kexFs; exact List.mem_cons_of_mem _ (List.mem_append_left _ (List.mem_map.2 ⟨k, hk, rfl⟩)))
    have h2 : k.length ≤ 16 := this
    omega
   have hbx := (Below.refl w1.heap.size w1).alloc (Nat.le_refl _) (.cells #[.int .i64 20, .slice (some ad) 13 c] 86)
   have hM5 := Blk.new w1 86 #[.int .i64 20, .slice (some ad) 13 c]
   have hP5 := hP.below hbx
   have hb5 := HS.out.1.trans (hbx.mono HS.out.1.size)
   have hR5 := HS.out.2.below hbx HS.out.2.lt
   have HIs := hide (fun (W : World) => show Calls Tryz.prog 49 #[.agg #[.int .i64 20, .slice (some ad) 13 c], .int .i64 20, .int .i64 13] W (fun e w' => e = .returned (.bool true) ∧ Below W.heap.size W w') from is07_any 20 20 13 (n := 13) W)
   have HW0 := hide (show w.heap.size < W0.heap.size from HX.out.2.lt)
   go_upto_region 2 with fail
   generalize w1.alloc (.cells #[.int .i64 20, .slice (some ad) 13 c] 86) = w5 at hbx hM5 hP5 hb5 hR5 ⊢
   obtain ⟨mb, hmb⟩ : ∃ mb, mb = w1.heap.size := ⟨_, rfl⟩
   rw [← hmb] at hM5
   simp only [← hmb]
   have hmlt := hM5.lt
   have H5 := hide (And.intro hM5 (And.intro hP5 (And.intro hb5 hR5)))
   have HG0 := hide (fun (W : World) (hb : Below w5.heap.size w5 W) => show Calls Tryz.prog 50 #[.agg #[.int .i64 20, .slice (some ad) 13 c], .int .i64 0] W (fun e w' => e = .returned (.agg #[.int .u8 99, .int .i64 0, .string (bs ck), .slice b0 0 c0]) ∧ Below W.heap.size W w') from get07_in 20 0 (by omega) (by omega) ⟨99, 0, ck, []⟩ ((H5.out.2.1.below hb).at_ 0 _ _ rfl rfl).1)
   have HG9 := hide (fun (W : World) (hb : Below w5.heap.size w5 W) => show Calls Tryz.prog 50 #[.agg #[.int .i64 20, .slice (some ad) 13 c], .int .i64 9] W (fun e w' => e = .returned (.agg #[.int .u8 110, .int .i64 0, .string ⟨#[]⟩, .slice b9 l9.length c9]) ∧ Below W.heap.size W w') from get07_in 20 9 (by omega) (by omega) ⟨110, 0, [], l9⟩ ((H5.out.2.1.below hb).at_ 9 _ _ rfl rfl).1)
   have HG10 := hide (fun (W : World) (hb : Below w5.heap.size w5 W) => show Calls Tryz.prog 50 #[.agg #[.int .i64 20, .slice (some ad) 13 c], .int .i64 10] W (fun e w' => e = .returned (.agg #[.int .u8 110, .int .i64 0, .string ⟨#[]⟩, .slice b10 l10.length c10]) ∧ Below W.heap.size W w') from get07_in 20 10 (by omega) (by omega) ⟨110, 0, [], l10⟩ ((H5.out.2.1.below hb).at_ 10 _ _ rfl rfl).1)
   have HG11 := hide (fun (W : World) (hb : Below w5.heap.size w5 W) => show Calls Tryz.prog 50 #[.agg #[.int .i64 20, .slice (some ad) 13 c], .int .i64 11] W (fun e w' => e = .returned (.agg #[.int .u8 98, .int .i64 f, .string ⟨#[]⟩, .slice b11 0 c11]) ∧ Below W.heap.size W w') from get07_in 20 11 (by omega) (by omega) ⟨98, f, [], []⟩ ((H5.out.2.1.below hb).at_ 11 _ _ rfl rfl).1)
   have HG12 := hide (fun (W : World) (hb : Below w5.heap.size w5 W) => show Calls Tryz.prog 50 #[.agg #[.int .i64 20, .slice (some ad) 13 c], .int .i64 12] W (fun e w' => e = .returned (.agg #[.int .u8 117, .int .i64 u, .string ⟨#[]⟩, .slice b12 0 c12]) ∧ Below W.heap.size W w') from get07_in 20 12 (by omega) (by omega) ⟨117, u, [], []⟩ ((H5.out.2.1.below hb).at_ 12 _ _ rfl rfl).1)
   have HGI := hide (fun (W : World) (hb : Below w5.heap.size w5 W) (i : Nat) (hi : i < 8) (B : Option Addr) (n d : Nat) (hv : ([.slice b1 l1.length c1, .slice b2 l2.length c2, .slice b3 l3.length c3, .slice b4 l4.length c4, .slice b5 l5.length c5, .slice b6 l6.length c6, .slice b7 l7.length c7, .slice b8 l8.length c8] : List Value)[i]? = some (.slice B n d)) => show Calls Tryz.prog 50 #[.agg #[.int .i64 20, .slice (some ad) 13 c], .int .i64 ((1 + i : Nat) : Int)] W (fun e w' => e = .returned (.agg #[.int .u8 110, .int .i64 0, .string ⟨#[]⟩, .slice B n d]) ∧ Below W.heap.size W w') from by
    have hl : i < [l1, l2, l3, l4, l5, l6, l7, l8, l9, l10].length := by show i < 10; omega
    have hfx : (kexFs ck [l1, l2, l3, l4, l5, l6, l7, l8, l9, l10] f u)[1 + i]? = some ⟨110, 0, [], [l1, l2, l3, l4, l5, l6, l7, l8, l9, l10][i]⟩ := by
     match i, hi with
     | 0, _ => rfl
     | 1, _ => rfl
     | 2, _ => rfl
     | 3, _ => rfl
     | 4, _ => rfl
     | 5, _ => rfl
     | 6, _ => rfl
     | 7, _ => rfl
    have hvx : ([.slice b0 0 c0, .slice b1 l1.length c1, .slice b2 l2.length c2, .slice b3 l3.length c3, .slice b4 l4.length c4, .slice b5 l5.length c5, .slice b6 l6.length c6, .slice b7 l7.length c7, .slice b8 l8.length c8, .slice b9 l9.length c9, .slice b10 l10.length c10, .slice b11 0 c11, .slice b12 0 c12] : List Value)[1 + i]? = some (.slice B n d) := by
     rw [← hv]
     match i, hi with
     | 0, _ => rfl
     | 1, _ => rfl
     | 2, _ => rfl
     | 3, _ => rfl
     | 4, _ => rfl
     | 5, _ => rfl
     | 6, _ => rfl
     | 7, _ => rfl
    have ha := (H5.out.2.1.below hb).at_ (1 + i) _ _ hfx hvx
    have hn : n = ([l1, l2, l3, l4, l5, l6, l7, l8, l9, l10][i]).length := by
     obtain ⟨_, _, e, _⟩ := ha.2
     injection e
    subst hn
    exact get07_in 20 (1 + i) (by omega) (by omega) ⟨110, 0, [], [l1, l2, l3, l4, l5, l6, l7, l8, l9, l10][i]⟩ ha.1)
   have HD := hide (And.intro hd (And.intro hf hlenK))
   clear hM5 hP5 hb5 hR5 hP hbx hmb hlen hF hd hf hlenK HS
   have HRow0 := hide (show RowI w5 [.slice b1 l1.length c1, .slice b2 l2.length c2, .slice b3 l3.length c3, .slice b4 l4.length c4, .slice b5 l5.length c5, .slice b6 l6.length c6, .slice b7 l7.length c7, .slice b8 l8.length c8] 0 none 0 0 w5 from ⟨Below.refl _ _, rfl, World.ownsRow_nil _ _ _ _⟩)
   have y0 := H5.out.1.cell 0
   have y1 := H5.out.1.cell 1
   simp at y0 y1
   go_wp2_with (first
    | (go_at_call 49; refine (HIs.out _).mono ?_; rintro e w2 ⟨rfl, hb2⟩)
    | fail)
   have HRow0 := hide (show RowI w5 [.slice b1 l1.length c1, .slice b2 l2.length c2, .slice b3 l3.length c3, .slice b4 l4.length c4, .slice b5 l5.length c5, .slice b6 l6.length c6, .slice b7 l7.length c7, .slice b8 l8.length c8] 0 none 0 0 w2 from ⟨hb2, rfl, World.ownsRow_nil _ _ _ _⟩)
   clear hb2 HIs y0 y1
   go_loopw [6, 28, 7] (fun vo vi vj wr => ∃ (i : Nat) (Ai : Option Addr) (n ci : Nat), vo = .slice Ai n ci ∧ vi = .int .i64 i ∧ i ≤ 8 ∧ Hid (RowI w5 [.slice b1 l1.length c1, .slice b2 l2.length c2, .slice b3 l3.length c3, .slice b4 l4.length c4, .slice b5 l5.length c5, .slice b6 l6.length c6, .slice b7 l7.length c7, .slice b8 l8.length c8] i Ai n ci wr)) (fun _ vi _ _ => 8 - (intOf vi).toNat)
   case atStart => exact ⟨0, none, 0, 0, rfl, rfl, Nat.zero_le _, HRow0⟩
   case round =>
    obtain ⟨i, Ai, n, ci, rfl, rfl, hi, HR⟩ := hrel
    have hmw := H5.out.1.below HR.out.bel H5.out.1.lt
    have y0 := hmw.cell 0
    have y1 := hmw.cell 1
    simp at y0 y1
    by_cases hlt : i < 8
    ·have hii : (i : Int) < 8 := by omega
     obtain ⟨B, nb, d, hv⟩ : ∃ B nb d, ([.slice b1 l1.length c1, .slice b2 l2.length c2, .slice b3 l3.length c3, .slice b4 l4.length c4, .slice b5 l5.length c5, .slice b6 l6.length c6, .slice b7 l7.length c7, .slice b8 l8.length c8] : List Value)[i]? = some (.slice B nb d) := by
      match i, hlt with
      | 0, _ => exact ⟨_, _, _, rfl⟩
      | 1, _ => exact ⟨_, _, _, rfl⟩
      | 2, _ => exact ⟨_, _, _, rfl⟩
      | 3, _ => exact ⟨_, _, _, rfl⟩
      | 4, _ => exact ⟨_, _, _, rfl⟩
      | 5, _ => exact ⟨_, _, _, rfl⟩
      | 6, _ => exact ⟨_, _, _, rfl⟩
      | 7, _ => exact ⟨_, _, _, rfl⟩
     have HG := hide (HGI.out wr HR.out.bel i hlt B nb d hv)
     obtain ⟨q, hq⟩ : ∃ q, q = 1 + i := ⟨_, rfl⟩
     rw [← hq] at HG
     have hw : IntKind.i64.wrap (1 + (i : Int)) = (q : Int) := by rw [wrap_small _ (by omega) (by omega)]; omega
     have hT := hide (show ([.slice b1 l1.length c1, .slice b2 l2.length c2, .slice b3 l3.length c3, .slice b4 l4.length c4, .slice b5 l5.length c5, .slice b6 l6.length c6, .slice b7 l7.length c7, .slice b8 l8.length c8] : List Value).take (i + 1) = ([.slice b1 l1.length c1, .slice b2 l2.length c2, .slice b3 l3.length c3, .slice b4 l4.length c4, .slice b5 l5.length c5, .slice b6 l6.length c6, .slice b7 l7.length c7, .slice b8 l8.length c8] : List Value).take i ++ [.slice B nb d] from by
      have hl8 : i < ([.slice b1 l1.length c1, .slice b2 l2.length c2, .slice b3 l3.length c3, .slice b4 l4.length c4, .slice b5 l5.length c5, .slice b6 l6.length c6, .slice b7 l7.length c7, .slice b8 l8.length c8] : List Value).length := hlt
      rw [List.getElem?_eq_getElem hl8] at hv
      rw [List.take_succ_eq_append_getElem hl8, Option.some.inj hv])
     have hfl := fieldF_l
     obtain ⟨iL, hiL, hL0, hL1, hL2⟩ := info_partsN infoLs
     have hni : n ≤ 8 := by have := HR.out.len; omega
     clear hq hv hmw
     go_wp2_with (first
      | (go_at_call 50; refine HG.out.mono ?_; rintro e w3 ⟨rfl, hb3⟩; have hown3 := own_belowN HR.out.own hb3; have hsz3 := (HR.out.bel.trans (hb3.mono HR.out.bel.size)).size)
      | (at_builtin; refine wpList_append_any _ rfl (.tmp 31) (.tmp 37) _ rfl w5.heap.size 22 iL (.slice none 0 0) 1 24 Tryz.underlying88 hiL hL0 hL1 hL2 rfl (by decide) (.slice Ai n ci) n _ rfl (hown3.alloc _) _ (some ⟨_, 0, none⟩) 1 1 [.slice B nb d] rfl (reads_blkN (Blk.new _ _ _) rfl) (by simp [Value.oneCell']) (by unfold maxLen; omega) (by omega) (by simp only [World.size_alloc]; omega) ?_; intro v6 w6 hown6 hgr6 hor6; obtain ⟨AX, cX, rfl⟩ := own_slN hown6)
      | fail)
     have hb36 := ((HR.out.bel.trans (hb3.mono HR.out.bel.size)).alloc hsz3 (.cells #[.slice B nb d] 22)).grown hgr6 (by simp only [World.size_alloc]; omega) (fun k e => (hown3.lt k e).1)
     rw [← hT.out] at hown6
     have HN := hide (show RowI w5 [.slice b1 l1.length c1, .slice b2 l2.length c2, .slice b3 l3.length c3, .slice b4 l4.length c4, .slice b5 l5.length c5, .slice b6 l6.length c6, .slice b7 l7.length c7, .slice b8 l8.length c8] (i + 1) AX (n + 1) cX w6 from ⟨hb36, by rw [HR.out.len], hown6⟩)
     clear hfl hown6 hgr6 hor6 hb36 hown3 hsz3 hb3 hiL hL0 hL1 hL2 HG HR y0 y1
     exact ⟨⟨i + 1, AX, n + 1, cX, rfl, by go_num, by omega, HN⟩, by simp [intOf]; omega⟩
    ·have hii : ¬ (i : Int) < 8 := by omega
     obtain rfl : i = 8 := by omega
     have hn8 := HR.out.len
     subst hn8
     obtain ⟨g, rfl, hTn⟩ := tn_own HR.out.own (by omega)
     have HRw := hide HR.out
     clear HR HRow0 hmw hTn hi hlt hii y0 y1
     go_upto_region 12 with fail
     go_cut [8] (fun v wx => ∃ xb, v = .pointer (some ⟨xb, 0, none⟩) ∧ Hid (Blk wx xb 45 #[.string (bs ck), .slice none 0 0, .slice none 0 0, .slice none 0 0, .slice none 0 0, .slice none 0 0, .slice none 0 0, .slice none 0 0, .slice none 0 0, .slice none 0 0, .slice none 0 0, .bool false, .bool false, .bool false, .bool false, .bool (f == 1)] ∧ Below wr.heap.size wr wx ∧ wr.heap.size ≤ xb))
     case first =>
      as_aux_lemma =>
       have hmw := H5.out.1.below HRw.out.bel H5.out.1.lt
       have y0 := hmw.cell 0
       have y1 := hmw.cell 1
       simp at y0 y1
       have hmz := hmw.lt
       have hfs := fieldF_s
       have hfn := fieldF_n
       have G0 := hide (fun (W : World) (hb : Below wr.heap.size wr W) => HG0.out W (HRw.out.bel.trans (hb.mono HRw.out.bel.size)))
       have G1 := hide (fun (W : World) (hb : Below wr.heap.size wr W) => HG11.out W (HRw.out.bel.trans (hb.mono HRw.out.bel.size)))
       clear HRw HG0 HG11 HG9 HG10 HG12 HGI H5 HD HX HW0
       refine wp_region_E (fun W => Below wr.heap.size wr W) (fun i => [0, 1, 2, 3, 4, 5, 6, 7, 8].contains i) (by kernel_rfl) ?_
       obtain ⟨Wd, hWd⟩ : ∃ Wd, Wd = wr.drew := ⟨_, rfl⟩
       have hSd : Below wr.heap.size wr Wd := by rw [hWd]; exact (Below.refl _ _).drew
       rw [← hWd]
       clear hWd y0 y1
       refine wpAnyE_take (i := 0) (oi := ?_) (v := .agg #[.int .i64 20, .slice (some ad) 13 c]) ?_ ?_ ?_ ?_ ?_ ?_ ?_ hSd ?_
       rotate_left 1
       ·(try simp only [List.getElem?_toArray, List.getElem?_cons_succ, List.getElem?_cons_zero]); exact rfl
       ·kernel_rfl
       ·kernel_rfl
       ·kernel_rfl
       ·kernel_rfl
       ·exact fun _ _ _ h => h
       ·refine Or.inl ⟨by rfl, fun w hSw => ?_⟩
        have hq := hmw.below hSw hmw.lt
        have y0 := hq.cell 0
        have y1 := hq.cell 1
        simp at y0 y1
        clear hq
        clear hSw
        go_simp
       try simp only [Act.put, List.setIfInBounds_toArray, List.set_cons_zero, List.set_cons_succ]
       refine wpAnyE_take (i := 3) (oi := ?_) (v := .agg #[.int .i64 20, .slice (some ad) 13 c]) ?_ ?_ ?_ ?_ ?_ ?_ ?_ hSd ?_
       rotate_left 1
       ·(try simp only [List.getElem?_toArray, List.getElem?_cons_succ, List.getElem?_cons_zero]); exact rfl
       ·kernel_rfl
       ·kernel_rfl
       ·kernel_rfl
       ·kernel_rfl
       ·exact fun _ _ _ h => h
       ·refine Or.inl ⟨by rfl, fun w hSw => ?_⟩
        have hq := hmw.below hSw hmw.lt
        have y0 := hq.cell 0
        have y1 := hq.cell 1
        simp at y0 y1
        clear hq
        clear hSw
        go_simp
       try simp only [Act.put, List.setIfInBounds_toArray, List.set_cons_zero, List.set_cons_succ]
       refine wpAnyE_ready (rs := [1, 8]) (by kernel_rfl) (by simp) ?_
       refine AllReadyE.cons (o := ?_) ?_ (fun K hK => ?_) (AllReadyE.cons (o := ?_) ?_ (fun K hK => ?_) AllReadyE.nil)
       rotate_left 1
       ·(try simp only [List.getElem?_toArray, List.getElem?_cons_succ, List.getElem?_cons_zero]); exact rfl
       rotate_left 2
       ·(try simp only [List.getElem?_toArray, List.getElem?_cons_succ, List.getElem?_cons_zero]); exact rfl
       rotate_left 1
       ·refine step_call2K rfl (callG (x := .tmp 40) (j := 0) _ rfl _ (by rfl) _) (G0.out _ hSd) ?_
        rintro e wp ⟨rfl, hbwp⟩
        refine ⟨_, rfl, ?_⟩
        have hSp := hSd.trans (hbwp.mono hSd.size)
        refine hK.out _ _ hSp (fun _ => ?_)
        clear hK K
        try simp only [Act.put, List.setIfInBounds_toArray, List.set_cons_zero, List.set_cons_succ]
        refine wpAnyE_take (i := 2) (oi := ?_) (v := .string (bs ck)) ?_ ?_ ?_ ?_ ?_ ?_ ?_ hSp ?_
        rotate_left 1
        ·(try simp only [List.getElem?_toArray, List.getElem?_cons_succ, List.getElem?_cons_zero]); exact rfl
        ·kernel_rfl
        ·kernel_rfl
        ·kernel_rfl
        ·kernel_rfl
        ·exact fun _ _ _ h => h
        ·refine Or.inl ⟨by rfl, fun w hSw => ?_⟩
         clear hSw
         go_simp
        try simp only [Act.put, List.setIfInBounds_toArray, List.set_cons_zero, List.set_cons_succ]
        refine wpAnyE_ready (rs := [4, 8]) (by kernel_rfl) (by simp) ?_
        refine AllReadyE.cons (o := ?_) ?_ (fun K hK => ?_) (AllReadyE.cons (o := ?_) ?_ (fun K hK => ?_) AllReadyE.nil)
        rotate_left 1
        ·(try simp only [List.getElem?_toArray, List.getElem?_cons_succ, List.getElem?_cons_zero]); exact rfl
        rotate_left 2
        ·(try simp only [List.getElem?_toArray, List.getElem?_cons_succ, List.getElem?_cons_zero]); exact rfl
        rotate_left 1
        ·refine step_call2K rfl (callG (x := .tmp 43) (j := 11) _ rfl _ (by rfl) _) (G1.out _ hSp) ?_
         rintro e wq ⟨rfl, hbwq⟩
         refine ⟨_, rfl, ?_⟩
         have hSq := hSp.trans (hbwq.mono hSp.size)
         refine hK.out _ _ hSq (fun _ => ?_)
         clear hK K
         try simp only [Act.put, List.setIfInBounds_toArray, List.set_cons_zero, List.set_cons_succ]
         refine wpAnyE_take (i := 5) (oi := ?_) (v := .int .i64 f) ?_ ?_ ?_ ?_ ?_ ?_ ?_ hSq ?_
         rotate_left 1
         ·(try simp only [List.getElem?_toArray, List.getElem?_cons_succ, List.getElem?_cons_zero]); exact rfl
         ·kernel_rfl
         ·kernel_rfl
         ·kernel_rfl
         ·kernel_rfl
         ·exact fun _ _ _ h => h
         ·refine Or.inl ⟨by rfl, fun w hSw => ?_⟩
          clear hSw
          go_simp
         try simp only [Act.put, List.setIfInBounds_toArray, List.set_cons_zero, List.set_cons_succ]
         refine wpAnyE_take (i := 6) (oi := ?_) (v := .bool (f == 1)) ?_ ?_ ?_ ?_ ?_ ?_ ?_ hSq ?_
         rotate_left 1
         ·(try simp only [List.getElem?_toArray, List.getElem?_cons_succ, List.getElem?_cons_zero]); exact rfl
         ·kernel_rfl
         ·kernel_rfl
         ·kernel_rfl
         ·kernel_rfl
         ·exact fun _ _ _ h => h
         ·refine Or.inl ⟨by rfl, fun w hSw => ?_⟩
          clear hSw
          go_simp
         try simp only [Act.put, List.setIfInBounds_toArray, List.set_cons_zero, List.set_cons_succ]
         refine wpAnyE_take (i := 7) (oi := ?_) (v := .agg #[.string (bs ck), .slice none 0 0, .slice none 0 0, .slice none 0 0, .slice none 0 0, .slice none 0 0, .slice none 0 0, .slice none 0 0, .slice none 0 0, .slice none 0 0, .slice none 0 0, .bool false, .bool false, .bool false, .bool false, .bool (f == 1)]) ?_ ?_ ?_ ?_ ?_ ?_ ?_ hSq ?_
         rotate_left 1
         ·(try simp only [List.getElem?_toArray, List.getElem?_cons_succ, List.getElem?_cons_zero]); exact rfl
         ·kernel_rfl
         ·kernel_rfl
         ·kernel_rfl
         ·kernel_rfl
         ·exact fun _ _ _ h => h
         ·refine Or.inl ⟨by rfl, fun w hSw => ?_⟩
          clear hSw
          go_simp
         try simp only [Act.put, List.setIfInBounds_toArray, List.set_cons_zero, List.set_cons_succ]
         refine wpAnyE_ready (rs := [8]) (by kernel_rfl) (by simp) ?_
         refine AllReadyE.cons (o := ?_) ?_ (fun K hK => ?_) AllReadyE.nil
         rotate_left 1
         ·(try simp only [List.getElem?_toArray, List.getElem?_cons_succ, List.getElem?_cons_zero]); exact rfl
         refine step_eqA rfl (allI _ rfl _ _) ?_
         have hX := Blk.new wq 45 #[.string ⟨#[]⟩, .slice none 0 0, .slice none 0 0, .slice none 0 0, .slice none 0 0, .slice none 0 0, .slice none 0 0, .slice none 0 0, .slice none 0 0, .slice none 0 0, .slice none 0 0, .bool false, .bool false, .bool false, .bool false, .bool false]
         have hSa := hSq.alloc hSq.size (.cells #[.string ⟨#[]⟩, .slice none 0 0, .slice none 0 0, .slice none 0 0, .slice none 0 0, .slice none 0 0, .slice none 0 0, .slice none 0 0, .slice none 0 0, .slice none 0 0, .slice none 0 0, .bool false, .bool false, .bool false, .bool false, .bool false] 45)
         refine hK.out _ _ hSa (fun _ => ?_)
         clear hK K
         try simp only [Act.put, List.setIfInBounds_toArray, List.set_cons_zero, List.set_cons_succ]
         obtain ⟨wa, hwa⟩ : ∃ wa, wa = wq.alloc (.cells #[.string ⟨#[]⟩, .slice none 0 0, .slice none 0 0, .slice none 0 0, .slice none 0 0, .slice none 0 0, .slice none 0 0, .slice none 0 0, .slice none 0 0, .slice none 0 0, .slice none 0 0, .bool false, .bool false, .bool false, .bool false, .bool false] 45) := ⟨_, rfl⟩
         rw [← hwa] at hX hSa
         simp only [← hwa]
         clear hwa
         obtain ⟨xb, hxb⟩ : ∃ xb, xb = wq.heap.size := ⟨_, rfl⟩
         have hxz : wr.heap.size ≤ xb := by rw [hxb]; exact hSq.size
         rw [← hxb] at hX
         simp only [← hxb]
         clear hxb
         refine wpAnyE_ready (rs := [9]) (by kernel_rfl) (by simp) ?_
         refine AllReadyE.late (o := ?_) ?_ rfl (fun K hK => ?_) AllReadyE.nil
         rotate_left 1
         ·(try simp only [List.getElem?_toArray, List.getElem?_cons_succ, List.getElem?_cons_zero]); exact rfl
         refine step_skipA rfl (stoI (x := .tmp 8) (y := .tmp 47) (s := bs ck) (b := (f == 1)) _ rfl _ (by rfl) (by rfl) _ hX) ?_
         refine hK.out _ _ ?_
         clear hK K
         try simp only [Act.put, List.setIfInBounds_toArray, List.set_cons_zero, List.set_cons_succ]
         refine wpAnyE_done (by kernel_rfl) ?_ _
         have hXn := sto16_blk hX (.string (bs ck)) (.slice none 0 0) (.slice none 0 0) (.slice none 0 0) (.slice none 0 0) (.slice none 0 0) (.slice none 0 0) (.slice none 0 0) (.slice none 0 0) (.slice none 0 0) (.slice none 0 0) (.bool false) (.bool false) (.bool false) (.bool false) (.bool (f == 1))
         have hBn := sto16_bel (r := xb) hSa hxz (.string (bs ck)) (.slice none 0 0) (.slice none 0 0) (.slice none 0 0) (.slice none 0 0) (.slice none 0 0) (.slice none 0 0) (.slice none 0 0) (.slice none 0 0) (.slice none 0 0) (.slice none 0 0) (.bool false) (.bool false) (.bool false) (.bool false) (.bool (f == 1))
         generalize sto16 wa xb (.string (bs ck)) (.slice none 0 0) (.slice none 0 0) (.slice none 0 0) (.slice none 0 0) (.slice none 0 0) (.slice none 0 0) (.slice none 0 0) (.slice none 0 0) (.slice none 0 0) (.slice none 0 0) (.bool false) (.bool false) (.bool false) (.bool false) (.bool (f == 1)) = wX at hXn hBn ⊢
         go_wp2_with fail
         go_meet
         exact ⟨_, rfl, hide ⟨hXn, hBn, hxz⟩⟩
        ·refine step_eqA rfl (allI _ rfl _ _) ?_
         have hX := Blk.new wp 45 #[.string ⟨#[]⟩, .slice none 0 0, .slice none 0 0, .slice none 0 0, .slice none 0 0, .slice none 0 0, .slice none 0 0, .slice none 0 0, .slice none 0 0, .slice none 0 0, .slice none 0 0, .bool false, .bool false, .bool false, .bool false, .bool false]
         have hSa := hSp.alloc hSp.size (.cells #[.string ⟨#[]⟩, .slice none 0 0, .slice none 0 0, .slice none 0 0, .slice none 0 0, .slice none 0 0, .slice none 0 0, .slice none 0 0, .slice none 0 0, .slice none 0 0, .slice none 0 0, .bool false, .bool false, .bool false, .bool false, .bool false] 45)
         refine hK.out _ _ hSa (fun _ => ?_)
         clear hK K
         try simp only [Act.put, List.setIfInBounds_toArray, List.set_cons_zero, List.set_cons_succ]
         obtain ⟨wa, hwa⟩ : ∃ wa, wa = wp.alloc (.cells #[.string ⟨#[]⟩, .slice none 0 0, .slice none 0 0, .slice none 0 0, .slice none 0 0, .slice none 0 0, .slice none 0 0, .slice none 0 0, .slice none 0 0, .slice none 0 0, .slice none 0 0, .bool false, .bool false, .bool false, .bool false, .bool false] 45) := ⟨_, rfl⟩
         rw [← hwa] at hX hSa
         simp only [← hwa]
         clear hwa
         obtain ⟨xb, hxb⟩ : ∃ xb, xb = wp.heap.size := ⟨_, rfl⟩
         have hxz : wr.heap.size ≤ xb := by rw [hxb]; exact hSp.size
         rw [← hxb] at hX
         simp only [← hxb]
         clear hxb
         refine wpAnyE_ready (rs := [4]) (by kernel_rfl) (by simp) ?_
         refine AllReadyE.cons (o := ?_) ?_ (fun K hK => ?_) AllReadyE.nil
         rotate_left 1
         ·(try simp only [List.getElem?_toArray, List.getElem?_cons_succ, List.getElem?_cons_zero]); exact rfl
         refine step_call2K rfl (callG (x := .tmp 43) (j := 11) _ rfl _ (by rfl) _) (G1.out _ hSa) ?_
         rintro e wq ⟨rfl, hbwq⟩
         refine ⟨_, rfl, ?_⟩
         have hSq := hSa.trans (hbwq.mono hSa.size)
         refine hK.out _ _ hSq (fun _ => ?_)
         clear hK K
         try simp only [Act.put, List.setIfInBounds_toArray, List.set_cons_zero, List.set_cons_succ]
         have hX := hX.below hbwq hX.lt
         refine wpAnyE_take (i := 5) (oi := ?_) (v := .int .i64 f) ?_ ?_ ?_ ?_ ?_ ?_ ?_ hSq ?_
         rotate_left 1
         ·(try simp only [List.getElem?_toArray, List.getElem?_cons_succ, List.getElem?_cons_zero]); exact rfl
         ·kernel_rfl
         ·kernel_rfl
         ·kernel_rfl
         ·kernel_rfl
         ·exact fun _ _ _ h => h
         ·refine Or.inl ⟨by rfl, fun w hSw => ?_⟩
          clear hSw
          go_simp
         try simp only [Act.put, List.setIfInBounds_toArray, List.set_cons_zero, List.set_cons_succ]
         refine wpAnyE_take (i := 6) (oi := ?_) (v := .bool (f == 1)) ?_ ?_ ?_ ?_ ?_ ?_ ?_ hSq ?_
         rotate_left 1
         ·(try simp only [List.getElem?_toArray, List.getElem?_cons_succ, List.getElem?_cons_zero]); exact rfl
         ·kernel_rfl
         ·kernel_rfl
         ·kernel_rfl
         ·kernel_rfl
         ·exact fun _ _ _ h => h
         ·refine Or.inl ⟨by rfl, fun w hSw => ?_⟩
          clear hSw
          go_simp
         try simp only [Act.put, List.setIfInBounds_toArray, List.set_cons_zero, List.set_cons_succ]
         refine wpAnyE_take (i := 7) (oi := ?_) (v := .agg #[.string (bs ck), .slice none 0 0, .slice none 0 0, .slice none 0 0, .slice none 0 0, .slice none 0 0, .slice none 0 0, .slice none 0 0, .slice none 0 0, .slice none 0 0, .slice none 0 0, .bool false, .bool false, .bool false, .bool false, .bool (f == 1)]) ?_ ?_ ?_ ?_ ?_ ?_ ?_ hSq ?_
         rotate_left 1
         ·(try simp only [List.getElem?_toArray, List.getElem?_cons_succ, List.getElem?_cons_zero]); exact rfl
         ·kernel_rfl
         ·kernel_rfl
         ·kernel_rfl
         ·kernel_rfl
         ·exact fun _ _ _ h => h
         ·refine Or.inl ⟨by rfl, fun w hSw => ?_⟩
          clear hSw
          go_simp
         try simp only [Act.put, List.setIfInBounds_toArray, List.set_cons_zero, List.set_cons_succ]
         refine wpAnyE_ready (rs := [9]) (by kernel_rfl) (by simp) ?_
         refine AllReadyE.late (o := ?_) ?_ rfl (fun K hK => ?_) AllReadyE.nil
         rotate_left 1
         ·(try simp only [List.getElem?_toArray, List.getElem?_cons_succ, List.getElem?_cons_zero]); exact rfl
         refine step_skipA rfl (stoI (x := .tmp 8) (y := .tmp 47) (s := bs ck) (b := (f == 1)) _ rfl _ (by rfl) (by rfl) _ hX) ?_
         refine hK.out _ _ ?_
         clear hK K
         try simp only [Act.put, List.setIfInBounds_toArray, List.set_cons_zero, List.set_cons_succ]
         refine wpAnyE_done (by kernel_rfl) ?_ _
         have hXn := sto16_blk hX (.string (bs ck)) (.slice none 0 0) (.slice none 0 0) (.slice none 0 0) (.slice none 0 0) (.slice none 0 0) (.slice none 0 0) (.slice none 0 0) (.slice none 0 0) (.slice none 0 0) (.slice none 0 0) (.bool false) (.bool false) (.bool false) (.bool false) (.bool (f == 1))
         have hBn := sto16_bel (r := xb) hSq hxz (.string (bs ck)) (.slice none 0 0) (.slice none 0 0) (.slice none 0 0) (.slice none 0 0) (.slice none 0 0) (.slice none 0 0) (.slice none 0 0) (.slice none 0 0) (.slice none 0 0) (.slice none 0 0) (.bool false) (.bool false) (.bool false) (.bool false) (.bool (f == 1))
         generalize sto16 wq xb (.string (bs ck)) (.slice none 0 0) (.slice none 0 0) (.slice none 0 0) (.slice none 0 0) (.slice none 0 0) (.slice none 0 0) (.slice none 0 0) (.slice none 0 0) (.slice none 0 0) (.slice none 0 0) (.bool false) (.bool false) (.bool false) (.bool false) (.bool (f == 1)) = wX at hXn hBn ⊢
         go_wp2_with fail
         go_meet
         exact ⟨_, rfl, hide ⟨hXn, hBn, hxz⟩⟩
       ·refine step_eqA rfl (allI _ rfl _ _) ?_
        have hX := Blk.new Wd 45 #[.string ⟨#[]⟩, .slice none 0 0, .slice none 0 0, .slice none 0 0, .slice none 0 0, .slice none 0 0, .slice none 0 0, .slice none 0 0, .slice none 0 0, .slice none 0 0, .slice none 0 0, .bool false, .bool false, .bool false, .bool false, .bool false]
        have hSa := hSd.alloc hSd.size (.cells #[.string ⟨#[]⟩, .slice none 0 0, .slice none 0 0, .slice none 0 0, .slice none 0 0, .slice none 0 0, .slice none 0 0, .slice none 0 0, .slice none 0 0, .slice none 0 0, .slice none 0 0, .bool false, .bool false, .bool false, .bool false, .bool false] 45)
        refine hK.out _ _ hSa (fun _ => ?_)
        clear hK K
        try simp only [Act.put, List.setIfInBounds_toArray, List.set_cons_zero, List.set_cons_succ]
        obtain ⟨wa, hwa⟩ : ∃ wa, wa = Wd.alloc (.cells #[.string ⟨#[]⟩, .slice none 0 0, .slice none 0 0, .slice none 0 0, .slice none 0 0, .slice none 0 0, .slice none 0 0, .slice none 0 0, .slice none 0 0, .slice none 0 0, .slice none 0 0, .bool false, .bool false, .bool false, .bool false, .bool false] 45) := ⟨_, rfl⟩
        rw [← hwa] at hX hSa
        simp only [← hwa]
        clear hwa
        obtain ⟨xb, hxb⟩ : ∃ xb, xb = Wd.heap.size := ⟨_, rfl⟩
        have hxz : wr.heap.size ≤ xb := by rw [hxb]; exact hSd.size
        rw [← hxb] at hX
        simp only [← hxb]
        clear hxb
        refine wpAnyE_ready (rs := [1]) (by kernel_rfl) (by simp) ?_
        refine AllReadyE.cons (o := ?_) ?_ (fun K hK => ?_) AllReadyE.nil
        rotate_left 1
        ·(try simp only [List.getElem?_toArray, List.getElem?_cons_succ, List.getElem?_cons_zero]); exact rfl
        refine step_call2K rfl (callG (x := .tmp 40) (j := 0) _ rfl _ (by rfl) _) (G0.out _ hSa) ?_
        rintro e wp ⟨rfl, hbwp⟩
        refine ⟨_, rfl, ?_⟩
        have hSp := hSa.trans (hbwp.mono hSa.size)
        refine hK.out _ _ hSp (fun _ => ?_)
        clear hK K
        try simp only [Act.put, List.setIfInBounds_toArray, List.set_cons_zero, List.set_cons_succ]
        have hX := hX.below hbwp hX.lt
        refine wpAnyE_take (i := 2) (oi := ?_) (v := .string (bs ck)) ?_ ?_ ?_ ?_ ?_ ?_ ?_ hSp ?_
        rotate_left 1
        ·(try simp only [List.getElem?_toArray, List.getElem?_cons_succ, List.getElem?_cons_zero]); exact rfl
        ·kernel_rfl
        ·kernel_rfl
        ·kernel_rfl
        ·kernel_rfl
        ·exact fun _ _ _ h => h
        ·refine Or.inl ⟨by rfl, fun w hSw => ?_⟩
         clear hSw
         go_simp
        try simp only [Act.put, List.setIfInBounds_toArray, List.set_cons_zero, List.set_cons_succ]
        refine wpAnyE_ready (rs := [4]) (by kernel_rfl) (by simp) ?_
        refine AllReadyE.cons (o := ?_) ?_ (fun K hK => ?_) AllReadyE.nil
        rotate_left 1
        ·(try simp only [List.getElem?_toArray, List.getElem?_cons_succ, List.getElem?_cons_zero]); exact rfl
        refine step_call2K rfl (callG (x := .tmp 43) (j := 11) _ rfl _ (by rfl) _) (G1.out _ hSp) ?_
        rintro e wq ⟨rfl, hbwq⟩
        refine ⟨_, rfl, ?_⟩
        have hSq := hSp.trans (hbwq.mono hSp.size)
        refine hK.out _ _ hSq (fun _ => ?_)
        clear hK K
        try simp only [Act.put, List.setIfInBounds_toArray, List.set_cons_zero, List.set_cons_succ]
        have hX := hX.below hbwq hX.lt
        refine wpAnyE_take (i := 5) (oi := ?_) (v := .int .i64 f) ?_ ?_ ?_ ?_ ?_ ?_ ?_ hSq ?_
        rotate_left 1
        ·(try simp only [List.getElem?_toArray, List.getElem?_cons_succ, List.getElem?_cons_zero]); exact rfl
        ·kernel_rfl
        ·kernel_rfl
        ·kernel_rfl
        ·kernel_rfl
        ·exact fun _ _ _ h => h
        ·refine Or.inl ⟨by rfl, fun w hSw => ?_⟩
         clear hSw
         go_simp
        try simp only [Act.put, List.setIfInBounds_toArray, List.set_cons_zero, List.set_cons_succ]
        refine wpAnyE_take (i := 6) (oi := ?_) (v := .bool (f == 1)) ?_ ?_ ?_ ?_ ?_ ?_ ?_ hSq ?_
        rotate_left 1
        ·(try simp only [List.getElem?_toArray, List.getElem?_cons_succ, List.getElem?_cons_zero]); exact rfl
        ·kernel_rfl
        ·kernel_rfl
        ·kernel_rfl
        ·kernel_rfl
        ·exact fun _ _ _ h => h
        ·refine Or.inl ⟨by rfl, fun w hSw => ?_⟩
         clear hSw
         go_simp
        try simp only [Act.put, List.setIfInBounds_toArray, List.set_cons_zero, List.set_cons_succ]
        refine wpAnyE_take (i := 7) (oi := ?_) (v := .agg #[.string (bs ck), .slice none 0 0, .slice none 0 0, .slice none 0 0, .slice none 0 0, .slice none 0 0, .slice none 0 0, .slice none 0 0, .slice none 0 0, .slice none 0 0, .slice none 0 0, .bool false, .bool false, .bool false, .bool false, .bool (f == 1)]) ?_ ?_ ?_ ?_ ?_ ?_ ?_ hSq ?_
        rotate_left 1
        ·(try simp only [List.getElem?_toArray, List.getElem?_cons_succ, List.getElem?_cons_zero]); exact rfl
        ·kernel_rfl
        ·kernel_rfl
        ·kernel_rfl
        ·kernel_rfl
        ·exact fun _ _ _ h => h
        ·refine Or.inl ⟨by rfl, fun w hSw => ?_⟩
         clear hSw
         go_simp
        try simp only [Act.put, List.setIfInBounds_toArray, List.set_cons_zero, List.set_cons_succ]
        refine wpAnyE_ready (rs := [9]) (by kernel_rfl) (by simp) ?_
        refine AllReadyE.late (o := ?_) ?_ rfl (fun K hK => ?_) AllReadyE.nil
        rotate_left 1
        ·(try simp only [List.getElem?_toArray, List.getElem?_cons_succ, List.getElem?_cons_zero]); exact rfl
        refine step_skipA rfl (stoI (x := .tmp 8) (y := .tmp 47) (s := bs ck) (b := (f == 1)) _ rfl _ (by rfl) (by rfl) _ hX) ?_
        refine hK.out _ _ ?_
        clear hK K
        try simp only [Act.put, List.setIfInBounds_toArray, List.set_cons_zero, List.set_cons_succ]
        refine wpAnyE_done (by kernel_rfl) ?_ _
        have hXn := sto16_blk hX (.string (bs ck)) (.slice none 0 0) (.slice none 0 0) (.slice none 0 0) (.slice none 0 0) (.slice none 0 0) (.slice none 0 0) (.slice none 0 0) (.slice none 0 0) (.slice none 0 0) (.slice none 0 0) (.bool false) (.bool false) (.bool false) (.bool false) (.bool (f == 1))
        have hBn := sto16_bel (r := xb) hSq hxz (.string (bs ck)) (.slice none 0 0) (.slice none 0 0) (.slice none 0 0) (.slice none 0 0) (.slice none 0 0) (.slice none 0 0) (.slice none 0 0) (.slice none 0 0) (.slice none 0 0) (.slice none 0 0) (.bool false) (.bool false) (.bool false) (.bool false) (.bool (f == 1))
        generalize sto16 wq xb (.string (bs ck)) (.slice none 0 0) (.slice none 0 0) (.slice none 0 0) (.slice none 0 0) (.slice none 0 0) (.slice none 0 0) (.slice none 0 0) (.slice none 0 0) (.slice none 0 0) (.slice none 0 0) (.bool false) (.bool false) (.bool false) (.bool false) (.bool (f == 1)) = wX at hXn hBn ⊢
        go_wp2_with fail
        go_meet
        exact ⟨_, rfl, hide ⟨hXn, hBn, hxz⟩⟩
     case rest =>
      obtain ⟨xb, rfl, HX2⟩ := hcut
      clear HGI HG0 HG11
      have hb5c := HRw.out.bel.trans (HX2.out.2.1.mono HRw.out.bel.size)
      have hownc := own_belowN HRw.out.own HX2.out.2.1
      obtain ⟨g9, eg, hTc⟩ := tn_own hownc (by omega)
      obtain rfl : g = g9 := by cases eg; rfl
      have k0 := hTc.at_ (i := 0) rfl
      have hPc := H5.out.2.1.below hb5c
      have hN1 := ((hPc.at_ 1 _ _ rfl rfl).2).mono (Nat.zero_le _)
      have hl1 := HD.out.2.2 l1 (by simp)
      have HSp := hide (split16_any (w := wc) hN1 hl1 HX2.out.1)
      have Hc := hide (And.intro hb5c (And.intro (Nat.le_trans HRw.out.bel.size HX2.out.2.2) (And.intro hownc HX2.out.1)))
      have hfn := fieldF_n
      have HO := hide (fun (W : World) => fof_any ⟨#[107, 101, 120, 105, 110, 105, 116]⟩ 3 (by decide) W)
      clear eg hTc hPc hN1 hl1 hb5c hownc HRw HX2
      unfold SplitP at HSp
      cases hm : markedL (splitM l1).rest with
      | true =>
       obtain ⟨ck', l1', l2', l3', l4', l5', l6', l7', l8', l9', l10', f', h9, h8⟩ := HOK.out
       rw [HD.out.1] at h9
       injection h9 with _ h9
       obtain ⟨_, h7, _, _⟩ := kexFs_inj (by rfl) (by rfl) h9
       injection h7 with h7 _
       rw [← h7, hm] at h8
       cases h8
      | false =>
       rw [hm] at HSp
       by_cases hu0 : u = 0
       ·subst hu0
        have HmF := hide hm
        clear hm
        go_upto_region 17 with (first
         | (go_at_call 51; refine HSp.out.mono ?_; rintro e w6 ⟨n, rfl, hNr, hX6, hg6⟩; have hb56 := Hc.out.1.grown hg6 Hc.out.1.size (fun k e => by cases e; exact Hc.out.2.1); have hm6 := H5.out.1.below hb56 H5.out.1.lt; have y0 := hm6.cell 0; have y1 := hm6.cell 1; simp at y0 y1)
         | (go_at_call 50; refine (HG12.out _ hb56).mono ?_; rintro e w7 ⟨rfl, hb7⟩; have hown7 := own_belowN (Hc.out.2.2.1.kept hg6 (.inr (own_blk_ne Hc.out.2.2.1 Hc.out.2.2.2 (by decide)))) hb7; have j0 := hown7.cellAt 0 (by omega); have j1 := hown7.frozenAt 0; simp at j0)
         | fail)
        have hst := (hown7.stored 0 (.slice b1 n c1)).1
        have hb57 := hb56.trans (hb7.mono hb56.size)
        have hgw : w5.heap.size ≤ g := (hown7.lt g rfl).1
        have hX7 := hX6.below hb7 hX6.lt
        have hxg : xb ≠ g := fun e => own_blk_ne hown7 hX7 (by decide) (by rw [e]; rfl)
        have hN7 := hNr.belowW hb7
        have hb58 := hb57.setCell (p := ⟨g, 0, none⟩) hgw (.slice b1 n c1)
        have hX8 := hX7.far (p := ⟨g, 0, none⟩) hxg (.slice b1 n c1)
        have hN8 := hN7.setSl j0 (.slice b1 n c1)
        generalize w7.setCell ⟨g, 0, none⟩ (.slice b1 n c1) = w8 at hst hb58 hX8 hN8 ⊢
        obtain ⟨g2, eg2, hT8⟩ := tn_own hst (by omega)
        obtain rfl : g = g2 := by cases eg2; rfl
        have hP8 := H5.out.2.1.below hb58
        have hnl : n = (splitM l1).rest.length := by
         obtain ⟨_, _, e, _⟩ := hN8
         injection e
        have hrl : (splitM l1).rest.length ≤ 1000000 := by
         have h2 := congrArg List.length (splitM_app l1)
         rw [List.length_append] at h2
         have := HD.out.2.2 l1 (by simp)
         omega
        have hE8 : Eight w8 g [(splitM l1).rest, l2, l3, l4, l5, l6, l7, l8] := ⟨rfl, fun l hl => by
         rcases List.mem_cons.1 hl with rfl | hl
         ·exact hrl
         ·exact HD.out.2.2 l (List.mem_cons_of_mem _ (List.mem_append_left [l9, l10] hl)), fun i l hl => by
         match i, hl with
         | 0, hl => cases hl; exact ⟨b1, c1, by rw [← hnl]; exact hT8.at_ (i := 0) rfl, by have := hN8.txc.1; rwa [hnl] at this⟩
         | 1, hl => cases hl; exact ⟨b2, c2, hT8.at_ (i := 1) rfl, ((hP8.at_ 2 _ _ rfl rfl).2).txc.1⟩
         | 2, hl => cases hl; exact ⟨b3, c3, hT8.at_ (i := 2) rfl, ((hP8.at_ 3 _ _ rfl rfl).2).txc.1⟩
         | 3, hl => cases hl; exact ⟨b4, c4, hT8.at_ (i := 3) rfl, ((hP8.at_ 4 _ _ rfl rfl).2).txc.1⟩
         | 4, hl => cases hl; exact ⟨b5, c5, hT8.at_ (i := 4) rfl, ((hP8.at_ 5 _ _ rfl rfl).2).txc.1⟩
         | 5, hl => cases hl; exact ⟨b6, c6, hT8.at_ (i := 5) rfl, ((hP8.at_ 6 _ _ rfl rfl).2).txc.1⟩
         | 6, hl => cases hl; exact ⟨b7, c7, hT8.at_ (i := 6) rfl, ((hP8.at_ 7 _ _ rfl rfl).2).txc.1⟩
         | 7, hl => cases hl; exact ⟨b8, c8, hT8.at_ (i := 7) rfl, ((hP8.at_ 8 _ _ rfl rfl).2).txc.1⟩
         | q + 8, hl => simp at hl⟩
        have HOf := hide (pof_any (c := ci) hE8)
        have H8 := hide (And.intro hb58 (And.intro hX8 hP8))
        clear hst hb57 hgw hX7 hxg hN7 hb58 hX8 hN8 eg2 hT8 hP8 hnl hE8 hown7 j0 j1 hb7 hm6 y0 y1 hNr hX6 hg6 hb56 HG12 HSp HO k0
        go_upto_region 18 with (first
         | (go_at_call 52; refine HOf.out.mono ?_; rintro e w9 ⟨B0, m0, d0, B1, m1, d1, B2, m2, d2, B3, m3, d3, B4, m4, d4, B5, m5, d5, B6, m6, d6, B7, m7, d7, rfl, hall, hb9⟩; have hX9 := H8.out.2.1.below hb9 H8.out.2.1.lt; have x1 := hX9.cell 1; have s1 := hX9.frozen 1; have x2 := hX9.cell 2; have s2 := hX9.frozen 2; have x3 := hX9.cell 3; have s3 := hX9.frozen 3; have x4 := hX9.cell 4; have s4 := hX9.frozen 4; have x5 := hX9.cell 5; have s5 := hX9.frozen 5; have x6 := hX9.cell 6; have s6 := hX9.frozen 6; have x7 := hX9.cell 7; have s7 := hX9.frozen 7; have x8 := hX9.cell 8; have s8 := hX9.frozen 8; simp at x1 x2 x3 x4 x5 x6 x7 x8)
         | fail)
        have hXA := fin8o hX9 (.slice B0 m0 d0) (.slice B1 m1 d1) (.slice B2 m2 d2) (.slice B3 m3 d3) (.slice B4 m4 d4) (.slice B5 m5 d5) (.slice B6 m6 d6) (.slice B7 m7 d7)
        have hbA := bel8o (r := xb) (H8.out.1.trans (hb9.mono H8.out.1.size)) Hc.out.2.1 (.slice B0 m0 d0) (.slice B1 m1 d1) (.slice B2 m2 d2) (.slice B3 m3 d3) (.slice B4 m4 d4) (.slice B5 m5 d5) (.slice B6 m6 d6) (.slice B7 m7 d7)
        have hallA := fun (i : Nat) v l h1 h2 => newC8o (r := xb) (hall i v l h1 h2) H8.out.2.1.lt (.slice B0 m0 d0) (.slice B1 m1 d1) (.slice B2 m2 d2) (.slice B3 m3 d3) (.slice B4 m4 d4) (.slice B5 m5 d5) (.slice B6 m6 d6) (.slice B7 m7 d7)
        generalize ((((((((w9.setCell ⟨xb, 1, none⟩ (.slice B0 m0 d0)).setCell ⟨xb, 2, none⟩ (.slice B1 m1 d1)).setCell ⟨xb, 3, none⟩ (.slice B2 m2 d2)).setCell ⟨xb, 4, none⟩ (.slice B3 m3 d3)).setCell ⟨xb, 5, none⟩ (.slice B4 m4 d4)).setCell ⟨xb, 6, none⟩ (.slice B5 m5 d5)).setCell ⟨xb, 7, none⟩ (.slice B6 m6 d6)).setCell ⟨xb, 8, none⟩ (.slice B7 m7 d7)) = wA at hXA hbA hallA ⊢
        clear hX9 hall hb9 HOf x1 s1 x2 s2 x3 s3 x4 s4 x5 s5 x6 s6 x7 s7 x8 s8
        go_cut [] (fun wx => Hid (Blk wx xb 45 #[.string (bs ck), .slice B0 m0 d0, .slice B1 m1 d1, .slice B2 m2 d2, .slice B3 m3 d3, .slice B4 m4 d4, .slice B5 m5 d5, .slice B6 m6 d6, .slice B7 m7 d7, .slice b9 l9.length c9, .slice b10 l10.length c10, .bool (splitM l1).a, .bool (splitM l1).b, .bool (splitM l1).c, .bool (splitM l1).d, .bool (f == 1)] ∧ Below w5.heap.size w5 wx ∧ ∀ (i : Nat) v l, ([.slice B0 m0 d0, .slice B1 m1 d1, .slice B2 m2 d2, .slice B3 m3 d3, .slice B4 m4 d4, .slice B5 m5 d5, .slice B6 m6 d6, .slice B7 m7 d7] : List Value)[i]? = some v → ([(splitM l1).rest, l2, l3, l4, l5, l6, l7, l8] : List (List (List UInt8)))[i]? = some l → NewC w8.heap.size wx v l))
        case first =>
         as_aux_lemma =>
          have hmw := H5.out.1.below hbA H5.out.1.lt
          have hfl := fieldF_l
          have G9 := hide (fun (W : World) (hb : Below wA.heap.size wA W) => HG9.out W (hbA.trans (hb.mono hbA.size)))
          have G10 := hide (fun (W : World) (hb : Below wA.heap.size wA W) => HG10.out W (hbA.trans (hb.mono hbA.size)))
          have HKX := hide (And.intro hXA (And.intro hbA hallA))
          have hxz : w5.heap.size ≤ xb := Hc.out.2.1
          have hx8 : xb < w8.heap.size := H8.out.2.1.lt
          clear HG9 HG10 H5 hXA hbA hallA HD HX HW0 Hc H8 HmF
          refine wp_region_E (fun W => Below wA.heap.size wA W) (fun i => [0, 1, 2, 3, 4, 5, 6].contains i) (by kernel_rfl) ?_
          obtain ⟨Wd, hWd⟩ : ∃ Wd, Wd = wA.drew := ⟨_, rfl⟩
          have hSd : Below wA.heap.size wA Wd := by rw [hWd]; exact (Below.refl _ _).drew
          rw [← hWd]
          clear hWd
          refine wpAnyE_take (i := 0) (oi := ?_) (v := .agg #[.int .i64 20, .slice (some ad) 13 c]) ?_ ?_ ?_ ?_ ?_ ?_ ?_ hSd ?_
          rotate_left 1
          ·(try simp only [List.getElem?_toArray, List.getElem?_cons_succ, List.getElem?_cons_zero]); exact rfl
          ·kernel_rfl
          ·kernel_rfl
          ·kernel_rfl
          ·kernel_rfl
          ·exact fun _ _ _ h => h
          ·refine Or.inl ⟨by rfl, fun w hSw => ?_⟩
           have hq := hmw.below hSw hmw.lt
           have y0 := hq.cell 0
           have y1 := hq.cell 1
           simp at y0 y1
           clear hq
           clear hSw
           go_simp
          try simp only [Act.put, List.setIfInBounds_toArray, List.set_cons_zero, List.set_cons_succ]
          refine wpAnyE_take (i := 3) (oi := ?_) (v := .agg #[.int .i64 20, .slice (some ad) 13 c]) ?_ ?_ ?_ ?_ ?_ ?_ ?_ hSd ?_
          rotate_left 1
          ·(try simp only [List.getElem?_toArray, List.getElem?_cons_succ, List.getElem?_cons_zero]); exact rfl
          ·kernel_rfl
          ·kernel_rfl
          ·kernel_rfl
          ·kernel_rfl
          ·exact fun _ _ _ h => h
          ·refine Or.inl ⟨by rfl, fun w hSw => ?_⟩
           have hq := hmw.below hSw hmw.lt
           have y0 := hq.cell 0
           have y1 := hq.cell 1
           simp at y0 y1
           clear hq
           clear hSw
           go_simp
          try simp only [Act.put, List.setIfInBounds_toArray, List.set_cons_zero, List.set_cons_succ]
          refine wpAnyE_ready (rs := [1]) (by kernel_rfl) (by simp) ?_
          refine AllReadyE.cons (o := ?_) ?_ (fun K hK => ?_) AllReadyE.nil
          rotate_left 1
          ·(try simp only [List.getElem?_toArray, List.getElem?_cons_succ, List.getElem?_cons_zero]); exact rfl
          refine step_call2K rfl (callG (x := .tmp 74) (j := 9) _ rfl _ (by rfl) _) (G9.out _ hSd) ?_
          rintro e wp ⟨rfl, hbwp⟩
          refine ⟨_, rfl, ?_⟩
          have hSp := hSd.trans (hbwp.mono hSd.size)
          refine hK.out _ _ hSp (fun _ => ?_)
          clear hK K
          try simp only [Act.put, List.setIfInBounds_toArray, List.set_cons_zero, List.set_cons_succ]
          refine wpAnyE_take (i := 2) (oi := ?_) (v := .slice b9 l9.length c9) ?_ ?_ ?_ ?_ ?_ ?_ ?_ hSp ?_
          rotate_left 1
          ·(try simp only [List.getElem?_toArray, List.getElem?_cons_succ, List.getElem?_cons_zero]); exact rfl
          ·kernel_rfl
          ·kernel_rfl
          ·kernel_rfl
          ·kernel_rfl
          ·exact fun _ _ _ h => h
          ·refine Or.inl ⟨by rfl, fun w hSw => ?_⟩
           clear hSw
           go_simp
          try simp only [Act.put, List.setIfInBounds_toArray, List.set_cons_zero, List.set_cons_succ]
          refine wpAnyE_ready (rs := [4]) (by kernel_rfl) (by simp) ?_
          refine AllReadyE.cons (o := ?_) ?_ (fun K hK => ?_) AllReadyE.nil
          rotate_left 1
          ·(try simp only [List.getElem?_toArray, List.getElem?_cons_succ, List.getElem?_cons_zero]); exact rfl
          refine step_call2K rfl (callG (x := .tmp 77) (j := 10) _ rfl _ (by rfl) _) (G10.out _ hSp) ?_
          rintro e wq ⟨rfl, hbwq⟩
          refine ⟨_, rfl, ?_⟩
          have hSq := hSp.trans (hbwq.mono hSp.size)
          refine hK.out _ _ hSq (fun _ => ?_)
          clear hK K
          try simp only [Act.put, List.setIfInBounds_toArray, List.set_cons_zero, List.set_cons_succ]
          refine wpAnyE_take (i := 5) (oi := ?_) (v := .slice b10 l10.length c10) ?_ ?_ ?_ ?_ ?_ ?_ ?_ hSq ?_
          rotate_left 1
          ·(try simp only [List.getElem?_toArray, List.getElem?_cons_succ, List.getElem?_cons_zero]); exact rfl
          ·kernel_rfl
          ·kernel_rfl
          ·kernel_rfl
          ·kernel_rfl
          ·exact fun _ _ _ h => h
          ·refine Or.inl ⟨by rfl, fun w hSw => ?_⟩
           clear hSw
           go_simp
          try simp only [Act.put, List.setIfInBounds_toArray, List.set_cons_zero, List.set_cons_succ]
          refine wpAnyE_take (i := 6) (oi := ?_) (v := .agg #[.slice b9 l9.length c9, .slice b10 l10.length c10]) ?_ ?_ ?_ ?_ ?_ ?_ ?_ hSq ?_
          rotate_left 1
          ·(try simp only [List.getElem?_toArray, List.getElem?_cons_succ, List.getElem?_cons_zero]); exact rfl
          ·kernel_rfl
          ·kernel_rfl
          ·kernel_rfl
          ·kernel_rfl
          ·exact fun _ _ _ h => h
          ·refine Or.inl ⟨by rfl, fun w hSw => ?_⟩
           clear hSw
           go_simp
          try simp only [Act.put, List.setIfInBounds_toArray, List.set_cons_zero, List.set_cons_succ]
          refine wpAnyE_takeY (i := 7) (oi := ?_) (v := .pointer (some ⟨xb, 9, none⟩)) ?_ ?_ ?_ ?_ ?_ ?_ ?_ ?_
          rotate_left 1
          ·(try simp only [List.getElem?_toArray, List.getElem?_cons_succ, List.getElem?_cons_zero]); exact rfl
          ·kernel_rfl
          ·kernel_rfl
          ·kernel_rfl
          ·rfl
          ·exact fun _ _ _ h => h
          ·exact Or.inl ⟨by rfl, fun w _ => by go_simp⟩
          try simp only [Act.put, List.setIfInBounds_toArray, List.set_cons_zero, List.set_cons_succ]
          refine wpAnyE_ready (rs := [8]) (by kernel_rfl) (by simp) ?_
          refine AllReadyE.late (o := ?_) ?_ rfl (fun K hK => ?_) AllReadyE.nil
          rotate_left 1
          ·(try simp only [List.getElem?_toArray, List.getElem?_cons_succ, List.getElem?_cons_zero]); exact rfl
          have hXq := HKX.out.1.below hSq HKX.out.1.lt
          refine step_skipA rfl (stoL2 (x := .tmp 81) (y := .tmp 80) _ rfl _ (by rfl) (by rfl) _ hXq (by simp)) ?_
          refine hK.out _ _ ?_
          clear hK K
          try simp only [Act.put, List.setIfInBounds_toArray, List.set_cons_zero, List.set_cons_succ]
          refine wpAnyE_done (by kernel_rfl) ?_ _
          have hXF : Blk ((wq.setCell ⟨xb, 9, none⟩ (.slice b9 l9.length c9)).setCell ⟨xb, 10, none⟩ (.slice b10 l10.length c10)) xb 45 #[.string (bs ck), .slice B0 m0 d0, .slice B1 m1 d1, .slice B2 m2 d2, .slice B3 m3 d3, .slice B4 m4 d4, .slice B5 m5 d5, .slice B6 m6 d6, .slice B7 m7 d7, .slice b9 l9.length c9, .slice b10 l10.length c10, .bool (splitM l1).a, .bool (splitM l1).b, .bool (splitM l1).c, .bool (splitM l1).d, .bool (f == 1)] := by simpa using (hXq.set_ 9 (.slice b9 l9.length c9)).set_ 10 (.slice b10 l10.length c10)
          have hBF := ((HKX.out.2.1.trans (hSq.mono HKX.out.2.1.size)).setCell (p := ⟨xb, 9, none⟩) hxz (.slice b9 l9.length c9)).setCell (p := ⟨xb, 10, none⟩) hxz (.slice b10 l10.length c10)
          have hLF : ∀ (i : Nat) v l, ([.slice B0 m0 d0, .slice B1 m1 d1, .slice B2 m2 d2, .slice B3 m3 d3, .slice B4 m4 d4, .slice B5 m5 d5, .slice B6 m6 d6, .slice B7 m7 d7] : List Value)[i]? = some v → ([(splitM l1).rest, l2, l3, l4, l5, l6, l7, l8] : List (List (List UInt8)))[i]? = some l → NewC w8.heap.size ((wq.setCell ⟨xb, 9, none⟩ (.slice b9 l9.length c9)).setCell ⟨xb, 10, none⟩ (.slice b10 l10.length c10)) v l := fun i v l h1 h2 => (((HKX.out.2.2 i v l h1 h2).belowW hSq).set_ (p := ⟨xb, 9, none⟩) hx8 (.slice b9 l9.length c9)).set_ (p := ⟨xb, 10, none⟩) hx8 (.slice b10 l10.length c10)
          generalize ((wq.setCell ⟨xb, 9, none⟩ (.slice b9 l9.length c9)).setCell ⟨xb, 10, none⟩ (.slice b10 l10.length c10)) = wX at hXF hBF hLF ⊢
          go_wp2_with fail
          go_meet
          exact hide ⟨hXF, hBF, hLF⟩
        case rest =>
         have HX9 := hcut
         clear hcut hXA hbA hallA HG9 HG10
         have hRz := H5.out.2.2.2.below HX9.out.2.1 H5.out.2.2.2.lt
         have hbz := H5.out.2.2.1.trans (HX9.out.2.1.mono H5.out.2.2.1.size)
         have hPz := H5.out.2.1.below HX9.out.2.1
         have hXz := HX9.out.1
         have hwz : w.heap.size < w8.heap.size := by have := HW0.out; have := H5.out.2.2.1.size; have := H5.out.2.2.2.lt; have := H8.out.1.size; omega
         have x0 := hXz.cell 0
         have r0 := hRz.cell 0
         have t0 := hRz.frozen 0
         have x1 := hXz.cell 1
         have r1 := hRz.cell 1
         have t1 := hRz.frozen 1
         have x2 := hXz.cell 2
         have r2 := hRz.cell 2
         have t2 := hRz.frozen 2
         have x3 := hXz.cell 3
         have r3 := hRz.cell 3
         have t3 := hRz.frozen 3
         have x4 := hXz.cell 4
         have r4 := hRz.cell 4
         have t4 := hRz.frozen 4
         have x5 := hXz.cell 5
         have r5 := hRz.cell 5
         have t5 := hRz.frozen 5
         have x6 := hXz.cell 6
         have r6 := hRz.cell 6
         have t6 := hRz.frozen 6
         have x7 := hXz.cell 7
         have r7 := hRz.cell 7
         have t7 := hRz.frozen 7
         have x8 := hXz.cell 8
         have r8 := hRz.cell 8
         have t8 := hRz.frozen 8
         have x9 := hXz.cell 9
         have r9 := hRz.cell 9
         have t9 := hRz.frozen 9
         have x10 := hXz.cell 10
         have r10 := hRz.cell 10
         have t10 := hRz.frozen 10
         have x11 := hXz.cell 11
         have r11 := hRz.cell 11
         have t11 := hRz.frozen 11
         have x12 := hXz.cell 12
         have r12 := hRz.cell 12
         have t12 := hRz.frozen 12
         have x13 := hXz.cell 13
         have r13 := hRz.cell 13
         have t13 := hRz.frozen 13
         have x14 := hXz.cell 14
         have r14 := hRz.cell 14
         have t14 := hRz.frozen 14
         have x15 := hXz.cell 15
         have r15 := hRz.cell 15
         have t15 := hRz.frozen 15
         simp at x0 r0 x1 r1 x2 r2 x3 r3 x4 r4 x5 r5 x6 r6 x7 r7 x8 r8 x9 r9 x10 r10 x11 r11 x12 r12 x13 r13 x14 r14 x15 r15
         go_wp2_with fail
         obtain ⟨wF, hwF⟩ : ∃ wF, wF = sto16 wc w.heap.size (.string (bs ck)) (.slice B0 m0 d0) (.slice B1 m1 d1) (.slice B2 m2 d2) (.slice B3 m3 d3) (.slice B4 m4 d4) (.slice B5 m5 d5) (.slice B6 m6 d6) (.slice B7 m7 d7) (.slice b9 l9.length c9) (.slice b10 l10.length c10) (.bool (splitM l1).a) (.bool (splitM l1).b) (.bool (splitM l1).c) (.bool (splitM l1).d) (.bool (f == 1)) := ⟨_, rfl⟩
         have hF := sto16_blk hRz (.string (bs ck)) (.slice B0 m0 d0) (.slice B1 m1 d1) (.slice B2 m2 d2) (.slice B3 m3 d3) (.slice B4 m4 d4) (.slice B5 m5 d5) (.slice B6 m6 d6) (.slice B7 m7 d7) (.slice b9 l9.length c9) (.slice b10 l10.length c10) (.bool (splitM l1).a) (.bool (splitM l1).b) (.bool (splitM l1).c) (.bool (splitM l1).d) (.bool (f == 1))
         have hbF := sto16_bel (r := w.heap.size) hbz (Nat.le_refl _) (.string (bs ck)) (.slice B0 m0 d0) (.slice B1 m1 d1) (.slice B2 m2 d2) (.slice B3 m3 d3) (.slice B4 m4 d4) (.slice B5 m5 d5) (.slice B6 m6 d6) (.slice B7 m7 d7) (.slice b9 l9.length c9) (.slice b10 l10.length c10) (.bool (splitM l1).a) (.bool (splitM l1).b) (.bool (splitM l1).c) (.bool (splitM l1).d) (.bool (f == 1))
         have hA10 : AllC (sto16 wc w.heap.size (.string (bs ck)) (.slice B0 m0 d0) (.slice B1 m1 d1) (.slice B2 m2 d2) (.slice B3 m3 d3) (.slice B4 m4 d4) (.slice B5 m5 d5) (.slice B6 m6 d6) (.slice B7 m7 d7) (.slice b9 l9.length c9) (.slice b10 l10.length c10) (.bool (splitM l1).a) (.bool (splitM l1).b) (.bool (splitM l1).c) (.bool (splitM l1).d) (.bool (f == 1))) [.slice B0 m0 d0, .slice B1 m1 d1, .slice B2 m2 d2, .slice B3 m3 d3, .slice B4 m4 d4, .slice B5 m5 d5, .slice B6 m6 d6, .slice B7 m7 d7, .slice b9 l9.length c9, .slice b10 l10.length c10] [(splitM l1).rest, l2, l3, l4, l5, l6, l7, l8, l9, l10] := ⟨rfl, fun i v l h1 h2 => by
          match i, h1, h2 with
          | 0, h1, h2 => cases h1; cases h2; exact ⟨(sto16_new (HX9.out.2.2 0 _ _ rfl rfl) hwz (.string (bs ck)) (.slice B0 m0 d0) (.slice B1 m1 d1) (.slice B2 m2 d2) (.slice B3 m3 d3) (.slice B4 m4 d4) (.slice B5 m5 d5) (.slice B6 m6 d6) (.slice B7 m7 d7) (.slice b9 l9.length c9) (.slice b10 l10.length c10) (.bool (splitM l1).a) (.bool (splitM l1).b) (.bool (splitM l1).c) (.bool (splitM l1).d) (.bool (f == 1))).txc, hrl⟩
          | 1, h1, h2 => cases h1; cases h2; exact ⟨(sto16_new (HX9.out.2.2 1 _ _ rfl rfl) hwz (.string (bs ck)) (.slice B0 m0 d0) (.slice B1 m1 d1) (.slice B2 m2 d2) (.slice B3 m3 d3) (.slice B4 m4 d4) (.slice B5 m5 d5) (.slice B6 m6 d6) (.slice B7 m7 d7) (.slice b9 l9.length c9) (.slice b10 l10.length c10) (.bool (splitM l1).a) (.bool (splitM l1).b) (.bool (splitM l1).c) (.bool (splitM l1).d) (.bool (f == 1))).txc, HD.out.2.2 l2 (by simp)⟩
          | 2, h1, h2 => cases h1; cases h2; exact ⟨(sto16_new (HX9.out.2.2 2 _ _ rfl rfl) hwz (.string (bs ck)) (.slice B0 m0 d0) (.slice B1 m1 d1) (.slice B2 m2 d2) (.slice B3 m3 d3) (.slice B4 m4 d4) (.slice B5 m5 d5) (.slice B6 m6 d6) (.slice B7 m7 d7) (.slice b9 l9.length c9) (.slice b10 l10.length c10) (.bool (splitM l1).a) (.bool (splitM l1).b) (.bool (splitM l1).c) (.bool (splitM l1).d) (.bool (f == 1))).txc, HD.out.2.2 l3 (by simp)⟩
          | 3, h1, h2 => cases h1; cases h2; exact ⟨(sto16_new (HX9.out.2.2 3 _ _ rfl rfl) hwz (.string (bs ck)) (.slice B0 m0 d0) (.slice B1 m1 d1) (.slice B2 m2 d2) (.slice B3 m3 d3) (.slice B4 m4 d4) (.slice B5 m5 d5) (.slice B6 m6 d6) (.slice B7 m7 d7) (.slice b9 l9.length c9) (.slice b10 l10.length c10) (.bool (splitM l1).a) (.bool (splitM l1).b) (.bool (splitM l1).c) (.bool (splitM l1).d) (.bool (f == 1))).txc, HD.out.2.2 l4 (by simp)⟩
          | 4, h1, h2 => cases h1; cases h2; exact ⟨(sto16_new (HX9.out.2.2 4 _ _ rfl rfl) hwz (.string (bs ck)) (.slice B0 m0 d0) (.slice B1 m1 d1) (.slice B2 m2 d2) (.slice B3 m3 d3) (.slice B4 m4 d4) (.slice B5 m5 d5) (.slice B6 m6 d6) (.slice B7 m7 d7) (.slice b9 l9.length c9) (.slice b10 l10.length c10) (.bool (splitM l1).a) (.bool (splitM l1).b) (.bool (splitM l1).c) (.bool (splitM l1).d) (.bool (f == 1))).txc, HD.out.2.2 l5 (by simp)⟩
          | 5, h1, h2 => cases h1; cases h2; exact ⟨(sto16_new (HX9.out.2.2 5 _ _ rfl rfl) hwz (.string (bs ck)) (.slice B0 m0 d0) (.slice B1 m1 d1) (.slice B2 m2 d2) (.slice B3 m3 d3) (.slice B4 m4 d4) (.slice B5 m5 d5) (.slice B6 m6 d6) (.slice B7 m7 d7) (.slice b9 l9.length c9) (.slice b10 l10.length c10) (.bool (splitM l1).a) (.bool (splitM l1).b) (.bool (splitM l1).c) (.bool (splitM l1).d) (.bool (f == 1))).txc, HD.out.2.2 l6 (by simp)⟩
          | 6, h1, h2 => cases h1; cases h2; exact ⟨(sto16_new (HX9.out.2.2 6 _ _ rfl rfl) hwz (.string (bs ck)) (.slice B0 m0 d0) (.slice B1 m1 d1) (.slice B2 m2 d2) (.slice B3 m3 d3) (.slice B4 m4 d4) (.slice B5 m5 d5) (.slice B6 m6 d6) (.slice B7 m7 d7) (.slice b9 l9.length c9) (.slice b10 l10.length c10) (.bool (splitM l1).a) (.bool (splitM l1).b) (.bool (splitM l1).c) (.bool (splitM l1).d) (.bool (f == 1))).txc, HD.out.2.2 l7 (by simp)⟩
          | 7, h1, h2 => cases h1; cases h2; exact ⟨(sto16_new (HX9.out.2.2 7 _ _ rfl rfl) hwz (.string (bs ck)) (.slice B0 m0 d0) (.slice B1 m1 d1) (.slice B2 m2 d2) (.slice B3 m3 d3) (.slice B4 m4 d4) (.slice B5 m5 d5) (.slice B6 m6 d6) (.slice B7 m7 d7) (.slice b9 l9.length c9) (.slice b10 l10.length c10) (.bool (splitM l1).a) (.bool (splitM l1).b) (.bool (splitM l1).c) (.bool (splitM l1).d) (.bool (f == 1))).txc, HD.out.2.2 l8 (by simp)⟩
          | 8, h1, h2 => cases h1; cases h2; exact ⟨(sto16_new ((hPz.at_ 9 _ _ rfl rfl).2) HW0.out (.string (bs ck)) (.slice B0 m0 d0) (.slice B1 m1 d1) (.slice B2 m2 d2) (.slice B3 m3 d3) (.slice B4 m4 d4) (.slice B5 m5 d5) (.slice B6 m6 d6) (.slice B7 m7 d7) (.slice b9 l9.length c9) (.slice b10 l10.length c10) (.bool (splitM l1).a) (.bool (splitM l1).b) (.bool (splitM l1).c) (.bool (splitM l1).d) (.bool (f == 1))).txc, HD.out.2.2 l9 (by simp)⟩
          | 9, h1, h2 => cases h1; cases h2; exact ⟨(sto16_new ((hPz.at_ 10 _ _ rfl rfl).2) HW0.out (.string (bs ck)) (.slice B0 m0 d0) (.slice B1 m1 d1) (.slice B2 m2 d2) (.slice B3 m3 d3) (.slice B4 m4 d4) (.slice B5 m5 d5) (.slice B6 m6 d6) (.slice B7 m7 d7) (.slice b9 l9.length c9) (.slice b10 l10.length c10) (.bool (splitM l1).a) (.bool (splitM l1).b) (.bool (splitM l1).c) (.bool (splitM l1).d) (.bool (f == 1))).txc, HD.out.2.2 l10 (by simp)⟩
          | q + 10, h1, _ => simp at h1⟩
         have hch : ((((((((((((((((wc.setCell ⟨w.heap.size, 0, none⟩ (.string (bs ck))).setCell ⟨w.heap.size, 1, none⟩ (.slice B0 m0 d0)).setCell ⟨w.heap.size, 2, none⟩ (.slice B1 m1 d1)).setCell ⟨w.heap.size, 3, none⟩ (.slice B2 m2 d2)).setCell ⟨w.heap.size, 4, none⟩ (.slice B3 m3 d3)).setCell ⟨w.heap.size, 5, none⟩ (.slice B4 m4 d4)).setCell ⟨w.heap.size, 6, none⟩ (.slice B5 m5 d5)).setCell ⟨w.heap.size, 7, none⟩ (.slice B6 m6 d6)).setCell ⟨w.heap.size, 8, none⟩ (.slice B7 m7 d7)).setCell ⟨w.heap.size, 9, none⟩ (.slice b9 l9.length c9)).setCell ⟨w.heap.size, 10, none⟩ (.slice b10 l10.length c10)).setCell ⟨w.heap.size, 11, none⟩ (.bool (splitM l1).a)).setCell ⟨w.heap.size, 12, none⟩ (.bool (splitM l1).b)).setCell ⟨w.heap.size, 13, none⟩ (.bool (splitM l1).c)).setCell ⟨w.heap.size, 14, none⟩ (.bool (splitM l1).d)).setCell ⟨w.heap.size, 15, none⟩ (.bool (f == 1))) = wF := hwF.symm
         rw [← hwF] at hF hbF hA10
         rw [hch]
         clear hwF hch
         clear hRz hbz hPz hXz x0 r0 t0 x1 r1 t1 x2 r2 t2 x3 r3 t3 x4 r4 t4 x5 r5 t5 x6 r6 t6 x7 r7 t7 x8 r8 t8 x9 r9 t9 x10 r10 t10 x11 r11 t11 x12 r12 t12 x13 r13 t13 x14 r14 t14 x15 r15 t15
         have q0 := hF.cell 0
         have q1 := hF.cell 1
         have q2 := hF.cell 2
         have q3 := hF.cell 3
         have q4 := hF.cell 4
         have q5 := hF.cell 5
         have q6 := hF.cell 6
         have q7 := hF.cell 7
         have q8 := hF.cell 8
         have q9 := hF.cell 9
         have q10 := hF.cell 10
         have q11 := hF.cell 11
         have q12 := hF.cell 12
         have q13 := hF.cell 13
         have q14 := hF.cell 14
         have q15 := hF.cell 15
         simp at q0 q1 q2 q3 q4 q5 q6 q7 q8 q9 q10 q11 q12 q13 q14 q15
         have HF := hide (show ParP pl.data.toList w (.returned (.tuple #[.agg #[.string (bs ck), .slice B0 m0 d0, .slice B1 m1 d1, .slice B2 m2 d2, .slice B3 m3 d3, .slice B4 m4 d4, .slice B5 m5 d5, .slice B6 m6 d6, .slice B7 m7 d7, .slice b9 l9.length c9, .slice b10 l10.length c10, .bool (splitM l1).a, .bool (splitM l1).b, .bool (splitM l1).c, .bool (splitM l1).d, .bool (f == 1)], .nilIface])) wF from ⟨hbF, .inl ⟨ck, l1, l2, l3, l4, l5, l6, l7, l8, l9, l10, f, B0, m0, d0, B1, m1, d1, B2, m2, d2, B3, m3, d3, B4, m4, d4, B5, m5, d5, B6, m6, d6, B7, m7, d7, b9, l9.length, c9, b10, l10.length, c10, HD.out.1, HD.out.2.1, HmF.out, rfl, hA10⟩⟩)
         clear hF hbF hA10
         exact bodyPost_ret (v := .tuple #[.agg #[.string (bs ck), .slice B0 m0 d0, .slice B1 m1 d1, .slice B2 m2 d2, .slice B3 m3 d3, .slice B4 m4 d4, .slice B5 m5 d5, .slice B6 m6 d6, .slice B7 m7 d7, .slice b9 l9.length c9, .slice b10 l10.length c10, .bool (splitM l1).a, .bool (splitM l1).b, .bool (splitM l1).c, .bool (splitM l1).d, .bool (f == 1)], .nilIface]) (by simp [results, Tryz.results18, go_sem, q0, q1, q2, q3, q4, q5, q6, q7, q8, q9, q10, q11, q12, q13, q14, q15]) rfl HF.out
       ·obtain ⟨ck', l1', l2', l3', l4', l5', l6', l7', l8', l9', l10', f', h9, h8⟩ := HOK.out
        rw [HD.out.1] at h9
        injection h9 with _ h9
        obtain ⟨_, _, _, h7⟩ := kexFs_inj (by rfl) (by rfl) h9
        exact absurd h7 hu0
  ·obtain ⟨_, _, _, _, _, _, _, _, _, _, _, _, h9, _⟩ := HOK.out
   rw [hd] at h9
   injection h9 with h9 _
   exact absurd h9 hn
 ·obtain ⟨_, _, _, _, _, _, _, _, _, _, _, _, h9, _⟩ := HOK.out
  rw [h9] at hk
  cases hk
theorem parse16_any {w : World} (pl : ByteArray) (hpl : pl.size ≤ 1000000) (hM : MaxL w) : Calls Tryz.prog 18 #[.string pl] w (ParP pl.data.toList w) := by
 by_cases h1 : ∀ l, decS pl.data.toList ≠ .ok 20 l
 ·exact parse16_a pl hpl hM h1
 ·by_cases h2 : ∃ ck l1 l2 l3 l4 l5 l6 l7 l8 l9 l10 f, decS pl.data.toList = .ok 20 (kexFs ck [l1, l2, l3, l4, l5, l6, l7, l8, l9, l10] f 0) ∧ markedL (splitM l1).rest = false
  ·exact parse16_o pl hpl hM h2
  ·refine parse16_d pl hpl hM ⟨?_, fun ck l1 l2 l3 l4 l5 l6 l7 l8 l9 l10 f hd => ?_⟩
   ·simp only [ne_eq, Classical.not_forall, Classical.not_not] at h1
    exact h1
   ·cases hm : markedL (splitM l1).rest with
    | true => rfl
    | false => exact absurd ⟨ck, l1, l2, l3, l4, l5, l6, l7, l8, l9, l10, f, hd, hm⟩ h2
end Go.Proofs.YtjaipdenahlheaaGreatDoor
