/-
  code's head at the kinds 2 and 5, whose places draw their order; head of any term that may be.
-/
import Derived.Test.YtkpikfdfekggbaaGreatDoorHeadK
import Derived.Lib.QuietBelow
namespace Go.Proofs.YtkpikfdfekggbaaGreatDoor
open Go.RowKit Go.ChangeShapes Go.WideShapes Go.Sort
section
variable {w : World}
set_option maxHeartbeats 4000000 in
theorem cHead2 (a b : Nat) (l : List UInt8) (A : Option Addr) (n c : Nat) (w : World) (ha : a < 4294967296) (hb : b < 4294967296) (hn : n < 4294967296) (hl : l.length < 4294967296) :
    Calls Tryz.prog 89 #[.agg #[.int .i64 2, .int .i64 a, .int .i64 b, .string (bs l), .slice A n c]] w (Says (head 2 a b l n) w) := by
  go_enter Tryz.func89, Tryz.ntmps89
  go_wp2_with fail
  obtain ⟨W, hW⟩ : ∃ W, W = (w.alloc (.cells #[.int .i64 2, .int .i64 a, .int .i64 b, .string (bs l), .slice A n c] 120)).alloc (.cells #[.int .u8 242] 5) := ⟨_, rfl⟩
  rw [← hW]
  have hbW : Below w.heap.size w W := by rw [hW]; exact ((Below.refl _ _).alloc (Nat.le_refl _) _).alloc (by simp) _
  have hk : Blk W w.heap.size 120 #[.int .i64 2, .int .i64 a, .int .i64 b, .string (bs l), .slice A n c] := by rw [hW]; exact (Blk.new w _ _).alloc _
  have C1 := fun dd oo => cell_regrown (v := .int .i64 a) (hk.cell 1) dd oo
  have C2 := fun dd oo => cell_regrown (v := .int .i64 b) (hk.cell 2) dd oo
  have G1 := hide (fun dd oo => Calls.regrown_of (v := .string (bs (q4 a))) (cNum_any a (grow (redrawn W dd) oo) ha))
  have G2 := hide (fun dd oo => Calls.regrown_of (v := .string (bs (q4 b))) (cNum_any b (grow (redrawn W dd) oo) hb))
  clear hW hk
  refine wp_region_quiet_below (by kernel_rfl) (by kernel_rfl) ?_
  repeat (quiet_step ((first | (go_at_call 125; with_reducible exact G1.out _ _) | (go_at_call 125; with_reducible exact G2.out _ _))))
  refine wpQuiet_nil ?_
  intro wq hwq
  have hbq : Below W.heap.size W wq := by
    obtain ⟨p, rfl⟩ := hwq
    exact below_regrown W p.d p.os
  clear hwq
  go_wp2_with fail
  go_ret
  refine ⟨ret_bs ?_, by (repeat (first | exact Below.refl _ _ | refine below_drewN ?_ _ | refine Below.drew ?_ | refine Below.alloc ?_ (by first | omega | (simp; done) | (simp; omega)) _ | refine Below.setCell ?_ (by first | omega | (simp; done) | (simp; omega)) _ | refine bel_alloc ?_ _ | refine bel_trans ?_ (by assumption) | refine Below.trans ?_ (Below.mono (by assumption) (by first | omega | (simp; done) | (simp; omega)))))⟩
  simp [head, mid, strOfNums_data, bs]
set_option maxHeartbeats 4000000 in
theorem cHead5 (a b : Nat) (l : List UInt8) (A : Option Addr) (n c : Nat) (w : World) (ha : a < 4294967296) (hb : b < 4294967296) (hn : n < 4294967296) (hl : l.length < 4294967296) :
    Calls Tryz.prog 89 #[.agg #[.int .i64 5, .int .i64 a, .int .i64 b, .string (bs l), .slice A n c]] w (Says (head 5 a b l n) w) := by
  have z1 : ¬ (9223372036854775807 < 1 + (4 + l.length)) := by omega
  have z2 : ¬ (9223372036854775807 < 1 + (4 + l.length) + 4) := by omega
  go_enter Tryz.func89, Tryz.ntmps89
  go_wp2_with fail
  obtain ⟨W, hW⟩ : ∃ W, W = (w.alloc (.cells #[.int .i64 5, .int .i64 a, .int .i64 b, .string (bs l), .slice A n c] 120)).alloc (.cells #[.int .u8 245] 5) := ⟨_, rfl⟩
  rw [← hW]
  have hbW : Below w.heap.size w W := by rw [hW]; exact ((Below.refl _ _).alloc (Nat.le_refl _) _).alloc (by simp) _
  have hk : Blk W w.heap.size 120 #[.int .i64 5, .int .i64 a, .int .i64 b, .string (bs l), .slice A n c] := by rw [hW]; exact (Blk.new w _ _).alloc _
  have C1 := fun dd oo => cell_regrown (v := .string (bs l)) (hk.cell 3) dd oo
  have C2 := fun dd oo => cell_regrown (v := .slice A n c) (hk.cell 4) dd oo
  have G1 := hide (fun dd oo => Calls.regrown_of (v := .string (bs (q4 l.length ++ l))) (cText_any l (grow (redrawn W dd) oo) hl))
  have G2 := hide (fun dd oo => Calls.regrown_of (v := .string (bs (q4 n))) (cNum_any n (grow (redrawn W dd) oo) hn))
  clear hW hk
  refine wp_region_quiet_below (by kernel_rfl) (by kernel_rfl) ?_
  repeat (quiet_step ((first | (go_at_call 124; with_reducible exact G1.out _ _) | (go_at_call 125; with_reducible exact G2.out _ _))))
  refine wpQuiet_nil ?_
  intro wq hwq
  have hbq : Below W.heap.size W wq := by
    obtain ⟨p, rfl⟩ := hwq
    exact below_regrown W p.d p.os
  clear hwq
  go_wp2_with fail
  go_ret
  refine ⟨ret_bs ?_, by (repeat (first | exact Below.refl _ _ | refine below_drewN ?_ _ | refine Below.drew ?_ | refine Below.alloc ?_ (by first | omega | (simp; done) | (simp; omega)) _ | refine Below.setCell ?_ (by first | omega | (simp; done) | (simp; omega)) _ | refine bel_alloc ?_ _ | refine bel_trans ?_ (by assumption) | refine Below.trans ?_ (Below.mono (by assumption) (by first | omega | (simp; done) | (simp; omega)))))⟩
  simp [head, mid, strOfNums_data, bs]
/-- The head of any term that may be. -/
theorem cHead_any {t : Tm} (ht : good t) (A : Option Addr) (c : Nat) (w : World) :
    Calls Tryz.prog 89 #[.agg #[.int .i64 t.k, .int .i64 t.a, .int .i64 t.b, .string t.s, .slice A t.l.length c]] w (Says (head t.k t.a t.b t.s.data.toList t.l.length) w) := by
  obtain ⟨k, a, b, s, l⟩ := t
  simp only [good] at ht
  have h1 := ht.1
  have hk := hd_k h1
  simp only [Tm.k, Tm.a, Tm.b, Tm.s, Tm.l]
  have hz := size_len s
  have hs : s = bs s.data.toList := rfl
  generalize s.data.toList = m at hz hs ⊢
  subst hs
  generalize l.length = n at h1 ⊢
  clear ht
  obtain rfl | rfl | rfl | rfl | rfl | rfl | rfl | rfl | rfl | rfl : k = 1 ∨ k = 2 ∨ k = 3 ∨ k = 4 ∨ k = 5 ∨ k = 6 ∨ k = 7 ∨ k = 8 ∨ k = 9 ∨ k = 10 := by omega
  all_goals simp only [hd] at h1
  · exact cHead1 a b m A n c w (by omega) (by omega) (by omega) (by omega)
  · exact cHead2 a b m A n c w (by omega) (by omega) (by omega) (by rw [hz, h1.2.2.2]; exact (by decide : (0 : Nat) < 4294967296))
  · exact cHead3 a b m A n c w (by omega) (by omega) (by omega) (by rw [hz, h1.2.2.2]; exact (by decide : (0 : Nat) < 4294967296))
  · exact cHead4 a b m A n c w (by omega) (by omega) (by omega) (by rw [hz, h1.2.2.2]; exact (by decide : (0 : Nat) < 4294967296))
  · exact cHead5 a b m A n c w (by omega) (by omega) (by omega) (by omega)
  · exact cHead6 a b m A n c w (by omega) (by omega) (by omega) (by omega)
  · exact cHead7 a b m A n c w (by omega) (by omega) (by omega) (by rw [hz, h1.2.2.2]; exact (by decide : (0 : Nat) < 4294967296))
  · exact cHead8 a b m A n c w (by omega) (by omega) (by omega) (by rw [hz, h1.2.2.2]; exact (by decide : (0 : Nat) < 4294967296))
  · exact cHead9 a b m A n c w (by omega) (by omega) (by omega) (by rw [hz, h1.2.2.2]; exact (by decide : (0 : Nat) < 4294967296))
  · exact cHead10 a b m A n c w (by omega) (by omega) (by omega) (by rw [hz, h1.2.2.2]; exact (by decide : (0 : Nat) < 4294967296))
end
end Go.Proofs.YtkpikfdfekggbaaGreatDoor
