/-
  The contract of the law's awake. Conditions: the library's table.
-/
import Derived.Test.YtfjegckomjpkdaaGreatDoorRawB
set_option linter.unusedVariables false
set_option linter.unusedSimpArgs false
namespace Go.Proofs.YtfjegckomjpkdaaGreatDoor
open Go.RowKit Go.ChangeShapes Go.WideShapes Go.Sort
def partsA (b : Bool) : PartsP := ⟨eB, eB, eB, eB, tKey 0, tKey 0, tKey 0, tKey 0, b, 0, 0, 0, eB, eB⟩
theorem fitA (b : Bool) : PFit (partsA b) := ⟨Nat.le_of_ble_eq_true rfl, Nat.le_of_ble_eq_true rfl, Nat.le_of_ble_eq_true rfl, Nat.zero_le _, Nat.zero_le _, Nat.zero_le _, Nat.zero_le _, Nat.zero_le _, Nat.zero_le _⟩
theorem transA : (transO (partsA false)).map (fun t => t.l.length) = some 8 := by kernel_rfl
theorem transB : (transO (partsA true)).map (fun t => t.l.length) = some 13 := by kernel_rfl
/-- An arena of a call's own, as New makes it. -/
theorem use_new {w w' : World} {g : Nat} {S : Nat → Prop} (hT : Tab w) (h : Ar w.heap.size w' g [] S) (hb : Below w.heap.size w w') : Use w.heap.size w' g [] S :=
  ⟨h, ⟨w, hT, Nat.le_refl _, hb⟩, hb.size, Nat.zero_le _⟩
/-- A term is viewed whose terms are counted. -/
theorem view_len {T : List Tm} {n : Int} {o : Option Tm} {w w' : World} {e : Ending} {k : Nat} (h : Idn T o n) (ho : o.map (fun t => t.l.length) = some k) (hv : Viewed T n w e w') :
    ∃ x0 x1 x2 s A c, e = .returned (.tuple #[.agg #[.int .i64 x0, .int .i64 x1, .int .i64 x2, .string s, .slice A k c], .bool true]) ∧ Below w.heap.size w w' := by
  cases o with
  | none => cases ho
  | some t =>
    obtain ⟨js, A, c, _, rfl, _, hb⟩ := view_some h.1 hv
    have hk : t.l.length = k := by simpa using ho
    exact ⟨_, _, _, _, A, c, by rw [hk], hb⟩
section
variable {w : World}
set_option maxHeartbeats 2000000 in
set_option maxRecDepth 100000 in
theorem awake20_any (hT : Tab w) : Calls Tryz.prog 42 #[] w (fun e w' => e = .returned (.bool true) ∧ Below w.heap.size w w') := by
  have HN := hide (new_any w)
  have HT := hide hT
  clear hT
  go_enter Tryz.func42, Tryz.ntmps42
  go_upto_region 3 with (first
    | (go_at_call 13; refine HN.out.mono ?_; rintro e w1 ⟨g, S, rfl, hA1, hb1⟩; have hU1 := use_new HT.out hA1 hb1; have HK := hide (aKey_any hU1 0))
    | (go_at_call 29; refine HK.out.mono ?_; rintro e w2 ⟨T2, n, S2, rfl, hp2, hA2, hG2⟩)
    | fail)
  have hU2 : Use w.heap.size w2 g T2 S2 := hU1.grown hG2 hA2 (by have := hp2.len; simp at this; omega)
  have hb2 : Below w.heap.size w w2 := hb1.trans (hG2.below hb1.size hA1.sB)
  have hTl : T2.length ≤ 1 := by have := hp2.len; simpa using this
  have hi2 := hp2.idn
  clear hU1 hA1 hb1 hp2 hA2 hG2 HK HN
  go_upto_region 6 with fail
  obtain ⟨w3, hw3⟩ : ∃ w3, w3 = (w2.alloc (.cells #[.string ⟨#[]⟩, .string ⟨#[]⟩, .string ⟨#[]⟩, .string ⟨#[]⟩, .int .i64 n, .bool false, .int .u32 0, .int .u32 0, .int .u32 0, .string ⟨#[]⟩, .string ⟨#[]⟩, .int .i64 n, .int .i64 n, .int .i64 n] 86)).alloc (.cells #[.string ⟨#[]⟩, .string ⟨#[]⟩, .string ⟨#[]⟩, .string ⟨#[]⟩, .int .i64 n, .bool true, .int .u32 0, .int .u32 0, .int .u32 0, .string ⟨#[]⟩, .string ⟨#[]⟩, .int .i64 n, .int .i64 n, .int .i64 n] 86) := ⟨_, rfl⟩
  rw [← hw3]
  have hb3 : Below w2.heap.size w2 w3 := by rw [hw3]; (repeat (first | exact Below.refl _ _ | refine below_drewN ?_ _ | refine Below.drew ?_ | refine Below.alloc ?_ (by first | omega | (simp; done) | (simp; omega)) _ | refine Below.setCell ?_ (by first | omega | (simp; done) | (simp; omega)) _ | refine bel_alloc ?_ _ | refine bel_trans ?_ (by assumption) | refine Below.trans ?_ (Below.mono (by assumption) (by first | omega | (simp; done) | (simp; omega)))))
  have hz3 : w3.heap.size = w2.heap.size + 1 + 1 := by rw [hw3]; simp
  have hP3 : Blk w3 w2.heap.size 86 #[.string ⟨#[]⟩, .string ⟨#[]⟩, .string ⟨#[]⟩, .string ⟨#[]⟩, .int .i64 n, .bool false, .int .u32 0, .int .u32 0, .int .u32 0, .string ⟨#[]⟩, .string ⟨#[]⟩, .int .i64 n, .int .i64 n, .int .i64 n] := by rw [hw3]; exact blk_at rfl (by (repeat (first | exact Below.refl _ _ | refine below_drewN ?_ _ | refine Below.drew ?_ | refine Below.alloc ?_ (by first | omega | (simp; done) | (simp; omega)) _ | refine Below.setCell ?_ (by first | omega | (simp; done) | (simp; omega)) _ | refine bel_alloc ?_ _ | refine bel_trans ?_ (by assumption) | refine Below.trans ?_ (Below.mono (by assumption) (by first | omega | (simp; done) | (simp; omega))))))
  have hQ3 : Blk w3 (w2.heap.size + 1) 86 #[.string ⟨#[]⟩, .string ⟨#[]⟩, .string ⟨#[]⟩, .string ⟨#[]⟩, .int .i64 n, .bool true, .int .u32 0, .int .u32 0, .int .u32 0, .string ⟨#[]⟩, .string ⟨#[]⟩, .int .i64 n, .int .i64 n, .int .i64 n] := by rw [hw3]; exact blk_at (W := w2.alloc (.cells #[.string ⟨#[]⟩, .string ⟨#[]⟩, .string ⟨#[]⟩, .string ⟨#[]⟩, .int .i64 n, .bool false, .int .u32 0, .int .u32 0, .int .u32 0, .string ⟨#[]⟩, .string ⟨#[]⟩, .int .i64 n, .int .i64 n, .int .i64 n] 86)) (by simp) (by (repeat (first | exact Below.refl _ _ | refine below_drewN ?_ _ | refine Below.drew ?_ | refine Below.alloc ?_ (by first | omega | (simp; done) | (simp; omega)) _ | refine Below.setCell ?_ (by first | omega | (simp; done) | (simp; omega)) _ | refine bel_alloc ?_ _ | refine bel_trans ?_ (by assumption) | refine Below.trans ?_ (Below.mono (by assumption) (by first | omega | (simp; done) | (simp; omega))))))
  have hSL := hU2.ar.sL
  have hU3 := hU2.below hb3
  have HL := hide (show Calls Tryz.prog 46 #[.pointer (some ⟨g, 0, none⟩), .agg #[.string ⟨#[]⟩, .string ⟨#[]⟩, .string ⟨#[]⟩, .string ⟨#[]⟩, .int .i64 n, .bool false, .int .u32 0, .int .u32 0, .int .u32 0, .string ⟨#[]⟩, .string ⟨#[]⟩, .int .i64 n, .int .i64 n, .int .i64 n]] w3 _ from list_any hU3 (partsA false) (fitA false) hi2 hi2 hi2 hi2 (by omega))
  obtain ⟨k0, k1, k2, k3, k4, k5, k6, k7, k8, k9, k10, k11, k12, k13⟩ := cells14 hP3
  have HQ3 := hide hQ3
  have HU3 := hide hU3
  have Hb3 := hide (hb2.trans (hb3.mono hb2.size))
  have Hi2 := hide hi2
  clear hw3 hP3 hQ3 hU2 hU3 hi2 hb3
  have hwB : w.heap.size ≤ w3.heap.size := Hb3.out.size
  go_upto_region 7 with (first
    | (go_at_call 46; refine HL.out.mono ?_; rintro e w4 ⟨T4, n4, S4, rfl, hi4, hp4, hl4, hA4, hG4⟩; have HV := hide (aview_any hA4 n4))
    | (go_at_call 57; refine HV.out.mono ?_; intro e w5 hv5; obtain ⟨x0, x1, x2, xs, A5, c5, rfl, hb5⟩ := view_len hi4 transA hv5; clear hv5)
    | fail)
  clear HL HV k0 k1 k2 k3 k4 k5 k6 k7 k8 k9 k10 k11 k12 k13
  obtain ⟨w6, hw6⟩ : ∃ w6, w6 = w5.alloc (.cells #[.int .i64 x0, .int .i64 x1, .int .i64 x2, .string xs, .slice A5 8 c5] 120) := ⟨_, rfl⟩
  rw [← hw6]
  have hX6 : Blk w6 w5.heap.size 120 #[.int .i64 x0, .int .i64 x1, .int .i64 x2, .string xs, .slice A5 8 c5] := by rw [hw6]; exact Blk.new _ _ _
  have hb6 : Below w5.heap.size w5 w6 := by rw [hw6]; exact bel_new _
  have hb46 : Below w4.heap.size w4 w6 := hb5.trans (hb6.mono hb5.size)
  have hG6 : Grown S2 w3 S4 w6 := hG4.trans (Grown.of_below hb46)
  have hQ6 := hG6.outs_.blk HQ3.out (fun h => by have := hSL _ h; omega)
  have hA6 := hA4.below hb46
  have hS4 := hA4.sL
  have hU6 : Use w.heap.size w6 g T4 S4 := HU3.out.grown hG6 hA6 (by omega)
  have hi6 := Hi2.out.pre hp4
  have HL := hide (show Calls Tryz.prog 46 #[.pointer (some ⟨g, 0, none⟩), .agg #[.string ⟨#[]⟩, .string ⟨#[]⟩, .string ⟨#[]⟩, .string ⟨#[]⟩, .int .i64 n, .bool true, .int .u32 0, .int .u32 0, .int .u32 0, .string ⟨#[]⟩, .string ⟨#[]⟩, .int .i64 n, .int .i64 n, .int .i64 n]] w6 _ from list_any hU6 (partsA true) (fitA true) hi6 hi6 hi6 hi6 (by omega))
  have Hb6 := hide (Hb3.out.trans (hG6.below hwB HU3.out.ar.sB))
  obtain ⟨k0, k1, k2, k3, k4, k5, k6, k7, k8, k9, k10, k11, k12, k13⟩ := cells14 hQ6
  have HX6 := hide hX6
  have hz45 := hb5.size
  have hz56 := hb6.size
  have hwB6 : w.heap.size ≤ w6.heap.size := Hb6.out.size
  have SB := hide hA4.sB
  clear hw6 hX6 hQ6 hA6 hU6 hi6 hb6 hb46 hG6 hA4 hG4 hb5 hi4 hp4
  go_upto_region 8 with (first
    | (go_at_call 46; refine HL.out.mono ?_; rintro e w7 ⟨T7, n7, S7, rfl, hi7, hp7, hl7, hA7, hG7⟩; have HV := hide (aview_any hA7 n7))
    | (go_at_call 57; refine HV.out.mono ?_; intro e w8 hv8; obtain ⟨y0, y1, y2, ys, A8, c8, rfl, hb8⟩ := view_len hi7 transB hv8; clear hv8)
    | fail)
  clear HL HV k0 k1 k2 k3 k4 k5 k6 k7 k8 k9 k10 k11 k12 k13
  obtain ⟨w9, hw9⟩ : ∃ w9, w9 = w8.alloc (.cells #[.int .i64 y0, .int .i64 y1, .int .i64 y2, .string ys, .slice A8 13 c8] 120) := ⟨_, rfl⟩
  rw [← hw9]
  have hY9 : Blk w9 w8.heap.size 120 #[.int .i64 y0, .int .i64 y1, .int .i64 y2, .string ys, .slice A8 13 c8] := by rw [hw9]; exact Blk.new _ _ _
  have hb9 : Below w8.heap.size w8 w9 := by rw [hw9]; exact bel_new _
  have hX7 := hG7.outs_.blk HX6.out (fun h => by have := hS4 _ h; omega)
  have hX9 := (hX7.below hb8 hX7.lt).below hb9 (hX7.below hb8 hX7.lt).lt
  have e4 : w9.cell? ⟨w5.heap.size, 4, none⟩ = some (.slice A5 8 c5) := hX9.cell 4
  have f4 : w9.cell? ⟨w8.heap.size, 4, none⟩ = some (.slice A8 13 c8) := hY9.cell 4
  have hS4B : ∀ i, S4 i → w.heap.size ≤ i := SB.out
  have hbf : Below w.heap.size w w9 := Hb6.out.trans ((hG7.below hwB6 hS4B).trans ((hb8.mono (Nat.le_trans hwB6 hG7.size)).trans (hb9.mono (Nat.le_trans (Nat.le_trans hwB6 hG7.size) hb8.size))))
  clear hw9
  go_wp2
  go_ret
  exact ⟨rfl, hbf⟩
end
end Go.Proofs.YtfjegckomjpkdaaGreatDoor
