/-
  test
-/
import Derived.Test.YtfjegckomjpkdaaGreatDoorRaw
import Derived.Test.YtfjegckomjpkdaaGreatDoorTransL
set_option linter.unusedVariables false
set_option linter.unusedSimpArgs false
namespace Go.Proofs.YtfjegckomjpkdaaGreatDoor
open Go.RowKit Go.ChangeShapes Go.WideShapes Go.Sort
/-- Fourteen cells, stored. -/
def sto14 (w : World) (g : Nat) (v0 v1 v2 v3 v4 v5 v6 v7 v8 v9 v10 v11 v12 v13 : Value) : World := ((((((((((((((w.setCell ⟨g, 0, none⟩ v0).setCell ⟨g, 1, none⟩ v1).setCell ⟨g, 2, none⟩ v2).setCell ⟨g, 3, none⟩ v3).setCell ⟨g, 4, none⟩ v4).setCell ⟨g, 5, none⟩ v5).setCell ⟨g, 6, none⟩ v6).setCell ⟨g, 7, none⟩ v7).setCell ⟨g, 8, none⟩ v8).setCell ⟨g, 9, none⟩ v9).setCell ⟨g, 10, none⟩ v10).setCell ⟨g, 11, none⟩ v11).setCell ⟨g, 12, none⟩ v12).setCell ⟨g, 13, none⟩ v13)
theorem sto14_blk {w : World} {g : Nat} {t : TypeId} {u0 u1 u2 u3 u4 u5 u6 u7 u8 u9 u10 u11 u12 u13 : Value} (h : Blk w g t #[u0, u1, u2, u3, u4, u5, u6, u7, u8, u9, u10, u11, u12, u13]) (v0 v1 v2 v3 v4 v5 v6 v7 v8 v9 v10 v11 v12 v13 : Value) : Blk (sto14 w g v0 v1 v2 v3 v4 v5 v6 v7 v8 v9 v10 v11 v12 v13) g t #[v0, v1, v2, v3, v4, v5, v6, v7, v8, v9, v10, v11, v12, v13] := by
  have := ((((((((((((((h.set_ 0 v0).set_ 1 v1).set_ 2 v2).set_ 3 v3).set_ 4 v4).set_ 5 v5).set_ 6 v6).set_ 7 v7).set_ 8 v8).set_ 9 v9).set_ 10 v10).set_ 11 v11).set_ 12 v12).set_ 13 v13)
  simpa [sto14] using this
theorem sto14_far {w : World} {g g' : Nat} {t : TypeId} {cs : Array Value} (h : Blk w g' t cs) (hne : g' ≠ g) (v0 v1 v2 v3 v4 v5 v6 v7 v8 v9 v10 v11 v12 v13 : Value) : Blk (sto14 w g v0 v1 v2 v3 v4 v5 v6 v7 v8 v9 v10 v11 v12 v13) g' t cs := ((((((((((((((h.far (p := ⟨g, 0, none⟩) hne v0).far (p := ⟨g, 1, none⟩) hne v1).far (p := ⟨g, 2, none⟩) hne v2).far (p := ⟨g, 3, none⟩) hne v3).far (p := ⟨g, 4, none⟩) hne v4).far (p := ⟨g, 5, none⟩) hne v5).far (p := ⟨g, 6, none⟩) hne v6).far (p := ⟨g, 7, none⟩) hne v7).far (p := ⟨g, 8, none⟩) hne v8).far (p := ⟨g, 9, none⟩) hne v9).far (p := ⟨g, 10, none⟩) hne v10).far (p := ⟨g, 11, none⟩) hne v11).far (p := ⟨g, 12, none⟩) hne v12).far (p := ⟨g, 13, none⟩) hne v13)
theorem sto14_below {B : Nat} {w0 w : World} {g : Nat} (h : Below B w0 w) (hg : B ≤ g) (v0 v1 v2 v3 v4 v5 v6 v7 v8 v9 v10 v11 v12 v13 : Value) : Below B w0 (sto14 w g v0 v1 v2 v3 v4 v5 v6 v7 v8 v9 v10 v11 v12 v13) := ((((((((((((((h.setCell (p := ⟨g, 0, none⟩) hg v0).setCell (p := ⟨g, 1, none⟩) hg v1).setCell (p := ⟨g, 2, none⟩) hg v2).setCell (p := ⟨g, 3, none⟩) hg v3).setCell (p := ⟨g, 4, none⟩) hg v4).setCell (p := ⟨g, 5, none⟩) hg v5).setCell (p := ⟨g, 6, none⟩) hg v6).setCell (p := ⟨g, 7, none⟩) hg v7).setCell (p := ⟨g, 8, none⟩) hg v8).setCell (p := ⟨g, 9, none⟩) hg v9).setCell (p := ⟨g, 10, none⟩) hg v10).setCell (p := ⟨g, 11, none⟩) hg v11).setCell (p := ⟨g, 12, none⟩) hg v12).setCell (p := ⟨g, 13, none⟩) hg v13)
section
variable {w : World} {T : List Tm} {ms : List (Option Tm)} {v1 v2 : Value}
set_option maxHeartbeats 2000000 in
set_option maxRecDepth 100000 in
theorem parts_any (h : Md w T ms v1 v2) (x : RawP) (hf : RawFit x) (hm : ms.length ≤ 1000000000) : Calls Tryz.prog 43 #[rawV x, .agg #[v1, v2]] w (fun e w' => ∃ nk ne nf ns, e = .returned (.tuple #[partsV (partsR ms x) nk ne nf ns, parts2V (partsR ms x)]) ∧ Idn T (pickO ms x.t0) nk ∧ Idn T (pickO ms x.t1) ne ∧ Idn T (pickO ms x.t2) nf ∧ Idn T (pickO ms x.t3) ns ∧ Below w.heap.size w w') := by
  have W1 : IntKind.i64.wrap (x.w0 : Int) = x.w0 := by have := hf.w0; rw [IntKind.wrap_i64]; omega
  have W2 : IntKind.i64.wrap (x.w1 : Int) = x.w1 := by have := hf.w1; rw [IntKind.wrap_i64]; omega
  have W3 : IntKind.i64.wrap (x.w2 : Int) = x.w2 := by have := hf.w2; rw [IntKind.wrap_i64]; omega
  obtain ⟨A1, c1, A2, c2, rfl, rfl, _⟩ := h.open_
  unfold rawV
  obtain ⟨W0, hW0⟩ : ∃ W0, W0 = (((w.alloc (.cells #[.string x.v0, .string x.v1, .string x.v2, .string x.v3, .int .i64 x.t0, .int .i64 x.t1, .int .i64 x.t2, .int .i64 x.t3, .bool x.asks, .int .u32 x.w0, .int .u32 x.w1, .int .u32 x.w2, .string x.gp, .string x.gg] 82)).alloc (.cells #[.slice A1 ms.length c1, .slice A2 ms.length c2] 31)).alloc (.cells #[.string ⟨#[]⟩, .string ⟨#[]⟩, .string ⟨#[]⟩, .string ⟨#[]⟩, .int .i64 0, .bool false, .int .u32 0, .int .u32 0, .int .u32 0, .string ⟨#[]⟩, .string ⟨#[]⟩, .int .i64 0, .int .i64 0, .int .i64 0] 86)).alloc (.cells #[.string ⟨#[]⟩, .string ⟨#[]⟩, .string ⟨#[]⟩, .string ⟨#[]⟩, .string ⟨#[]⟩, .bool false, .int .i64 0, .int .i64 0, .int .i64 0, .string ⟨#[]⟩, .string ⟨#[]⟩, .string ⟨#[]⟩, .string ⟨#[]⟩, .string ⟨#[]⟩] 88) := ⟨_, rfl⟩
  have hb0 : Below w.heap.size w W0 := by rw [hW0]; (repeat (first | exact Below.refl _ _ | refine below_drewN ?_ _ | refine Below.drew ?_ | refine Below.alloc ?_ (by first | omega | (simp; done) | (simp; omega)) _ | refine Below.setCell ?_ (by first | omega | (simp; done) | (simp; omega)) _ | refine bel_alloc ?_ _ | refine bel_trans ?_ (by assumption) | refine Below.trans ?_ (Below.mono (by assumption) (by first | omega | (simp; done) | (simp; omega)))))
  have hz0 : W0.heap.size = w.heap.size + 4 := by rw [hW0]; simp
  have hB0 : Blk W0 w.heap.size 82 #[.string x.v0, .string x.v1, .string x.v2, .string x.v3, .int .i64 x.t0, .int .i64 x.t1, .int .i64 x.t2, .int .i64 x.t3, .bool x.asks, .int .u32 x.w0, .int .u32 x.w1, .int .u32 x.w2, .string x.gp, .string x.gg] := by rw [hW0]; exact blk_at rfl (by (repeat (first | exact Below.refl _ _ | refine below_drewN ?_ _ | refine Below.drew ?_ | refine Below.alloc ?_ (by first | omega | (simp; done) | (simp; omega)) _ | refine Below.setCell ?_ (by first | omega | (simp; done) | (simp; omega)) _ | refine bel_alloc ?_ _ | refine bel_trans ?_ (by assumption) | refine Below.trans ?_ (Below.mono (by assumption) (by first | omega | (simp; done) | (simp; omega))))))
  have hB1 : Blk W0 (w.heap.size + 1) 31 #[.slice A1 ms.length c1, .slice A2 ms.length c2] := by rw [hW0]; exact blk_at (W := w.alloc (.cells #[.string x.v0, .string x.v1, .string x.v2, .string x.v3, .int .i64 x.t0, .int .i64 x.t1, .int .i64 x.t2, .int .i64 x.t3, .bool x.asks, .int .u32 x.w0, .int .u32 x.w1, .int .u32 x.w2, .string x.gp, .string x.gg] 82)) (by simp) (by (repeat (first | exact Below.refl _ _ | refine below_drewN ?_ _ | refine Below.drew ?_ | refine Below.alloc ?_ (by first | omega | (simp; done) | (simp; omega)) _ | refine Below.setCell ?_ (by first | omega | (simp; done) | (simp; omega)) _ | refine bel_alloc ?_ _ | refine bel_trans ?_ (by assumption) | refine Below.trans ?_ (Below.mono (by assumption) (by first | omega | (simp; done) | (simp; omega))))))
  have hB2 : Blk W0 (w.heap.size + 1 + 1) 86 #[.string ⟨#[]⟩, .string ⟨#[]⟩, .string ⟨#[]⟩, .string ⟨#[]⟩, .int .i64 0, .bool false, .int .u32 0, .int .u32 0, .int .u32 0, .string ⟨#[]⟩, .string ⟨#[]⟩, .int .i64 0, .int .i64 0, .int .i64 0] := by rw [hW0]; exact blk_at (W := (w.alloc (.cells #[.string x.v0, .string x.v1, .string x.v2, .string x.v3, .int .i64 x.t0, .int .i64 x.t1, .int .i64 x.t2, .int .i64 x.t3, .bool x.asks, .int .u32 x.w0, .int .u32 x.w1, .int .u32 x.w2, .string x.gp, .string x.gg] 82)).alloc (.cells #[.slice A1 ms.length c1, .slice A2 ms.length c2] 31)) (by simp) (by (repeat (first | exact Below.refl _ _ | refine below_drewN ?_ _ | refine Below.drew ?_ | refine Below.alloc ?_ (by first | omega | (simp; done) | (simp; omega)) _ | refine Below.setCell ?_ (by first | omega | (simp; done) | (simp; omega)) _ | refine bel_alloc ?_ _ | refine bel_trans ?_ (by assumption) | refine Below.trans ?_ (Below.mono (by assumption) (by first | omega | (simp; done) | (simp; omega))))))
  have hB3 : Blk W0 (w.heap.size + 1 + 1 + 1) 88 #[.string ⟨#[]⟩, .string ⟨#[]⟩, .string ⟨#[]⟩, .string ⟨#[]⟩, .string ⟨#[]⟩, .bool false, .int .i64 0, .int .i64 0, .int .i64 0, .string ⟨#[]⟩, .string ⟨#[]⟩, .string ⟨#[]⟩, .string ⟨#[]⟩, .string ⟨#[]⟩] := by rw [hW0]; exact blk_at (W := ((w.alloc (.cells #[.string x.v0, .string x.v1, .string x.v2, .string x.v3, .int .i64 x.t0, .int .i64 x.t1, .int .i64 x.t2, .int .i64 x.t3, .bool x.asks, .int .u32 x.w0, .int .u32 x.w1, .int .u32 x.w2, .string x.gp, .string x.gg] 82)).alloc (.cells #[.slice A1 ms.length c1, .slice A2 ms.length c2] 31)).alloc (.cells #[.string ⟨#[]⟩, .string ⟨#[]⟩, .string ⟨#[]⟩, .string ⟨#[]⟩, .int .i64 0, .bool false, .int .u32 0, .int .u32 0, .int .u32 0, .string ⟨#[]⟩, .string ⟨#[]⟩, .int .i64 0, .int .i64 0, .int .i64 0] 86)) (by simp) (by (repeat (first | exact Below.refl _ _ | refine below_drewN ?_ _ | refine Below.drew ?_ | refine Below.alloc ?_ (by first | omega | (simp; done) | (simp; omega)) _ | refine Below.setCell ?_ (by first | omega | (simp; done) | (simp; omega)) _ | refine bel_alloc ?_ _ | refine bel_trans ?_ (by assumption) | refine Below.trans ?_ (Below.mono (by assumption) (by first | omega | (simp; done) | (simp; omega))))))
  have KR := hide (fun (W : World) (hb : Below W0.heap.size W0 W) => cells14 (hB0.below hb (by omega)))
  have KM := hide (fun (W : World) (hb : Below W0.heap.size W0 W) => (⟨(hB1.below hb (by omega)).cell 0, (hB1.below hb (by omega)).cell 1⟩ : W.cell? ⟨w.heap.size + 1, 0, none⟩ = some (.slice A1 ms.length c1) ∧ W.cell? ⟨w.heap.size + 1, 1, none⟩ = some (.slice A2 ms.length c2)))
  have HB2 := hide hB2
  have HB3 := hide hB3
  have HP0 := hide (fun (W : World) (hb : Below W0.heap.size W0 W) => pick_any (h.below (hb0.trans (hb.mono hb0.size))) x.t0 hm)
  have HP1 := hide (fun (W : World) (hb : Below W0.heap.size W0 W) => pick_any (h.below (hb0.trans (hb.mono hb0.size))) x.t1 hm)
  have HP2 := hide (fun (W : World) (hb : Below W0.heap.size W0 W) => pick_any (h.below (hb0.trans (hb.mono hb0.size))) x.t2 hm)
  have HP3 := hide (fun (W : World) (hb : Below W0.heap.size W0 W) => pick_any (h.below (hb0.trans (hb.mono hb0.size))) x.t3 hm)
  obtain ⟨a0, a1, a2, a3, a4, a5, a6, a7, a8, a9, a10, a11, a12, a13⟩ := KR.out W0 (Below.refl _ _)
  obtain ⟨d0, d1⟩ := KM.out W0 (Below.refl _ _)
  clear hB0 hB1 hB2 hB3 h
  go_enter Tryz.func43, Tryz.ntmps43
  go_upto_region 1 with fail
  rw [← hW0]
  clear hW0
  go_upto_region 5 with (first
    | (go_at_call 22; (with_reducible refine (HP0.out _ (by (repeat (first | exact Below.refl _ _ | refine below_drewN ?_ _ | refine Below.drew ?_ | refine Below.alloc ?_ (by first | omega | (simp; done) | (simp; omega)) _ | refine Below.setCell ?_ (by first | omega | (simp; done) | (simp; omega)) _ | refine bel_alloc ?_ _ | refine bel_trans ?_ (by assumption) | refine Below.trans ?_ (Below.mono (by assumption) (by first | omega | (simp; done) | (simp; omega))))))).mono ?_); rintro e w1 ⟨n0, rfl, hi0, hb1⟩; have b1 : Below W0.heap.size W0 w1 := hb1; clear a0 a1 a2 a3 a4 a5 a6 a7 a8 a9 a10 a11 a12 a13 d0 d1; obtain ⟨a0, a1, a2, a3, a4, a5, a6, a7, a8, a9, a10, a11, a12, a13⟩ := KR.out w1 b1; obtain ⟨d0, d1⟩ := KM.out w1 b1)
    | (go_at_call 22; (with_reducible refine (HP1.out _ b1).mono ?_); rintro e w2 ⟨n1, rfl, hi1, hb2⟩; have b2 : Below W0.heap.size W0 w2 := b1.trans (hb2.mono b1.size); clear a0 a1 a2 a3 a4 a5 a6 a7 a8 a9 a10 a11 a12 a13 d0 d1; obtain ⟨a0, a1, a2, a3, a4, a5, a6, a7, a8, a9, a10, a11, a12, a13⟩ := KR.out w2 b2; obtain ⟨d0, d1⟩ := KM.out w2 b2)
    | (go_at_call 22; (with_reducible refine (HP2.out _ b2).mono ?_); rintro e w3 ⟨n2, rfl, hi2, hb3⟩; have b3 : Below W0.heap.size W0 w3 := b2.trans (hb3.mono b2.size); clear a0 a1 a2 a3 a4 a5 a6 a7 a8 a9 a10 a11 a12 a13 d0 d1; obtain ⟨a0, a1, a2, a3, a4, a5, a6, a7, a8, a9, a10, a11, a12, a13⟩ := KR.out w3 b3; obtain ⟨d0, d1⟩ := KM.out w3 b3)
    | (go_at_call 22; (with_reducible refine (HP3.out _ b3).mono ?_); rintro e w4 ⟨n3, rfl, hi3, hb4⟩; have b4 : Below W0.heap.size W0 w4 := b3.trans (hb4.mono b3.size); clear a0 a1 a2 a3 a4 a5 a6 a7 a8 a9 a10 a11 a12 a13 d0 d1; obtain ⟨a0, a1, a2, a3, a4, a5, a6, a7, a8, a9, a10, a11, a12, a13⟩ := KR.out w4 b4)
    | fail)
  clear HP0 HP1 HP2 HP3 KM b1 b2 b3 hb1 hb2 hb3
  go_upto_region 6 with fail
  obtain ⟨w5, hw5⟩ : ∃ w5, w5 = w4.alloc (.cells #[.string x.v0, .string x.v1, .string x.v2, .string x.v3, .int .i64 n0, .bool x.asks, .int .u32 x.w0, .int .u32 x.w1, .int .u32 x.w2, .string x.gp, .string x.gg, .int .i64 n1, .int .i64 n2, .int .i64 n3] 86) := ⟨_, rfl⟩
  rw [← hw5]
  have hb5 : Below w4.heap.size w4 w5 := by rw [hw5]; exact bel_new _
  have b5 : Below W0.heap.size W0 w5 := b4.trans (hb5.mono b4.size)
  have hP5 : Blk w5 w4.heap.size 86 #[.string x.v0, .string x.v1, .string x.v2, .string x.v3, .int .i64 n0, .bool x.asks, .int .u32 x.w0, .int .u32 x.w1, .int .u32 x.w2, .string x.gp, .string x.gg, .int .i64 n1, .int .i64 n2, .int .i64 n3] := by rw [hw5]; exact Blk.new _ _ _
  have HP5 := hide hP5
  have hb5lt := hP5.lt
  clear a0 a1 a2 a3 a4 a5 a6 a7 a8 a9 a10 a11 a12 a13 hw5 hP5
  obtain ⟨a0, a1, a2, a3, a4, a5, a6, a7, a8, a9, a10, a11, a12, a13⟩ := KR.out w5 b5
  go_upto_region 7 with fail
  obtain ⟨w6, hw6⟩ : ∃ w6, w6 = w5.alloc (.cells #[.string x.v0, .string x.v1, .string x.v2, .string x.v3, .string (bs (txt (pickO ms x.t0))), .bool x.asks, .int .i64 0, .int .i64 0, .int .i64 0, .string x.gp, .string x.gg, .string (bs (txt (pickO ms x.t1))), .string (bs (txt (pickO ms x.t2))), .string (bs (txt (pickO ms x.t3)))] 88) := ⟨_, rfl⟩
  rw [← hw6]
  have hb6 : Below w5.heap.size w5 w6 := by rw [hw6]; exact bel_new _
  have hQ6 : Blk w6 w5.heap.size 88 #[.string x.v0, .string x.v1, .string x.v2, .string x.v3, .string (bs (txt (pickO ms x.t0))), .bool x.asks, .int .i64 0, .int .i64 0, .int .i64 0, .string x.gp, .string x.gg, .string (bs (txt (pickO ms x.t1))), .string (bs (txt (pickO ms x.t2))), .string (bs (txt (pickO ms x.t3)))] := by rw [hw6]; exact Blk.new _ _ _
  have HQ6 := hide hQ6
  clear a0 a1 a2 a3 a4 a5 a6 a7 a8 a9 a10 a11 a12 a13 hw6 hQ6
  go_wp2_with fail
  go_loopw [16] (fun vi wr => ∃ (i f0 f1 f2 : Nat), vi = .int .i64 i ∧ ((i = 0 ∧ f0 = 0 ∧ f1 = 0 ∧ f2 = 0) ∨ (i = 1 ∧ f0 = x.w0 ∧ f1 = 0 ∧ f2 = 0) ∨ (i = 2 ∧ f0 = x.w0 ∧ f1 = x.w1 ∧ f2 = 0) ∨ (i = 3 ∧ f0 = x.w0 ∧ f1 = x.w1 ∧ f2 = x.w2)) ∧ Below w5.heap.size w5 wr ∧ Blk wr w5.heap.size 88 #[.string x.v0, .string x.v1, .string x.v2, .string x.v3, .string (bs (txt (pickO ms x.t0))), .bool x.asks, .int .i64 f0, .int .i64 f1, .int .i64 f2, .string x.gp, .string x.gg, .string (bs (txt (pickO ms x.t1))), .string (bs (txt (pickO ms x.t2))), .string (bs (txt (pickO ms x.t3)))]) (fun vi _ => 3 - (intOf vi).toNat)
  case atStart => exact ⟨0, 0, 0, 0, rfl, .inl ⟨rfl, rfl, rfl, rfl⟩, hb6, HQ6.out⟩
  case round =>
    obtain ⟨i, f0, f1, f2, rfl, hc, hb7, hQ7⟩ := hrel
    have b7 : Below W0.heap.size W0 wr := b5.trans (hb7.mono b5.size)
    have hq7 := hQ7.lt
    obtain ⟨a0, a1, a2, a3, a4, a5, a6, a7, a8, a9, a10, a11, a12, a13⟩ := KR.out wr b7
    have HQ7 := hide hQ7
    have g6 : wr.cell? ⟨w5.heap.size, 6, none⟩ = some (.int .i64 f0) := hQ7.cell 6
    have g7 : wr.cell? ⟨w5.heap.size, 7, none⟩ = some (.int .i64 f1) := hQ7.cell 7
    have g8 : wr.cell? ⟨w5.heap.size, 8, none⟩ = some (.int .i64 f2) := hQ7.cell 8
    have r6 := hQ7.frozen 6
    have r7 := hQ7.frozen 7
    have r8 := hQ7.frozen 8
    clear hQ7
    rcases hc with ⟨rfl, rfl, rfl, rfl⟩ | ⟨rfl, rfl, rfl, rfl⟩ | ⟨rfl, rfl, rfl, rfl⟩ | ⟨rfl, rfl, rfl, rfl⟩
    · go_wp2
      refine ⟨⟨1, x.w0, 0, 0, by go_num, .inr (.inl ⟨rfl, rfl, rfl, rfl⟩), ?_, ?_⟩, by simp [intOf]⟩
      · exact hb7.setCell (p := ⟨w5.heap.size, 6, none⟩) (Nat.le_refl _) _
      · have := HQ7.out.set_ 6 (.int .i64 x.w0)
        simpa using this
    · go_wp2
      refine ⟨⟨2, x.w0, x.w1, 0, by go_num, .inr (.inr (.inl ⟨rfl, rfl, rfl, rfl⟩)), ?_, ?_⟩, by simp [intOf]⟩
      · exact hb7.setCell (p := ⟨w5.heap.size, 7, none⟩) (Nat.le_refl _) _
      · have := HQ7.out.set_ 7 (.int .i64 x.w1)
        simpa using this
    · go_wp2
      refine ⟨⟨3, x.w0, x.w1, x.w2, by go_num, .inr (.inr (.inr ⟨rfl, rfl, rfl, rfl⟩)), ?_, ?_⟩, by simp [intOf]⟩
      · exact hb7.setCell (p := ⟨w5.heap.size, 8, none⟩) (Nat.le_refl _) _
      · have := HQ7.out.set_ 8 (.int .i64 x.w2)
        simpa using this
    · clear a0 a1 a2 a3 a4 a5 a6 a7 a8 a9 a10 a11 a12 a13
      go_upto_region 11 with fail
      have hP7 := HP5.out.below hb7 hb5lt
      have hB27 := HB2.out.below b7 (by omega)
      have hB37 := HB3.out.below b7 (by omega)
      have HB27 := hide hB27
      have HB37 := hide hB37
      clear r6 r7 r8 g6 g7 g8
      obtain ⟨p0, p1, p2, p3, p4, p5, p6, p7, p8, p9, p10, p11, p12, p13⟩ := cells14 hP7
      obtain ⟨q0, q1, q2, q3, q4, q5, q6, q7, q8, q9, q10, q11, q12, q13⟩ := cells14 HQ7.out
      obtain ⟨t0, t1, t2, t3, t4, t5, t6, t7, t8, t9, t10, t11, t12, t13⟩ := cells14 hB27
      obtain ⟨u0, u1, u2, u3, u4, u5, u6, u7, u8, u9, u10, u11, u12, u13⟩ := cells14 hB37
      have fa0 := hB27.frozen 0
      have fb0 := hB37.frozen 0
      have fa1 := hB27.frozen 1
      have fb1 := hB37.frozen 1
      have fa2 := hB27.frozen 2
      have fb2 := hB37.frozen 2
      have fa3 := hB27.frozen 3
      have fb3 := hB37.frozen 3
      have fa4 := hB27.frozen 4
      have fb4 := hB37.frozen 4
      have fa5 := hB27.frozen 5
      have fb5 := hB37.frozen 5
      have fa6 := hB27.frozen 6
      have fb6 := hB37.frozen 6
      have fa7 := hB27.frozen 7
      have fb7 := hB37.frozen 7
      have fa8 := hB27.frozen 8
      have fb8 := hB37.frozen 8
      have fa9 := hB27.frozen 9
      have fb9 := hB37.frozen 9
      have fa10 := hB27.frozen 10
      have fb10 := hB37.frozen 10
      have fa11 := hB27.frozen 11
      have fb11 := hB37.frozen 11
      have fa12 := hB27.frozen 12
      have fb12 := hB37.frozen 12
      have fa13 := hB27.frozen 13
      have fb13 := hB37.frozen 13
      have z4 := b4.size
      have z5 := b5.size
      have ne0 : ¬ (w5.heap.size = w.heap.size + 1 + 1) := by omega
      have me0 : ¬ (w.heap.size + 1 + 1 = w5.heap.size) := by omega
      have ne1 : ¬ (w5.heap.size = w.heap.size + 1 + 1 + 1) := by omega
      have me1 : ¬ (w.heap.size + 1 + 1 + 1 = w5.heap.size) := by omega
      have ne2 : ¬ (w4.heap.size = w.heap.size + 1 + 1) := by omega
      have me2 : ¬ (w.heap.size + 1 + 1 = w4.heap.size) := by omega
      have ne3 : ¬ (w4.heap.size = w.heap.size + 1 + 1 + 1) := by omega
      have me3 : ¬ (w.heap.size + 1 + 1 + 1 = w4.heap.size) := by omega
      clear hP7 hB27 hB37 z4 z5
      go_region
      obtain ⟨wf, hwf⟩ : ∃ wf, wf = sto14 (sto14 wr (w.heap.size + 1 + 1) (.string x.v0) (.string x.v1) (.string x.v2) (.string x.v3) (.int .i64 n0) (.bool x.asks) (.int .u32 x.w0) (.int .u32 x.w1) (.int .u32 x.w2) (.string x.gp) (.string x.gg) (.int .i64 n1) (.int .i64 n2) (.int .i64 n3)) (w.heap.size + 1 + 1 + 1) (.string x.v0) (.string x.v1) (.string x.v2) (.string x.v3) (.string (bs (txt (pickO ms x.t0)))) (.bool x.asks) (.int .i64 x.w0) (.int .i64 x.w1) (.int .i64 x.w2) (.string x.gp) (.string x.gg) (.string (bs (txt (pickO ms x.t1)))) (.string (bs (txt (pickO ms x.t2)))) (.string (bs (txt (pickO ms x.t3)))) := ⟨_, rfl⟩
      have hB2f := sto14_far (sto14_blk HB27.out (.string x.v0) (.string x.v1) (.string x.v2) (.string x.v3) (.int .i64 n0) (.bool x.asks) (.int .u32 x.w0) (.int .u32 x.w1) (.int .u32 x.w2) (.string x.gp) (.string x.gg) (.int .i64 n1) (.int .i64 n2) (.int .i64 n3)) (g := w.heap.size + 1 + 1 + 1) (by omega) (.string x.v0) (.string x.v1) (.string x.v2) (.string x.v3) (.string (bs (txt (pickO ms x.t0)))) (.bool x.asks) (.int .i64 x.w0) (.int .i64 x.w1) (.int .i64 x.w2) (.string x.gp) (.string x.gg) (.string (bs (txt (pickO ms x.t1)))) (.string (bs (txt (pickO ms x.t2)))) (.string (bs (txt (pickO ms x.t3))))
      have hB3f := sto14_blk (sto14_far HB37.out (g := w.heap.size + 1 + 1) (by omega) (.string x.v0) (.string x.v1) (.string x.v2) (.string x.v3) (.int .i64 n0) (.bool x.asks) (.int .u32 x.w0) (.int .u32 x.w1) (.int .u32 x.w2) (.string x.gp) (.string x.gg) (.int .i64 n1) (.int .i64 n2) (.int .i64 n3)) (.string x.v0) (.string x.v1) (.string x.v2) (.string x.v3) (.string (bs (txt (pickO ms x.t0)))) (.bool x.asks) (.int .i64 x.w0) (.int .i64 x.w1) (.int .i64 x.w2) (.string x.gp) (.string x.gg) (.string (bs (txt (pickO ms x.t1)))) (.string (bs (txt (pickO ms x.t2)))) (.string (bs (txt (pickO ms x.t3))))
      have hbf : Below w.heap.size w (sto14 (sto14 wr (w.heap.size + 1 + 1) (.string x.v0) (.string x.v1) (.string x.v2) (.string x.v3) (.int .i64 n0) (.bool x.asks) (.int .u32 x.w0) (.int .u32 x.w1) (.int .u32 x.w2) (.string x.gp) (.string x.gg) (.int .i64 n1) (.int .i64 n2) (.int .i64 n3)) (w.heap.size + 1 + 1 + 1) (.string x.v0) (.string x.v1) (.string x.v2) (.string x.v3) (.string (bs (txt (pickO ms x.t0)))) (.bool x.asks) (.int .i64 x.w0) (.int .i64 x.w1) (.int .i64 x.w2) (.string x.gp) (.string x.gg) (.string (bs (txt (pickO ms x.t1)))) (.string (bs (txt (pickO ms x.t2)))) (.string (bs (txt (pickO ms x.t3))))) := sto14_below (sto14_below (hb0.trans (b7.mono hb0.size)) (by omega) _ _ _ _ _ _ _ _ _ _ _ _ _ _) (by omega) _ _ _ _ _ _ _ _ _ _ _ _ _ _
      rw [← hwf] at hB2f hB3f hbf
      unfold sto14 at hwf
      rw [← hwf]
      clear hwf p0 p1 p2 p3 p4 p5 p6 p7 p8 p9 p10 p11 p12 p13 q0 q1 q2 q3 q4 q5 q6 q7 q8 q9 q10 q11 q12 q13 t0 t1 t2 t3 t4 t5 t6 t7 t8 t9 t10 t11 t12 t13 u0 u1 u2 u3 u4 u5 u6 u7 u8 u9 u10 u11 u12 u13 fa0 fa1 fa2 fa3 fa4 fa5 fa6 fa7 fa8 fa9 fa10 fa11 fa12 fa13 fb0 fb1 fb2 fb3 fb4 fb5 fb6 fb7 fb8 fb9 fb10 fb11 fb12 fb13 ne0 me0 ne1 me1 ne2 me2 ne3 me3
      obtain ⟨p0, p1, p2, p3, p4, p5, p6, p7, p8, p9, p10, p11, p12, p13⟩ := cells14 hB2f
      obtain ⟨q0, q1, q2, q3, q4, q5, q6, q7, q8, q9, q10, q11, q12, q13⟩ := cells14 hB3f
      clear hB2f hB3f
      go_wp2
      have HI := hide (And.intro hi0 (And.intro hi1 (And.intro hi2 (And.intro hi3 (Below.drew hbf)))))
      clear hi0 hi1 hi2 hi3 hbf HB2 HB3 HP5 HQ6 HQ7 HB27 HB37 KR hm hb0 hz0 hb4 b4 hb5 b5 hb7 b7 hq7 hb5lt
      refine bodyPost_ret (v := .tuple #[partsV (partsR ms x) n0 n1 n2 n3, parts2V (partsR ms x)]) ?_ rfl ⟨n0, n1, n2, n3, rfl, HI.out⟩
      unfold partsV parts2V partsR
      simp [results, Tryz.results43, go_sem, p0, p1, p2, p3, p4, p5, p6, p7, p8, p9, p10, p11, p12, p13, q0, q1, q2, q3, q4, q5, q6, q7, q8, q9, q10, q11, q12, q13]
end
end Go.Proofs.YtfjegckomjpkdaaGreatDoor
