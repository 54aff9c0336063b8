/-
  The contract of trans's counts. Conditions: none.
-/
import Derived.Test.YtfjegckomjpkdaaGreatDoorAhead
set_option linter.unusedVariables false
set_option linter.unusedSimpArgs false
namespace Go.Proofs.YtfjegckomjpkdaaGreatDoor
open Go.RowKit Go.ChangeShapes Go.WideShapes Go.Sort
section
variable {w : World}
set_option maxHeartbeats 1000000 in
set_option maxRecDepth 100000 in
theorem counts_yes (p : PartsP) (nk ne nf ns : Int) (hp : p.asks = true) (w : World) : Calls Tryz.prog 71 #[partsV p nk ne nf ns] w (fun e w' => e = .returned (.agg #[.string p.v0, .string p.v1, .string p.v2, .string p.v3, .int .i64 nk, .bool true, .int .u32 p.w0, .int .u32 p.w1, .int .u32 p.w2, .string p.gp, .string p.gg, .int .i64 ne, .int .i64 nf, .int .i64 ns]) ∧ Below w.heap.size w w') := by
  unfold partsV
  rw [hp]
  go_enter Tryz.func71, Tryz.ntmps71
  go_wp2
  obtain ⟨W, hW⟩ : ∃ W, W = (w.alloc (.cells #[.string p.v0, .string p.v1, .string p.v2, .string p.v3, .int .i64 nk, .bool true, .int .u32 p.w0, .int .u32 p.w1, .int .u32 p.w2, .string p.gp, .string p.gg, .int .i64 ne, .int .i64 nf, .int .i64 ns] 86)).alloc (.cells #[.string p.v0, .string p.v1, .string p.v2, .string p.v3, .int .i64 nk, .bool true, .int .u32 p.w0, .int .u32 p.w1, .int .u32 p.w2, .string p.gp, .string p.gg, .int .i64 ne, .int .i64 nf, .int .i64 ns] 86) := ⟨_, rfl⟩
  rw [← hW]
  have hb : Below w.heap.size w W := by rw [hW]; (repeat (first | exact Below.refl _ _ | refine below_drewN ?_ _ | refine Below.drew ?_ | refine Below.alloc ?_ (by first | omega | (simp; done) | (simp; omega)) _ | refine Below.setCell ?_ (by first | omega | (simp; done) | (simp; omega)) _ | refine bel_alloc ?_ _ | refine bel_trans ?_ (by assumption) | refine Below.trans ?_ (Below.mono (by assumption) (by first | omega | (simp; done) | (simp; omega)))))
  have hB : Blk W (w.heap.size + 1) 86 #[.string p.v0, .string p.v1, .string p.v2, .string p.v3, .int .i64 nk, .bool true, .int .u32 p.w0, .int .u32 p.w1, .int .u32 p.w2, .string p.gp, .string p.gg, .int .i64 ne, .int .i64 nf, .int .i64 ns] := by rw [hW]; exact blk_at (W := w.alloc (.cells #[.string p.v0, .string p.v1, .string p.v2, .string p.v3, .int .i64 nk, .bool true, .int .u32 p.w0, .int .u32 p.w1, .int .u32 p.w2, .string p.gp, .string p.gg, .int .i64 ne, .int .i64 nf, .int .i64 ns] 86)) (by simp) (by (repeat (first | exact Below.refl _ _ | refine below_drewN ?_ _ | refine Below.drew ?_ | refine Below.alloc ?_ (by first | omega | (simp; done) | (simp; omega)) _ | refine Below.setCell ?_ (by first | omega | (simp; done) | (simp; omega)) _ | refine bel_alloc ?_ _ | refine bel_trans ?_ (by assumption) | refine Below.trans ?_ (Below.mono (by assumption) (by first | omega | (simp; done) | (simp; omega))))))
  obtain ⟨c0, c1, c2, c3, c4, c5, c6, c7, c8, c9, c10, c11, c12, c13⟩ := cells14 hB
  clear hW hB
  exact bodyPost_ret (v := .agg #[.string p.v0, .string p.v1, .string p.v2, .string p.v3, .int .i64 nk, .bool true, .int .u32 p.w0, .int .u32 p.w1, .int .u32 p.w2, .string p.gp, .string p.gg, .int .i64 ne, .int .i64 nf, .int .i64 ns]) (by simp [results, Tryz.results71, go_sem, c0, c1, c2, c3, c4, c5, c6, c7, c8, c9, c10, c11, c12, c13]) rfl ⟨rfl, hb⟩
set_option maxHeartbeats 1000000 in
set_option maxRecDepth 100000 in
theorem counts_no (p : PartsP) (nk ne nf ns : Int) (hp : p.asks = false) (w : World) : Calls Tryz.prog 71 #[partsV p nk ne nf ns] w (fun e w' => e = .returned (.agg #[.string p.v0, .string p.v1, .string p.v2, .string p.v3, .int .i64 nk, .bool false, .int .u32 0, .int .u32 0, .int .u32 0, .string ⟨#[]⟩, .string ⟨#[]⟩, .int .i64 ne, .int .i64 nf, .int .i64 ns]) ∧ Below w.heap.size w w') := by
  unfold partsV
  rw [hp]
  go_enter Tryz.func71, Tryz.ntmps71
  go_wp2
  obtain ⟨W, hW⟩ : ∃ W, W = (w.alloc (.cells #[.string p.v0, .string p.v1, .string p.v2, .string p.v3, .int .i64 nk, .bool false, .int .u32 0, .int .u32 0, .int .u32 0, .string ⟨#[]⟩, .string ⟨#[]⟩, .int .i64 ne, .int .i64 nf, .int .i64 ns] 86)).alloc (.cells #[.string p.v0, .string p.v1, .string p.v2, .string p.v3, .int .i64 nk, .bool false, .int .u32 0, .int .u32 0, .int .u32 0, .string ⟨#[]⟩, .string ⟨#[]⟩, .int .i64 ne, .int .i64 nf, .int .i64 ns] 86) := ⟨_, rfl⟩
  rw [← hW]
  have hb : Below w.heap.size w W := by rw [hW]; (repeat (first | exact Below.refl _ _ | refine below_drewN ?_ _ | refine Below.drew ?_ | refine Below.alloc ?_ (by first | omega | (simp; done) | (simp; omega)) _ | refine Below.setCell ?_ (by first | omega | (simp; done) | (simp; omega)) _ | refine bel_alloc ?_ _ | refine bel_trans ?_ (by assumption) | refine Below.trans ?_ (Below.mono (by assumption) (by first | omega | (simp; done) | (simp; omega)))))
  have hB : Blk W (w.heap.size + 1) 86 #[.string p.v0, .string p.v1, .string p.v2, .string p.v3, .int .i64 nk, .bool false, .int .u32 0, .int .u32 0, .int .u32 0, .string ⟨#[]⟩, .string ⟨#[]⟩, .int .i64 ne, .int .i64 nf, .int .i64 ns] := by rw [hW]; exact blk_at (W := w.alloc (.cells #[.string p.v0, .string p.v1, .string p.v2, .string p.v3, .int .i64 nk, .bool false, .int .u32 0, .int .u32 0, .int .u32 0, .string ⟨#[]⟩, .string ⟨#[]⟩, .int .i64 ne, .int .i64 nf, .int .i64 ns] 86)) (by simp) (by (repeat (first | exact Below.refl _ _ | refine below_drewN ?_ _ | refine Below.drew ?_ | refine Below.alloc ?_ (by first | omega | (simp; done) | (simp; omega)) _ | refine Below.setCell ?_ (by first | omega | (simp; done) | (simp; omega)) _ | refine bel_alloc ?_ _ | refine bel_trans ?_ (by assumption) | refine Below.trans ?_ (Below.mono (by assumption) (by first | omega | (simp; done) | (simp; omega))))))
  obtain ⟨c0, c1, c2, c3, c4, c5, c6, c7, c8, c9, c10, c11, c12, c13⟩ := cells14 hB
  clear hW hB
  exact bodyPost_ret (v := .agg #[.string p.v0, .string p.v1, .string p.v2, .string p.v3, .int .i64 nk, .bool false, .int .u32 0, .int .u32 0, .int .u32 0, .string ⟨#[]⟩, .string ⟨#[]⟩, .int .i64 ne, .int .i64 nf, .int .i64 ns]) (by simp [results, Tryz.results71, go_sem, c0, c1, c2, c3, c4, c5, c6, c7, c8, c9, c10, c11, c12, c13]) rfl ⟨rfl, hb⟩
end
end Go.Proofs.YtfjegckomjpkdaaGreatDoor
