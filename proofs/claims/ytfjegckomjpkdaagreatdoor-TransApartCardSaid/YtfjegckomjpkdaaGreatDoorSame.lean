/-
  The contract of trans's Same. Conditions: numbers and texts fit.
-/
import Derived.Test.YtfjegckomjpkdaaGreatDoorCounts
import Derived.Test.YtfjegckomjpkdaaGreatDoorEqS
set_option linter.unusedVariables false
set_option linter.unusedSimpArgs false
namespace Go.Proofs.YtfjegckomjpkdaaGreatDoor
open Go.RowKit Go.ChangeShapes Go.WideShapes Go.Sort
/-- The parts that count. -/
def cnt (p : PartsP) : PartsP := if p.asks = true then p else { p with w0 := 0, w1 := 0, w2 := 0, gp := ⟨#[]⟩, gg := ⟨#[]⟩ }
theorem counts_any (p : PartsP) (nk ne nf ns : Int) (w : World) : Calls Tryz.prog 71 #[partsV p nk ne nf ns] w (fun e w' => e = .returned (partsV (cnt p) nk ne nf ns) ∧ Below w.heap.size w w') := by
  cases h : p.asks with
  | true =>
    refine (counts_yes p nk ne nf ns h w).mono ?_
    rintro e w' ⟨rfl, hb⟩
    refine ⟨?_, hb⟩
    unfold cnt partsV
    rw [if_pos h, h]
  | false =>
    refine (counts_no p nk ne nf ns h w).mono ?_
    rintro e w' ⟨rfl, hb⟩
    refine ⟨?_, hb⟩
    unfold cnt partsV
    rw [if_neg (by rw [h]; decide)]
    simp only [h]
    rfl
/-- Texts and numbers that fit. -/
structure PSm (p : PartsP) : Prop where
  v0 : Fs p.v0
  v1 : Fs p.v1
  v2 : Fs p.v2
  v3 : Fs p.v3
  w0 : W32 p.w0
  w1 : W32 p.w1
  w2 : W32 p.w2
  gp : Fs p.gp
  gg : Fs p.gg
theorem w32_zero : W32 ((0 : Nat) : Int) := by unfold W32; decide
theorem psm_cnt {p : PartsP} (h : PSm p) : PSm (cnt p) := by
  unfold cnt
  split
  · exact h
  · exact ⟨h.v0, h.v1, h.v2, h.v3, w32_zero, w32_zero, w32_zero, Nat.zero_le _, Nat.zero_le _⟩
/-- The same parts, by numbers of terms. -/
def sameI (p q : PartsP) (nk ne nf ns mk me mf ms : Int) : Prop := (p.v0 = q.v0 ∧ p.v1 = q.v1 ∧ p.v2 = q.v2 ∧ p.v3 = q.v3) ∧ nk = mk ∧ ne = me ∧ nf = mf ∧ ns = ms ∧ p.asks = q.asks ∧ (p.asks = true → (p.w0 = q.w0 ∧ p.w1 = q.w1 ∧ p.w2 = q.w2) ∧ p.gp = q.gp ∧ p.gg = q.gg)
theorem cnt_same (p q : PartsP) (nk ne nf ns mk me mf ms : Int) : sameI p q nk ne nf ns mk me mf ms ↔ ((cnt p).v0 = (cnt q).v0 ∧ (cnt p).v1 = (cnt q).v1 ∧ (cnt p).v2 = (cnt q).v2 ∧ (cnt p).v3 = (cnt q).v3) ∧ nk = mk ∧ (cnt p).asks = (cnt q).asks ∧ (((cnt p).w0 : Int) = (cnt q).w0 ∧ ((cnt p).w1 : Int) = (cnt q).w1 ∧ ((cnt p).w2 : Int) = (cnt q).w2) ∧ ((cnt p).gp = (cnt q).gp ∧ (cnt p).gg = (cnt q).gg) ∧ ne = me ∧ nf = mf ∧ ns = ms := by
  have i : ∀ a b : Nat, ((a : Int) = b) ↔ a = b := fun a b => by omega
  unfold sameI cnt
  cases hp : p.asks <;> cases hq : q.asks <;> simp [hp, hq, i]
  intro _ _ _ _ _
  constructor
  · rintro ⟨c, d, e, f, g, h⟩
    exact ⟨f, ⟨g, h⟩, c, d, e⟩
  · rintro ⟨f, ⟨g, h⟩, c, d, e⟩
    exact ⟨c, d, e, f, g, h⟩
section
variable {w : World}
set_option maxHeartbeats 2000000 in
set_option maxRecDepth 100000 in
theorem same_any (p q : PartsP) (n0 n1 n2 n3 m0 m1 m2 m3 : Int) (hp : PSm p) (hq : PSm q) (a0 : W64 n0) (a1 : W64 n1) (a2 : W64 n2) (a3 : W64 n3) (b0 : W64 m0) (b1 : W64 m1) (b2 : W64 m2) (b3 : W64 m3) {r : Bool} (hr : r = true ↔ sameI p q n0 n1 n2 n3 m0 m1 m2 m3) (w : World) : Calls Tryz.prog 45 #[partsV p n0 n1 n2 n3, partsV q m0 m1 m2 m3] w (fun e w' => e = .returned (.bool r) ∧ Below w.heap.size w w') := by
  have cp := psm_cnt hp
  have cq := psm_cnt hq
  have EQ := fun W => eqP cp.v0 cp.v1 cp.v2 cp.v3 a0 cp.w0 cp.w1 cp.w2 cp.gp cp.gg a1 a2 a3 cq.v0 cq.v1 cq.v2 cq.v3 b0 cq.w0 cq.w1 cq.w2 cq.gp cq.gg b1 b2 b3 (ak := (cnt p).asks) (ak' := (cnt q).asks) (hr.trans (cnt_same p q n0 n1 n2 n3 m0 m1 m2 m3)) W
  have E1 : partsV (cnt p) n0 n1 n2 n3 = .agg #[.string (cnt p).v0, .string (cnt p).v1, .string (cnt p).v2, .string (cnt p).v3, .int .i64 n0, .bool (cnt p).asks, .int .u32 (cnt p).w0, .int .u32 (cnt p).w1, .int .u32 (cnt p).w2, .string (cnt p).gp, .string (cnt p).gg, .int .i64 n1, .int .i64 n2, .int .i64 n3] := rfl
  have E2 : partsV (cnt q) m0 m1 m2 m3 = .agg #[.string (cnt q).v0, .string (cnt q).v1, .string (cnt q).v2, .string (cnt q).v3, .int .i64 m0, .bool (cnt q).asks, .int .u32 (cnt q).w0, .int .u32 (cnt q).w1, .int .u32 (cnt q).w2, .string (cnt q).gp, .string (cnt q).gg, .int .i64 m1, .int .i64 m2, .int .i64 m3] := rfl
  have H1 := hide (fun W => counts_any p n0 n1 n2 n3 W)
  have H2 := hide (fun W => counts_any q m0 m1 m2 m3 W)
  rw [E1] at H1
  rw [E2] at H2
  clear cp cq E1 E2 hp hq a0 a1 a2 a3 b0 b1 b2 b3 hr
  generalize (#[.string (cnt p).v0, .string (cnt p).v1, .string (cnt p).v2, .string (cnt p).v3, .int .i64 n0, .bool (cnt p).asks, .int .u32 (cnt p).w0, .int .u32 (cnt p).w1, .int .u32 (cnt p).w2, .string (cnt p).gp, .string (cnt p).gg, .int .i64 n1, .int .i64 n2, .int .i64 n3] : Array Value) = V1 at EQ H1
  generalize (#[.string (cnt q).v0, .string (cnt q).v1, .string (cnt q).v2, .string (cnt q).v3, .int .i64 m0, .bool (cnt q).asks, .int .u32 (cnt q).w0, .int .u32 (cnt q).w1, .int .u32 (cnt q).w2, .string (cnt q).gp, .string (cnt q).gg, .int .i64 m1, .int .i64 m2, .int .i64 m3] : Array Value) = V2 at EQ H2
  unfold partsV at *
  go_enter Tryz.func45, Tryz.ntmps45
  go_upto_region 1 with fail
  obtain ⟨W0, hW⟩ : ∃ W, W = (w.alloc (.cells #[.string p.v0, .string p.v1, .string p.v2, .string p.v3, .int .i64 n0, .bool p.asks, .int .u32 p.w0, .int .u32 p.w1, .int .u32 p.w2, .string p.gp, .string p.gg, .int .i64 n1, .int .i64 n2, .int .i64 n3] 86)).alloc (.cells #[.string q.v0, .string q.v1, .string q.v2, .string q.v3, .int .i64 m0, .bool q.asks, .int .u32 q.w0, .int .u32 q.w1, .int .u32 q.w2, .string q.gp, .string q.gg, .int .i64 m1, .int .i64 m2, .int .i64 m3] 86) := ⟨_, rfl⟩
  rw [← hW]
  have hb : Below w.heap.size w W0 := by rw [hW]; (repeat (first | exact Below.refl _ _ | refine below_drewN ?_ _ | refine Below.drew ?_ | refine Below.alloc ?_ (by first | omega | (simp; done) | (simp; omega)) _ | refine Below.setCell ?_ (by first | omega | (simp; done) | (simp; omega)) _ | refine bel_alloc ?_ _ | refine bel_trans ?_ (by assumption) | refine Below.trans ?_ (Below.mono (by assumption) (by first | omega | (simp; done) | (simp; omega)))))
  have q6 : Blk W0 w.heap.size 86 #[.string p.v0, .string p.v1, .string p.v2, .string p.v3, .int .i64 n0, .bool p.asks, .int .u32 p.w0, .int .u32 p.w1, .int .u32 p.w2, .string p.gp, .string p.gg, .int .i64 n1, .int .i64 n2, .int .i64 n3] := by rw [hW]; exact blk_at rfl (by (repeat (first | exact Below.refl _ _ | refine below_drewN ?_ _ | refine Below.drew ?_ | refine Below.alloc ?_ (by first | omega | (simp; done) | (simp; omega)) _ | refine Below.setCell ?_ (by first | omega | (simp; done) | (simp; omega)) _ | refine bel_alloc ?_ _ | refine bel_trans ?_ (by assumption) | refine Below.trans ?_ (Below.mono (by assumption) (by first | omega | (simp; done) | (simp; omega))))))
  have q7 : Blk W0 (w.heap.size + 1) 86 #[.string q.v0, .string q.v1, .string q.v2, .string q.v3, .int .i64 m0, .bool q.asks, .int .u32 q.w0, .int .u32 q.w1, .int .u32 q.w2, .string q.gp, .string q.gg, .int .i64 m1, .int .i64 m2, .int .i64 m3] := by rw [hW]; exact blk_at (W := w.alloc (.cells #[.string p.v0, .string p.v1, .string p.v2, .string p.v3, .int .i64 n0, .bool p.asks, .int .u32 p.w0, .int .u32 p.w1, .int .u32 p.w2, .string p.gp, .string p.gg, .int .i64 n1, .int .i64 n2, .int .i64 n3] 86)) (by simp) (by (repeat (first | exact Below.refl _ _ | refine below_drewN ?_ _ | refine Below.drew ?_ | refine Below.alloc ?_ (by first | omega | (simp; done) | (simp; omega)) _ | refine Below.setCell ?_ (by first | omega | (simp; done) | (simp; omega)) _ | refine bel_alloc ?_ _ | refine bel_trans ?_ (by assumption) | refine Below.trans ?_ (Below.mono (by assumption) (by first | omega | (simp; done) | (simp; omega))))))
  have hdr : Below W0.heap.size W0 W0.drew := (Below.refl _ _).drew
  clear hW
  go_region_held3 (fun W => (W.cell? ⟨w.heap.size, 0, none⟩ = some (.string p.v0) ∧ W.cell? ⟨w.heap.size, 1, none⟩ = some (.string p.v1) ∧ W.cell? ⟨w.heap.size, 2, none⟩ = some (.string p.v2) ∧ W.cell? ⟨w.heap.size, 3, none⟩ = some (.string p.v3) ∧ W.cell? ⟨w.heap.size, 4, none⟩ = some (.int .i64 n0) ∧ W.cell? ⟨w.heap.size, 5, none⟩ = some (.bool p.asks) ∧ W.cell? ⟨w.heap.size, 6, none⟩ = some (.int .u32 p.w0) ∧ W.cell? ⟨w.heap.size, 7, none⟩ = some (.int .u32 p.w1) ∧ W.cell? ⟨w.heap.size, 8, none⟩ = some (.int .u32 p.w2) ∧ W.cell? ⟨w.heap.size, 9, none⟩ = some (.string p.gp) ∧ W.cell? ⟨w.heap.size, 10, none⟩ = some (.string p.gg) ∧ W.cell? ⟨w.heap.size, 11, none⟩ = some (.int .i64 n1) ∧ W.cell? ⟨w.heap.size, 12, none⟩ = some (.int .i64 n2) ∧ W.cell? ⟨w.heap.size, 13, none⟩ = some (.int .i64 n3)) ∧ (W.cell? ⟨w.heap.size + 1, 0, none⟩ = some (.string q.v0) ∧ W.cell? ⟨w.heap.size + 1, 1, none⟩ = some (.string q.v1) ∧ W.cell? ⟨w.heap.size + 1, 2, none⟩ = some (.string q.v2) ∧ W.cell? ⟨w.heap.size + 1, 3, none⟩ = some (.string q.v3) ∧ W.cell? ⟨w.heap.size + 1, 4, none⟩ = some (.int .i64 m0) ∧ W.cell? ⟨w.heap.size + 1, 5, none⟩ = some (.bool q.asks) ∧ W.cell? ⟨w.heap.size + 1, 6, none⟩ = some (.int .u32 q.w0) ∧ W.cell? ⟨w.heap.size + 1, 7, none⟩ = some (.int .u32 q.w1) ∧ W.cell? ⟨w.heap.size + 1, 8, none⟩ = some (.int .u32 q.w2) ∧ W.cell? ⟨w.heap.size + 1, 9, none⟩ = some (.string q.gp) ∧ W.cell? ⟨w.heap.size + 1, 10, none⟩ = some (.string q.gg) ∧ W.cell? ⟨w.heap.size + 1, 11, none⟩ = some (.int .i64 m1) ∧ W.cell? ⟨w.heap.size + 1, 12, none⟩ = some (.int .i64 m2) ∧ W.cell? ⟨w.heap.size + 1, 13, none⟩ = some (.int .i64 m3)))
    (first | exact ⟨cells14 q6, cells14 q7⟩ | exact ⟨cells14 (q6.below hdr q6.lt), cells14 (q7.below hdr q7.lt)⟩)
    (first
      | (go_at_call 71; (with_reducible refine (H1.out _).mono ?_); (rintro e x1 ⟨rfl, hb1⟩); (first | (replace q6 := q6.below hb1 q6.lt; replace q7 := q7.below hb1 q7.lt; replace hb := hb.trans (hb1.mono hb.size); clear hb1) | (replace q6 := q6.below (hdr.trans hb1) q6.lt; replace q7 := q7.below (hdr.trans hb1) q7.lt; replace hb := hb.trans ((hdr.trans hb1).mono hb.size); clear hb1)))
      | (go_at_call 71; (with_reducible refine (H2.out _).mono ?_); (rintro e x2 ⟨rfl, hb1⟩); (first | (replace q6 := q6.below hb1 q6.lt; replace q7 := q7.below hb1 q7.lt; replace hb := hb.trans (hb1.mono hb.size); clear hb1) | (replace q6 := q6.below (hdr.trans hb1) q6.lt; replace q7 := q7.below (hdr.trans hb1) q7.lt; replace hb := hb.trans ((hdr.trans hb1).mono hb.size); clear hb1)))
      | fail)
  all_goals go_wp2_with fail
  all_goals go_ret
  all_goals exact ⟨rfl, hb⟩
end
end Go.Proofs.YtfjegckomjpkdaaGreatDoor
