/-
  The contract of an arena's before. Conditions: numbers fit.
-/
import Derived.Test.YtkpikfdfekggbaaGreatDoorArenaA
import Derived.Test.YtkpikfdfekggbaaGreatDoorPureA
import Derived.Test.YtkpikfdfekggbaaGreatDoorPush
import Derived.Lib.QuietBelow
import Derived.BigRegion
import Derived.Laws.BitsLemmas
namespace Go.Proofs.YtkpikfdfekggbaaGreatDoor
open Go.RowKit Go.ChangeShapes Go.WideShapes

section
variable {B g : Nat} {w : World} {T : List Tm} {S : Nat → Prop}
/-- By how much. -/
def cmpT (x y : Tm) : Int := if x.a = y.a then (x.b : Int) - y.b else (x.a : Int) - y.a
theorem cmpT_lt (x y : Tm) : cmpT x y < 0 ↔ tlt x y = true := by
  unfold cmpT tlt
  rw [decide_eq_true_eq]
  split <;> omega
set_option maxHeartbeats 2000000 in
set_option maxRecDepth 100000 in
theorem before_any (h : Ar B w g T S) {i j : Nat} {x y : Tm} (hi : T[i]? = some x) (hj : T[j]? = some y) (kx : x.k = 2) (ky : y.k = 2) :
    Calls Tryz.prog 121 #[.pointer (some ⟨g, 0, none⟩), .int .i64 i, .int .i64 j] w fun e w' => e = .returned (.int .i64 (cmpT x y)) ∧ Below w.heap.size w w' := by
  obtain ⟨nv, sv, mb, rows, D, h⟩ := h
  obtain ⟨nb, cap, av, js, rfl, hlt, c0, c1, c2, c3, c4, _, hI⟩ := h.cells hi
  obtain ⟨nb', cap', av', ks, e', _, d0, d1, d2, d3, d4, _, hJ⟩ := h.cells hj
  simp only [Value.slice.injEq, Option.some.injEq, Addr.mk.injEq, and_true, true_and] at e'
  obtain ⟨rfl, rfl⟩ := e'
  obtain ⟨A, c, rfl, _⟩ := hI
  obtain ⟨A', c', rfl, _⟩ := hJ
  have h0 : w.cell? ⟨g, 0, none⟩ = some (.slice (some ⟨nb, 0, none⟩) T.length cap) := h.blk.cell 0
  have hil := (List.getElem?_eq_some_iff.1 hi).1
  have hii : (i : Int) < T.length := by omega
  have hjl := (List.getElem?_eq_some_iff.1 hj).1
  have hjj : (j : Int) < T.length := by omega
  have gx := h.ok.fine x (List.mem_of_getElem? hi)
  have gy := h.ok.fine y (List.mem_of_getElem? hj)
  have xa := (enc_nonce gx.1 kx).2.1
  have xb := (enc_nonce gx.1 kx).2.2.1
  have ya := (enc_nonce gy.1 ky).2.1
  have yb := (enc_nonce gy.1 ky).2.2.1
  have hg := h.blk.lt
  have hn0 : nb ≠ w.heap.size := by omega
  have hn1 : nb ≠ w.heap.size + 1 := by omega
  have hg0 : g ≠ w.heap.size := by omega
  have hg1 : g ≠ w.heap.size + 1 := by omega
  clear h hi hj gx gy kx ky
  by_cases hab : x.a = y.a
  · have Hc := hide (show (x.b : Int) - y.b = cmpT x y by unfold cmpT; rw [if_pos hab])
    have ht : ((x.a : Int) != y.a) = false := by rw [hab]; simp
    clear hab
    go_enter Tryz.func121, Tryz.ntmps121
    go_wp2
    go_region
    all_goals go_wp2
    all_goals go_ret
    all_goals exact ⟨ret_int (by first | exact Hc.out | (rw [← Hc.out]; omega)), by (repeat (first | exact Below.refl _ _ | refine below_drewN ?_ _ | refine Below.drew ?_ | refine Below.alloc ?_ (by first | omega | (simp; done) | (simp; omega)) _ | refine Below.setCell ?_ (by first | omega | (simp; done) | (simp; omega)) _ | refine bel_alloc ?_ _ | refine bel_trans ?_ (by assumption) | refine Below.trans ?_ (Below.mono (by assumption) (by first | omega | (simp; done) | (simp; omega)))))⟩
  · have Hc := hide (show (x.a : Int) - y.a = cmpT x y by unfold cmpT; rw [if_neg hab])
    have ht : ((x.a : Int) != y.a) = true := by simp; omega
    clear hab
    go_enter Tryz.func121, Tryz.ntmps121
    go_wp2
    go_region
    all_goals go_wp2
    all_goals go_ret
    all_goals exact ⟨ret_int (by first | exact Hc.out | (rw [← Hc.out]; omega)), by (repeat (first | exact Below.refl _ _ | refine below_drewN ?_ _ | refine Below.drew ?_ | refine Below.alloc ?_ (by first | omega | (simp; done) | (simp; omega)) _ | refine Below.setCell ?_ (by first | omega | (simp; done) | (simp; omega)) _ | refine bel_alloc ?_ _ | refine bel_trans ?_ (by assumption) | refine Below.trans ?_ (Below.mono (by assumption) (by first | omega | (simp; done) | (simp; omega)))))⟩
end
end Go.Proofs.YtkpikfdfekggbaaGreatDoor
