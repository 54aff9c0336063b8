/-
  The contracts of trans's asked, List and Hash. Conditions: texts of at most a million bytes.
-/
import Derived.Test.YtfjegckomjpkdaaGreatDoorMakesA
import Derived.Test.YtfjegckomjpkdaaGreatDoorWholeA
import Derived.Test.YtfjegckomjpkdaaGreatDoorEncA
set_option linter.unusedVariables false
set_option linter.unusedSimpArgs false
namespace Go.Proofs.YtfjegckomjpkdaaGreatDoor
open Go.RowKit Go.ChangeShapes Go.WideShapes Go.Sort

theorem DataP.from_ {B g : Nat} {w w2 w' : World} {T : List Tm} {S : Nat → Prop} {os : List (Option Tm)} {e : Ending} (h : DataP B w2 g T S os e w') (hb : Below w.heap.size w w2) : DataP B w g T S os e w' := by
  obtain ⟨T', S', v, h1, ⟨⟨ns, h2, h2'⟩, h2''⟩, h3, h4, h5, h6⟩ := h
  exact ⟨T', S', v, h1, ⟨⟨ns, own_base h2 hb.size, h2'⟩, h2''⟩, h3, h4, h5, (Grown.of_below hb).trans h6⟩
theorem DataP.nil_ {B g : Nat} {w w' : World} {T : List Tm} {S : Nat → Prop} (h : Ar B w g T S) (hb : Below w.heap.size w w') : DataP B w g T S [] (.returned (.slice none 0 0)) w' :=
  ⟨T, S, _, rfl, ido_nil _ _ _ _, List.prefix_refl _, Nat.le_refl _, h.below hb, Grown.of_below hb⟩
/-- Parts, as trans has them. -/
def partsV (p : PartsP) (nk ne nf ns : Int) : Value :=
  .agg #[.string p.v0, .string p.v1, .string p.v2, .string p.v3, .int .i64 nk, .bool p.asks, .int .u32 p.w0, .int .u32 p.w1, .int .u32 p.w2, .string p.gp, .string p.gg, .int .i64 ne, .int .i64 nf, .int .i64 ns]
/-- Numbers that fit. -/
structure PFit (p : PartsP) : Prop where
  w0 : p.w0 < 4294967296
  w1 : p.w1 < 4294967296
  w2 : p.w2 < 4294967296
  v0 : p.v0.size ≤ 1000000
  v1 : p.v1.size ≤ 1000000
  v2 : p.v2.size ≤ 1000000
  v3 : p.v3.size ≤ 1000000
  gp : p.gp.size ≤ 300000
  gg : p.gg.size ≤ 300000
section
variable {B g : Nat} {w : World} {T : List Tm} {S : Nat → Prop}
set_option maxHeartbeats 4000000 in
set_option maxRecDepth 100000 in
theorem asked_no (h : Use B w g T S) (p : PartsP) (nk ne nf ns : Int) (hp : p.asks = false) : Calls Tryz.prog 73 #[.pointer (some ⟨g, 0, none⟩), partsV p nk ne nf ns] w (DataP B w g T S (askO p)) := by
  have hO : askO p = [] := by unfold askO; rw [hp]; rfl
  rw [hO]
  have HA := hide h.ar
  clear h
  unfold partsV
  go_enter Tryz.func73, Tryz.ntmps73
  go_wp2_with fail
  go_ret
  exact DataP.nil_ HA.out (by (repeat (first | exact Below.refl _ _ | refine below_drewN ?_ _ | refine Below.drew ?_ | refine Below.alloc ?_ (by first | omega | (simp; done) | (simp; omega)) _ | refine Below.setCell ?_ (by first | omega | (simp; done) | (simp; omega)) _ | refine bel_alloc ?_ _ | refine bel_trans ?_ (by assumption) | refine Below.trans ?_ (Below.mono (by assumption) (by first | omega | (simp; done) | (simp; omega))))))
theorem DataP.open_ {os : List (Option Tm)} {e : Ending} {w' : World} (h : DataP B w g T S os e w') : ∃ T' S' A c, e = .returned (.slice A os.length c) ∧ IdO w.heap.size w' T' os (.slice A os.length c) S' ∧ T <+: T' ∧ T'.length ≤ T.length + os.length ∧ Ar B w' g T' S' ∧ Grown S w S' w' := by
  obtain ⟨T', S', v, h1, h2, h3⟩ := h
  obtain ⟨A, c, rfl⟩ := h2.sl
  exact ⟨T', S', A, c, h1, h2, h3⟩
theorem data_new (h : Use B w g T S) {W : World} (hb : Below w.heap.size w W) (ss : List ByteArray) (hz : ∀ s ∈ ss, s.size ≤ 1000000) (hl : ss.length ≤ 1000) (hT : T.length + ss.length ≤ 1000000000) (t : TypeId) (C : Array Value) (hC : C = (ss.map Value.string).toArray) (n : Nat) (hn : n = ss.length) (os : List (Option Tm)) (ho : os = ss.map tData) :
    Calls Tryz.prog 72 #[.pointer (some ⟨g, 0, none⟩), .slice (some ⟨W.heap.size, 0, none⟩) n n] (W.alloc (.cells C t)) (fun e w' => DataP B w g T S os e w' ∧ Outs S W w') := by
  subst hC hn ho
  have hb2 : Below w.heap.size w (W.alloc (.cells (ss.map Value.string).toArray t)) := hb.alloc hb.size _
  obtain ⟨A, c, e, hs⟩ := strs_new W t ss _ rfl
  injection e with e1 e2 e3
  subst e1
  refine (data_any (h.below hb2) hs (fun i hi => Nat.lt_of_lt_of_le (h.ar.sL i hi) hb.size) hz hl hT).mono fun e w' hd => ⟨hd.from_ hb2, ?_⟩
  obtain ⟨T', S', v, _, _, _, _, _, hg⟩ := hd
  exact (Outs.of_below (bel_new _)).trans hg.outs_
set_option maxHeartbeats 4000000 in
set_option maxRecDepth 100000 in
theorem asked_yes (h : Use B w g T S) (p : PartsP) (nk ne nf ns : Int) (hf : PFit p) (hp : p.asks = true) (hT : T.length ≤ 100000000) : Calls Tryz.prog 73 #[.pointer (some ⟨g, 0, none⟩), partsV p nk ne nf ns] w (DataP B w g T S (askO p)) := by
  unfold partsV
  have HD := hide (fun (W : World) (hb : Below w.heap.size w W) => data_new h hb [bs (q4 p.w0), bs (q4 p.w1), bs (q4 p.w2), bs (wholeL p.gp.data.toList), bs (wholeL p.gg.data.toList)] (by
      have hw : ∀ s : ByteArray, s.size ≤ 300000 → (wholeL s.data.toList).length ≤ 1000000 := fun s hs => by
        have h2 := signL_len (plainL s.data.toList)
        have h3 := plainL_len s.data.toList
        have h4 := size_len s
        unfold wholeL
        rw [List.length_append, q4_len]
        omega
      have h1 := hw _ hf.gp
      have h2 := hw _ hf.gg
      intro s hs
      simp only [List.mem_cons, List.not_mem_nil, or_false] at hs
      rcases hs with rfl | rfl | rfl | rfl | rfl <;> rw [bs_size] <;> first | assumption | exact Nat.le_of_ble_eq_true rfl) (by simp) (by simp; omega) 9 #[.string (bs (q4 p.w0)), .string (bs (q4 p.w1)), .string (bs (q4 p.w2)), .string (bs (wholeL p.gp.data.toList)), .string (bs (wholeL p.gg.data.toList))] rfl 5 rfl (askO p) (by
      unfold askO
      rw [if_pos hp]
      rfl))
  have H0 := hide (fun W => wNum_any p.w0 W hf.w0)
  have H1 := hide (fun W => wNum_any p.w1 W hf.w1)
  have H2 := hide (fun W => wNum_any p.w2 W hf.w2)
  have H3 := hide (fun W => wWhole_any p.gp W (by have := hf.gp; omega))
  have H4 := hide (fun W => wWhole_any p.gg W (by have := hf.gg; omega))
  have hSL := h.ar.sL
  have nS : ∀ i, w.heap.size ≤ i → ¬ S i := fun i h1 h2 => by have := hSL i h2; omega
  clear h hf
  go_enter Tryz.func73, Tryz.ntmps73
  go_wp2_with fail
  obtain ⟨W0, hW0⟩ : ∃ W0, W0 = (w.alloc (.cells #[.string p.v0, .string p.v1, .string p.v2, .string p.v3, .int .i64 nk, .bool true, .int .u32 p.w0, .int .u32 p.w1, .int .u32 p.w2, .string p.gp, .string p.gg, .int .i64 ne, .int .i64 nf, .int .i64 ns] 86)).alloc (.cells #[.int .u32 p.w0, .int .u32 p.w1, .int .u32 p.w2] 78) := ⟨_, rfl⟩
  rw [← hW0]
  have hbw : Below w.heap.size w W0 := by rw [hW0]; exact ((Below.refl _ _).alloc (Nat.le_refl _) _).alloc (by simp) _
  have hz0 : W0.heap.size = w.heap.size + 2 := by rw [hW0]; simp
  have hk1 : Blk W0 w.heap.size 86 #[.string p.v0, .string p.v1, .string p.v2, .string p.v3, .int .i64 nk, .bool true, .int .u32 p.w0, .int .u32 p.w1, .int .u32 p.w2, .string p.gp, .string p.gg, .int .i64 ne, .int .i64 nf, .int .i64 ns] := by rw [hW0]; exact (Blk.new w _ _).alloc _
  have hk2 : Blk W0 (w.heap.size + 1) 78 #[.int .u32 p.w0, .int .u32 p.w1, .int .u32 p.w2] := by
    rw [hW0]
    simpa using Blk.new (w.alloc (.cells #[.string p.v0, .string p.v1, .string p.v2, .string p.v3, .int .i64 nk, .bool true, .int .u32 p.w0, .int .u32 p.w1, .int .u32 p.w2, .string p.gp, .string p.gg, .int .i64 ne, .int .i64 nf, .int .i64 ns] 86)) 78 #[.int .u32 p.w0, .int .u32 p.w1, .int .u32 p.w2]
  have KC := hide (fun (W : World) (ho : Outs S W0 W) => ((⟨ho.cell (hk2.cell 0) (nS _ (by first | exact Nat.le_refl _ | exact Nat.le_succ _)), ho.cell (hk2.cell 1) (nS _ (by first | exact Nat.le_refl _ | exact Nat.le_succ _)), ho.cell (hk2.cell 2) (nS _ (by first | exact Nat.le_refl _ | exact Nat.le_succ _)), ho.cell (hk1.cell 9) (nS _ (by first | exact Nat.le_refl _ | exact Nat.le_succ _)), ho.cell (hk1.cell 10) (nS _ (by first | exact Nat.le_refl _ | exact Nat.le_succ _))⟩) :
    W.cell? ⟨w.heap.size + 1, 0, none⟩ = some (.int .u32 p.w0) ∧ W.cell? ⟨w.heap.size + 1, 1, none⟩ = some (.int .u32 p.w1) ∧ W.cell? ⟨w.heap.size + 1, 2, none⟩ = some (.int .u32 p.w2) ∧ W.cell? ⟨w.heap.size, 9, none⟩ = some (.string p.gp) ∧ W.cell? ⟨w.heap.size, 10, none⟩ = some (.string p.gg)))
  have K0 := hide (fun (W : World) (hb : Below W0.heap.size W0 W) => KC.out W (Outs.of_below hb))
  clear hk1 hk2 hW0
  go_region_held3 (fun W => W.cell? ⟨w.heap.size + 1, 0, none⟩ = some (.int .u32 p.w0) ∧ W.cell? ⟨w.heap.size + 1, 1, none⟩ = some (.int .u32 p.w1) ∧ W.cell? ⟨w.heap.size + 1, 2, none⟩ = some (.int .u32 p.w2) ∧ W.cell? ⟨w.heap.size, 9, none⟩ = some (.string p.gp) ∧ W.cell? ⟨w.heap.size, 10, none⟩ = some (.string p.gg))
    (first | (refine K0.out _ ?_; (repeat (first | exact Below.refl _ _ | refine below_drewN ?_ _ | refine Below.drew ?_ | refine Below.alloc ?_ (by first | omega | (simp; done) | (simp; omega)) _ | refine Below.setCell ?_ (by first | omega | (simp; done) | (simp; omega)) _ | refine bel_alloc ?_ _ | refine bel_trans ?_ (by assumption) | refine Below.trans ?_ (Below.mono (by assumption) (by first | omega | (simp; done) | (simp; omega))))); done) | (refine KC.out _ (Outs.trans (Outs.of_below ?_) hO9); (repeat (first | exact Below.refl _ _ | refine below_drewN ?_ _ | refine Below.drew ?_ | refine Below.alloc ?_ (by first | omega | (simp; done) | (simp; omega)) _ | refine Below.setCell ?_ (by first | omega | (simp; done) | (simp; omega)) _ | refine bel_alloc ?_ _ | refine bel_trans ?_ (by assumption) | refine Below.trans ?_ (Below.mono (by assumption) (by first | omega | (simp; done) | (simp; omega))))); done))
    (first
      | (go_at_call 17; (with_reducible refine (H0.out _).mono ?_); rintro e x1 ⟨rfl, hb1⟩)
      | (go_at_call 17; (with_reducible refine (H1.out _).mono ?_); rintro e x2 ⟨rfl, hb2⟩)
      | (go_at_call 17; (with_reducible refine (H2.out _).mono ?_); rintro e x3 ⟨rfl, hb3⟩)
      | (go_at_call 116; (with_reducible refine (H3.out _).mono ?_); rintro e x4 ⟨rfl, hb4⟩)
      | (go_at_call 116; (with_reducible refine (H4.out _).mono ?_); rintro e x5 ⟨rfl, hb5⟩)
      | (go_at_call 72; refine (HD.out _ (by (repeat (first | exact Below.refl _ _ | refine below_drewN ?_ _ | refine Below.drew ?_ | refine Below.alloc ?_ (by first | omega | (simp; done) | (simp; omega)) _ | refine Below.setCell ?_ (by first | omega | (simp; done) | (simp; omega)) _ | refine bel_alloc ?_ _ | refine bel_trans ?_ (by assumption) | refine Below.trans ?_ (Below.mono (by assumption) (by first | omega | (simp; done) | (simp; omega))))))).mono ?_; rintro e x6 ⟨hdp, hO9⟩; obtain ⟨T9, S9, A9, c9, rfl, h9⟩ := hdp.open_))
  all_goals go_wp2_with fail
  all_goals go_ret
  all_goals exact ⟨T9, S9, _, rfl, h9⟩
end
end Go.Proofs.YtfjegckomjpkdaaGreatDoor
