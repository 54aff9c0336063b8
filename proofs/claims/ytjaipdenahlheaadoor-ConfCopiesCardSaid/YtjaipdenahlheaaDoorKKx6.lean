/-
  The contracts of prefs.Of's closure and of prefs.Of of eight lists. Conditions: lists that fit.
-/
import Derived.Test.YtjaipdenahlheaaDoorKPrfG
import Derived.Test.YtjaipdenahlheaaDoorKKxRG
set_option linter.unusedVariables false
set_option linter.unusedSimpArgs false
namespace Go.Proofs.YtjaipdenahlheaaDoor
open Go.RowKit Go.ChangeShapes Go.WideShapes Go.Sort
/-- Eight lists in the cells of block g. -/
def Eight (w : World) (g : Nat) (ls : List (List (List UInt8))) : Prop := ls.length = 8 ∧ (∀ l ∈ ls, l.length ≤ 1000000) ∧ ∀ i l, ls[i]? = some l → ∃ A c, w.cell? ⟨g, i, none⟩ = some (.slice A l.length c) ∧ Txs w (.slice A l.length c) l
theorem Eight.below {w w' : World} {g : Nat} {ls : List (List (List UInt8))} (h : Eight w g ls) (hb : Below w.heap.size w w') : Eight w' g ls :=
  ⟨h.1, h.2.1, fun i s hi => let ⟨A, c, h1, h2⟩ := h.2.2 i s hi; ⟨A, c, (hb.cell (World.block_lt_of_cell? w _ h1)).trans h1, h2.below hb⟩⟩
theorem own_newC {w : World} {B : Nat} {v : Value} {l : List (List UInt8)} (h : w.ownsRow B 9 1 v (bss l).length ((bss l).map Value.string)) : NewC B w v l := by
  obtain ⟨A', c', rfl⟩ := own_slN h
  have hl : (bss l).length = l.length := by rw [bss, List.length_map]
  rw [hl] at h ⊢
  exact newC_own h rfl
theorem newC_sl {lo : Nat} {w : World} {v : Value} {l : List (List UInt8)} (h : NewC lo w v l) : ∃ B m d, m = l.length ∧ v = .slice B m d := by
  obtain ⟨A, c, e, _⟩ := h
  exact ⟨A, _, c, rfl, e⟩
theorem ofc_any {w : World} {g bl c : Nat} {ls : List (List (List UInt8))} (h : Eight w g ls) (hB : Blk w bl 52 #[.slice (some ⟨g, 0, none⟩) 8 c]) (i : Nat) (hi : i < ls.length) :
    Calls Tryd.prog 33 #[.int .i64 i, .pointer (some ⟨bl, 0, none⟩)] w (fun e w' => ∃ v, e = .returned v ∧ NewC w.heap.size w' v ls[i] ∧ Below w.heap.size w w') := by
  obtain ⟨A, k, h1, h2⟩ := h.2.2 i ls[i] (List.getElem?_eq_getElem hi)
  have hl := h.2.1 _ (List.getElem_mem hi)
  have b0 := hB.cell 0
  simp at b0
  have h8 : (i : Int) < 8 := by have := h.1; omega
  have h1' : w.cell? ((⟨g, 0, none⟩ : Addr).add i) = some (.slice A ls[i].length k) := by rw [add_zero_]; exact h1
  have HC := hide (clone_own h2 (by rw [List.length_map]; omega))
  generalize ls[i] = s at h1 h1' HC
  clear h hB h2 hl
  go_enter Tryd.func33, Tryd.ntmps33
  go_wp2_with fail
  refine HC.out.mono ?_
  rintro e w1 ⟨v, rfl, ho, hb⟩
  have hn := own_newC (l := s) ho
  obtain ⟨A2, m2, c2, hm2, rfl⟩ := newC_sl hn
  have HN := hide hn
  clear hm2 hn
  clear ho HC
  go_wp2_with fail
  go_ret
  exact ⟨_, rfl, HN.out, hb⟩
theorem fin8 {w : World} {r : Nat} {t : TypeId} {o0 o1 o2 o3 o4 o5 o6 o7 : Value} (h : Blk w r t #[o0, o1, o2, o3, o4, o5, o6, o7]) (v0 v1 v2 v3 v4 v5 v6 v7 : Value) :
    Blk (((((((((w.setCell ⟨r, 0, none⟩ v0).setCell ⟨r, 1, none⟩ v1).setCell ⟨r, 2, none⟩ v2).setCell ⟨r, 3, none⟩ v3).setCell ⟨r, 4, none⟩ v4).setCell ⟨r, 5, none⟩ v5).setCell ⟨r, 6, none⟩ v6).setCell ⟨r, 7, none⟩ v7)) r t #[v0, v1, v2, v3, v4, v5, v6, v7] := by
  have h1 := ((((((((h.set_ 0 v0).set_ 1 v1).set_ 2 v2).set_ 3 v3).set_ 4 v4).set_ 5 v5).set_ 6 v6).set_ 7 v7)
  simpa using h1
theorem newC8 {lo : Nat} {w : World} {r : Nat} {v : Value} {l : List (List UInt8)} (h : NewC lo w v l) (hr : r < lo) (v0 v1 v2 v3 v4 v5 v6 v7 : Value) : NewC lo (((((((((w.setCell ⟨r, 0, none⟩ v0).setCell ⟨r, 1, none⟩ v1).setCell ⟨r, 2, none⟩ v2).setCell ⟨r, 3, none⟩ v3).setCell ⟨r, 4, none⟩ v4).setCell ⟨r, 5, none⟩ v5).setCell ⟨r, 6, none⟩ v6).setCell ⟨r, 7, none⟩ v7)) v l :=
  ((((((((h.set_ (p := ⟨r, 0, none⟩) hr v0).set_ (p := ⟨r, 1, none⟩) hr v1).set_ (p := ⟨r, 2, none⟩) hr v2).set_ (p := ⟨r, 3, none⟩) hr v3).set_ (p := ⟨r, 4, none⟩) hr v4).set_ (p := ⟨r, 5, none⟩) hr v5).set_ (p := ⟨r, 6, none⟩) hr v6).set_ (p := ⟨r, 7, none⟩) hr v7)
theorem bel8 {B : Nat} {w0 w : World} {r : Nat} (h : Below B w0 w) (hr : B ≤ r) (v0 v1 v2 v3 v4 v5 v6 v7 : Value) : Below B w0 (((((((((w.setCell ⟨r, 0, none⟩ v0).setCell ⟨r, 1, none⟩ v1).setCell ⟨r, 2, none⟩ v2).setCell ⟨r, 3, none⟩ v3).setCell ⟨r, 4, none⟩ v4).setCell ⟨r, 5, none⟩ v5).setCell ⟨r, 6, none⟩ v6).setCell ⟨r, 7, none⟩ v7)) :=
  ((((((((h.setCell (p := ⟨r, 0, none⟩) hr v0).setCell (p := ⟨r, 1, none⟩) hr v1).setCell (p := ⟨r, 2, none⟩) hr v2).setCell (p := ⟨r, 3, none⟩) hr v3).setCell (p := ⟨r, 4, none⟩) hr v4).setCell (p := ⟨r, 5, none⟩) hr v5).setCell (p := ⟨r, 6, none⟩) hr v6).setCell (p := ⟨r, 7, none⟩) hr v7)
theorem all8 {R : Value → List (List UInt8) → Prop} {v0 v1 v2 v3 v4 v5 v6 v7 : Value} {ls : List (List (List UInt8))} (h : ls.length = 8) (h0 : R v0 (ls[0]'(by omega))) (h1 : R v1 (ls[1]'(by omega))) (h2 : R v2 (ls[2]'(by omega))) (h3 : R v3 (ls[3]'(by omega))) (h4 : R v4 (ls[4]'(by omega))) (h5 : R v5 (ls[5]'(by omega))) (h6 : R v6 (ls[6]'(by omega))) (h7 : R v7 (ls[7]'(by omega))) :
    ∀ (i : Nat) v l, ([v0, v1, v2, v3, v4, v5, v6, v7] : List Value)[i]? = some v → ls[i]? = some l → R v l := by
  match ls, h with
  | [l0, l1, l2, l3, l4, l5, l6, l7], _ =>
    intro i v l hv hl
    match i, hv, hl with
    | 0, hv, hl => cases hv; cases hl; exact h0
    | 1, hv, hl => cases hv; cases hl; exact h1
    | 2, hv, hl => cases hv; cases hl; exact h2
    | 3, hv, hl => cases hv; cases hl; exact h3
    | 4, hv, hl => cases hv; cases hl; exact h4
    | 5, hv, hl => cases hv; cases hl; exact h5
    | 6, hv, hl => cases hv; cases hl; exact h6
    | 7, hv, hl => cases hv; cases hl; exact h7
    | n + 8, hv, _ => simp at hv
/-- What Of answers. -/
def OfP (w : World) (ls : List (List (List UInt8))) (e : Ending) (w' : World) : Prop :=
  ∃ B0 m0 d0 B1 m1 d1 B2 m2 d2 B3 m3 d3 B4 m4 d4 B5 m5 d5 B6 m6 d6 B7 m7 d7, e = .returned (.tuple #[.agg #[.slice B0 m0 d0, .slice B1 m1 d1, .slice B2 m2 d2, .slice B3 m3 d3, .slice B4 m4 d4, .slice B5 m5 d5, .slice B6 m6 d6, .slice B7 m7 d7], .bool true]) ∧ (∀ (i : Nat) v l, ([.slice B0 m0 d0, .slice B1 m1 d1, .slice B2 m2 d2, .slice B3 m3 d3, .slice B4 m4 d4, .slice B5 m5 d5, .slice B6 m6 d6, .slice B7 m7 d7] : List Value)[i]? = some v → ls[i]? = some l → NewC w.heap.size w' v l) ∧ Below w.heap.size w w'
set_option maxHeartbeats 8000000 in
set_option maxRecDepth 100000 in
theorem pof_any {w : World} {g c : Nat} {ls : List (List (List UInt8))} (h : Eight w g ls) : Calls Tryd.prog 16 #[.slice (some ⟨g, 0, none⟩) 8 c] w (OfP w ls) := by
  obtain ⟨W0, hW0⟩ : ∃ W0, W0 = (w.alloc (.cells #[.slice (some ⟨g, 0, none⟩) 8 c] 52)).alloc (.cells #[.slice none 0 0, .slice none 0 0, .slice none 0 0, .slice none 0 0, .slice none 0 0, .slice none 0 0, .slice none 0 0, .slice none 0 0] 24) := ⟨_, rfl⟩
  have hb0 : Below w.heap.size w W0 := by rw [hW0]; (repeat (first | exact Below.refl _ _ | refine below_drewN ?_ _ | refine Below.drew ?_ | refine Below.alloc ?_ (by first | omega | (simp; done) | (simp; omega)) _ | refine Below.setCell ?_ (by first | omega | (simp; done) | (simp; omega)) _ | refine bel_alloc ?_ _ | refine bel_trans ?_ (by assumption) | refine Below.trans ?_ (Below.mono (by assumption) (by first | omega | (simp; done) | (simp; omega)))))
  have hB0 : Blk W0 w.heap.size 52 #[.slice (some ⟨g, 0, none⟩) 8 c] := by rw [hW0]; exact (Blk.new w _ _).alloc _
  have hR0 : Blk W0 (w.heap.size + 1) 24 #[.slice none 0 0, .slice none 0 0, .slice none 0 0, .slice none 0 0, .slice none 0 0, .slice none 0 0, .slice none 0 0, .slice none 0 0] := by rw [hW0]; exact blk_new2 w _ _ _
  have h8 := h.1
  have HC := hide (fun (W : World) (hb : Below W0.heap.size W0 W) (i : Nat) (hi : i < ls.length) => ofc_any ((h.below hb0).below hb) (hB0.below hb hB0.lt) i hi)
  have HX := hide (And.intro hb0 hR0)
  have C0 := hide (fun (W : World) (hb : Below W0.heap.size W0 W) => show Calls Tryd.prog 33 #[.int .i64 0, .pointer (some ⟨w.heap.size, 0, none⟩)] W (fun e w' => ∃ v, e = .returned v ∧ NewC W.heap.size w' v (ls[0]'(by omega)) ∧ Below W.heap.size W w') from HC.out W hb 0 (by omega))
  have C1 := hide (fun (W : World) (hb : Below W0.heap.size W0 W) => show Calls Tryd.prog 33 #[.int .i64 1, .pointer (some ⟨w.heap.size, 0, none⟩)] W (fun e w' => ∃ v, e = .returned v ∧ NewC W.heap.size w' v (ls[1]'(by omega)) ∧ Below W.heap.size W w') from HC.out W hb 1 (by omega))
  have C2 := hide (fun (W : World) (hb : Below W0.heap.size W0 W) => show Calls Tryd.prog 33 #[.int .i64 2, .pointer (some ⟨w.heap.size, 0, none⟩)] W (fun e w' => ∃ v, e = .returned v ∧ NewC W.heap.size w' v (ls[2]'(by omega)) ∧ Below W.heap.size W w') from HC.out W hb 2 (by omega))
  have C3 := hide (fun (W : World) (hb : Below W0.heap.size W0 W) => show Calls Tryd.prog 33 #[.int .i64 3, .pointer (some ⟨w.heap.size, 0, none⟩)] W (fun e w' => ∃ v, e = .returned v ∧ NewC W.heap.size w' v (ls[3]'(by omega)) ∧ Below W.heap.size W w') from HC.out W hb 3 (by omega))
  have C4 := hide (fun (W : World) (hb : Below W0.heap.size W0 W) => show Calls Tryd.prog 33 #[.int .i64 4, .pointer (some ⟨w.heap.size, 0, none⟩)] W (fun e w' => ∃ v, e = .returned v ∧ NewC W.heap.size w' v (ls[4]'(by omega)) ∧ Below W.heap.size W w') from HC.out W hb 4 (by omega))
  have C5 := hide (fun (W : World) (hb : Below W0.heap.size W0 W) => show Calls Tryd.prog 33 #[.int .i64 5, .pointer (some ⟨w.heap.size, 0, none⟩)] W (fun e w' => ∃ v, e = .returned v ∧ NewC W.heap.size w' v (ls[5]'(by omega)) ∧ Below W.heap.size W w') from HC.out W hb 5 (by omega))
  have C6 := hide (fun (W : World) (hb : Below W0.heap.size W0 W) => show Calls Tryd.prog 33 #[.int .i64 6, .pointer (some ⟨w.heap.size, 0, none⟩)] W (fun e w' => ∃ v, e = .returned v ∧ NewC W.heap.size w' v (ls[6]'(by omega)) ∧ Below W.heap.size W w') from HC.out W hb 6 (by omega))
  have C7 := hide (fun (W : World) (hb : Below W0.heap.size W0 W) => show Calls Tryd.prog 33 #[.int .i64 7, .pointer (some ⟨w.heap.size, 0, none⟩)] W (fun e w' => ∃ v, e = .returned v ∧ NewC W.heap.size w' v (ls[7]'(by omega)) ∧ Below W.heap.size W w') from HC.out W hb 7 (by omega))
  have b0 := hB0.cell 0
  simp at b0
  have H8 := hide h8
  clear hb0 hB0 hR0 HC h
  go_enter Tryd.func16, Tryd.ntmps16
  go_upto_region 1 with fail
  rw [← hW0]
  clear hW0
  go_wp2_with (first
    | (go_at_call 33; (with_reducible refine (C0.out _ (Below.refl _ _)).mono ?_); rintro e w1 ⟨u0, rfl, hs0, hb1⟩; have hs0 := hide hs0; obtain ⟨B0, m0, d0, hu0, rfl⟩ := newC_sl hs0.out; clear hu0; have hc0 := hb1)
    | (go_at_call 33; (with_reducible refine (C1.out _ hc0).mono ?_); rintro e w2 ⟨u1, rfl, hs1, hb2⟩; have hs1 := hide hs1; obtain ⟨B1, m1, d1, hu1, rfl⟩ := newC_sl hs1.out; clear hu1; have hc1 := hc0.trans (hb2.mono hc0.size))
    | (go_at_call 33; (with_reducible refine (C2.out _ hc1).mono ?_); rintro e w3 ⟨u2, rfl, hs2, hb3⟩; have hs2 := hide hs2; obtain ⟨B2, m2, d2, hu2, rfl⟩ := newC_sl hs2.out; clear hu2; have hc2 := hc1.trans (hb3.mono hc1.size))
    | (go_at_call 33; (with_reducible refine (C3.out _ hc2).mono ?_); rintro e w4 ⟨u3, rfl, hs3, hb4⟩; have hs3 := hide hs3; obtain ⟨B3, m3, d3, hu3, rfl⟩ := newC_sl hs3.out; clear hu3; have hc3 := hc2.trans (hb4.mono hc2.size))
    | (go_at_call 33; (with_reducible refine (C4.out _ hc3).mono ?_); rintro e w5 ⟨u4, rfl, hs4, hb5⟩; have hs4 := hide hs4; obtain ⟨B4, m4, d4, hu4, rfl⟩ := newC_sl hs4.out; clear hu4; have hc4 := hc3.trans (hb5.mono hc3.size))
    | (go_at_call 33; (with_reducible refine (C5.out _ hc4).mono ?_); rintro e w6 ⟨u5, rfl, hs5, hb6⟩; have hs5 := hide hs5; obtain ⟨B5, m5, d5, hu5, rfl⟩ := newC_sl hs5.out; clear hu5; have hc5 := hc4.trans (hb6.mono hc4.size))
    | (go_at_call 33; (with_reducible refine (C6.out _ hc5).mono ?_); rintro e w7 ⟨u6, rfl, hs6, hb7⟩; have hs6 := hide hs6; obtain ⟨B6, m6, d6, hu6, rfl⟩ := newC_sl hs6.out; clear hu6; have hc6 := hc5.trans (hb7.mono hc5.size))
    | (go_at_call 33; (with_reducible refine (C7.out _ hc6).mono ?_); rintro e w8 ⟨u7, rfl, hs7, hb8⟩; have hs7 := hide hs7; obtain ⟨B7, m7, d7, hu7, rfl⟩ := newC_sl hs7.out; clear hu7; have hc7 := hc6.trans (hb8.mono hc6.size); have hR8 := HX.out.2.below hc7 HX.out.2.lt; have r0 := hR8.cell 0; have t0 := hR8.frozen 0; have r1 := hR8.cell 1; have t1 := hR8.frozen 1; have r2 := hR8.cell 2; have t2 := hR8.frozen 2; have r3 := hR8.cell 3; have t3 := hR8.frozen 3; have r4 := hR8.cell 4; have t4 := hR8.frozen 4; have r5 := hR8.cell 5; have t5 := hR8.frozen 5; have r6 := hR8.cell 6; have t6 := hR8.frozen 6; have r7 := hR8.cell 7; have t7 := hR8.frozen 7; simp at r0 r1 r2 r3 r4 r5 r6 r7)
    | fail)
  have hF := fin8 hR8 (.slice B0 m0 d0) (.slice B1 m1 d1) (.slice B2 m2 d2) (.slice B3 m3 d3) (.slice B4 m4 d4) (.slice B5 m5 d5) (.slice B6 m6 d6) (.slice B7 m7 d7)
  have d7' : Below w8.heap.size w8 w8 := Below.refl _ _
  have d6' := hb8.trans (d7'.mono hb8.size)
  have d5' := hb7.trans (d6'.mono hb7.size)
  have d4' := hb6.trans (d5'.mono hb6.size)
  have d3' := hb5.trans (d4'.mono hb5.size)
  have d2' := hb4.trans (d3'.mono hb4.size)
  have d1' := hb3.trans (d2'.mono hb3.size)
  have d0' := hb2.trans (d1'.mono hb2.size)
  have hz0 : w.heap.size + 1 < W0.heap.size := HX.out.2.lt
  have S0 := (newC8 (r := w.heap.size + 1) (hs0.out.belowW d0') (hz0) (.slice B0 m0 d0) (.slice B1 m1 d1) (.slice B2 m2 d2) (.slice B3 m3 d3) (.slice B4 m4 d4) (.slice B5 m5 d5) (.slice B6 m6 d6) (.slice B7 m7 d7)).mono (lo2 := w.heap.size) (by omega)
  have S1 := (newC8 (r := w.heap.size + 1) (hs1.out.belowW d1') (Nat.lt_of_lt_of_le hz0 hc0.size) (.slice B0 m0 d0) (.slice B1 m1 d1) (.slice B2 m2 d2) (.slice B3 m3 d3) (.slice B4 m4 d4) (.slice B5 m5 d5) (.slice B6 m6 d6) (.slice B7 m7 d7)).mono (lo2 := w.heap.size) (by have := hc0.size; omega)
  have S2 := (newC8 (r := w.heap.size + 1) (hs2.out.belowW d2') (Nat.lt_of_lt_of_le hz0 hc1.size) (.slice B0 m0 d0) (.slice B1 m1 d1) (.slice B2 m2 d2) (.slice B3 m3 d3) (.slice B4 m4 d4) (.slice B5 m5 d5) (.slice B6 m6 d6) (.slice B7 m7 d7)).mono (lo2 := w.heap.size) (by have := hc1.size; omega)
  have S3 := (newC8 (r := w.heap.size + 1) (hs3.out.belowW d3') (Nat.lt_of_lt_of_le hz0 hc2.size) (.slice B0 m0 d0) (.slice B1 m1 d1) (.slice B2 m2 d2) (.slice B3 m3 d3) (.slice B4 m4 d4) (.slice B5 m5 d5) (.slice B6 m6 d6) (.slice B7 m7 d7)).mono (lo2 := w.heap.size) (by have := hc2.size; omega)
  have S4 := (newC8 (r := w.heap.size + 1) (hs4.out.belowW d4') (Nat.lt_of_lt_of_le hz0 hc3.size) (.slice B0 m0 d0) (.slice B1 m1 d1) (.slice B2 m2 d2) (.slice B3 m3 d3) (.slice B4 m4 d4) (.slice B5 m5 d5) (.slice B6 m6 d6) (.slice B7 m7 d7)).mono (lo2 := w.heap.size) (by have := hc3.size; omega)
  have S5 := (newC8 (r := w.heap.size + 1) (hs5.out.belowW d5') (Nat.lt_of_lt_of_le hz0 hc4.size) (.slice B0 m0 d0) (.slice B1 m1 d1) (.slice B2 m2 d2) (.slice B3 m3 d3) (.slice B4 m4 d4) (.slice B5 m5 d5) (.slice B6 m6 d6) (.slice B7 m7 d7)).mono (lo2 := w.heap.size) (by have := hc4.size; omega)
  have S6 := (newC8 (r := w.heap.size + 1) (hs6.out.belowW d6') (Nat.lt_of_lt_of_le hz0 hc5.size) (.slice B0 m0 d0) (.slice B1 m1 d1) (.slice B2 m2 d2) (.slice B3 m3 d3) (.slice B4 m4 d4) (.slice B5 m5 d5) (.slice B6 m6 d6) (.slice B7 m7 d7)).mono (lo2 := w.heap.size) (by have := hc5.size; omega)
  have S7 := (newC8 (r := w.heap.size + 1) (hs7.out.belowW d7') (Nat.lt_of_lt_of_le hz0 hc6.size) (.slice B0 m0 d0) (.slice B1 m1 d1) (.slice B2 m2 d2) (.slice B3 m3 d3) (.slice B4 m4 d4) (.slice B5 m5 d5) (.slice B6 m6 d6) (.slice B7 m7 d7)).mono (lo2 := w.heap.size) (by have := hc6.size; omega)
  have hbF := bel8 (r := w.heap.size + 1) (HX.out.1.trans (hc7.mono HX.out.1.size)) (Nat.le_succ _) (.slice B0 m0 d0) (.slice B1 m1 d1) (.slice B2 m2 d2) (.slice B3 m3 d3) (.slice B4 m4 d4) (.slice B5 m5 d5) (.slice B6 m6 d6) (.slice B7 m7 d7)
  generalize ((((((((w8.setCell ⟨w.heap.size + 1, 0, none⟩ (.slice B0 m0 d0)).setCell ⟨w.heap.size + 1, 1, none⟩ (.slice B1 m1 d1)).setCell ⟨w.heap.size + 1, 2, none⟩ (.slice B2 m2 d2)).setCell ⟨w.heap.size + 1, 3, none⟩ (.slice B3 m3 d3)).setCell ⟨w.heap.size + 1, 4, none⟩ (.slice B4 m4 d4)).setCell ⟨w.heap.size + 1, 5, none⟩ (.slice B5 m5 d5)).setCell ⟨w.heap.size + 1, 6, none⟩ (.slice B6 m6 d6)).setCell ⟨w.heap.size + 1, 7, none⟩ (.slice B7 m7 d7)) = wF at hF S0 S1 S2 S3 S4 S5 S6 S7 hbF ⊢
  have q0 := hF.cell 0
  have q1 := hF.cell 1
  have q2 := hF.cell 2
  have q3 := hF.cell 3
  have q4 := hF.cell 4
  have q5 := hF.cell 5
  have q6 := hF.cell 6
  have q7 := hF.cell 7
  simp at q0 q1 q2 q3 q4 q5 q6 q7
  have HF := hide (show OfP w ls (.returned (.tuple #[.agg #[.slice B0 m0 d0, .slice B1 m1 d1, .slice B2 m2 d2, .slice B3 m3 d3, .slice B4 m4 d4, .slice B5 m5 d5, .slice B6 m6 d6, .slice B7 m7 d7], .bool true])) wF from ⟨B0, m0, d0, B1, m1, d1, B2, m2, d2, B3, m3, d3, B4, m4, d4, B5, m5, d5, B6, m6, d6, B7, m7, d7, rfl, all8 H8.out S0 S1 S2 S3 S4 S5 S6 S7, hbF⟩)
  clear hF S0 S1 S2 S3 S4 S5 S6 S7 hbF HX C0 C1 C2 C3 C4 C5 C6 C7 H8 b0
  clear hs0 hs1 hs2 hs3 hs4 hs5 hs6 hs7 hb1 hb2 hb3 hb4 hb5 hb6 hb7 hb8 hc0 hc1 hc2 hc3 hc4 hc5 hc6 hc7 hR8 r0 r1 r2 r3 r4 r5 r6 r7 t0 t1 t2 t3 t4 t5 t6 t7 d7' d6' d5' d4' d3' d2' d1' d0' hz0
  exact bodyPost_ret (v := .tuple #[.agg #[.slice B0 m0 d0, .slice B1 m1 d1, .slice B2 m2 d2, .slice B3 m3 d3, .slice B4 m4 d4, .slice B5 m5 d5, .slice B6 m6 d6, .slice B7 m7 d7], .bool true]) (by simp [results, Tryd.results16, go_sem, q0, q1, q2, q3, q4, q5, q6, q7]) rfl HF.out
end Go.Proofs.YtjaipdenahlheaaDoor
