/-
  What a peer says at the beginning, as an argument; and whether it is small. Conditions: none.
-/
import Derived.Test.YtnkkmhlppghajaaInitK
import Derived.Test.YtnkkmhlppghajaaOpen
namespace Go.Proofs.Ytnkkmhlppghajaa
open Go.RowKit

theorem oks_cons {w : World} {a : Shp} {l : List Shp} {us : List Value} (h : Shp.oks w (a :: l) us) : ∃ u us', us = u :: us' ∧ Shp.ok w a u ∧ Shp.oks w l us' := by
  match us, h with
  | [], h => simp [Shp.oks] at h
  | u :: us', h => exact ⟨u, us', rfl, by simpa [Shp.oks] using h⟩
def iniS : List Shp := [.s, .sl [.s], .sl [.s], .sl [.s], .sl [.s], .sl [.s], .sl [.s], .sl [.s], .sl [.s], .sl [.s], .sl [.s], .b, .b, .b, .b, .b]
/-- Sixteen cells that hold what a peer says. -/
structure IniV (w : World) (us : List Value) (x : Ini) : Prop where
  cells : ∃ v0 v1 v2 v3 v4 v5 v6 v7 l0 l1 : Value, us = [.string x.c, v0, v1, v2, v3, v4, v5, v6, v7, l0, l1, .bool x.b0, .bool x.b1, .bool x.b2, .bool x.b3, .bool x.b4] ∧ AllS 0 w [v0, v1, v2, v3, v4, v5, v6, v7] x.ss ∧ Strs 0 w l0 x.x0 ∧ Strs 0 w l1 x.x1
  cm : x.c.size ≤ maxLen
  n0 : x.x0.length ≤ 9223372036854775807
  n1 : x.x1.length ≤ 9223372036854775807
theorem open_ini {w : World} {r : List Shp} {us : List Value} (h : Shp.oks w (iniS ++ r) us) : ∃ x us1 us2, us = us1 ++ us2 ∧ IniV w us1 x ∧ Shp.oks w r us2 := by
  unfold iniS at h
  simp only [List.cons_append, List.nil_append] at h
  obtain ⟨w0, us0, rfl, hc, g0⟩ := oks_cons h
  obtain ⟨v0, us1, rfl, k0, g1⟩ := oks_cons g0
  obtain ⟨v1, us2, rfl, k1, g2⟩ := oks_cons g1
  obtain ⟨v2, us3, rfl, k2, g3⟩ := oks_cons g2
  obtain ⟨v3, us4, rfl, k3, g4⟩ := oks_cons g3
  obtain ⟨v4, us5, rfl, k4, g5⟩ := oks_cons g4
  obtain ⟨v5, us6, rfl, k5, g6⟩ := oks_cons g5
  obtain ⟨v6, us7, rfl, k6, g7⟩ := oks_cons g6
  obtain ⟨v7, us8, rfl, k7, g8⟩ := oks_cons g7
  obtain ⟨l0, us9, rfl, kx, g9⟩ := oks_cons g8
  obtain ⟨l1, us10, rfl, ky, g10⟩ := oks_cons g9
  obtain ⟨w1, us11, rfl, kb0, g11⟩ := oks_cons g10
  obtain ⟨w2, us12, rfl, kb1, g12⟩ := oks_cons g11
  obtain ⟨w3, us13, rfl, kb2, g13⟩ := oks_cons g12
  obtain ⟨w4, us14, rfl, kb3, g14⟩ := oks_cons g13
  obtain ⟨w5, us15, rfl, kb4, g15⟩ := oks_cons g14
  simp only [Shp.ok] at hc kb0 kb1 kb2 kb3 kb4
  obtain ⟨c, rfl, hcm⟩ := hc
  obtain ⟨b0, rfl⟩ := kb0
  obtain ⟨b1, rfl⟩ := kb1
  obtain ⟨b2, rfl⟩ := kb2
  obtain ⟨b3, rfl⟩ := kb3
  obtain ⟨b4, rfl⟩ := kb4
  obtain ⟨s0, S0, n0, _⟩ := strs_of k0
  obtain ⟨s1, S1, n1, _⟩ := strs_of k1
  obtain ⟨s2, S2, n2, _⟩ := strs_of k2
  obtain ⟨s3, S3, n3, _⟩ := strs_of k3
  obtain ⟨s4, S4, n4, _⟩ := strs_of k4
  obtain ⟨s5, S5, n5, _⟩ := strs_of k5
  obtain ⟨s6, S6, n6, _⟩ := strs_of k6
  obtain ⟨s7, S7, n7, _⟩ := strs_of k7
  obtain ⟨x0, X0, m0, _⟩ := strs_of kx
  obtain ⟨x1, X1, m1, _⟩ := strs_of ky
  unfold maxLen at n0 n1 n2 n3 n4 n5 n6 n7 m0 m1
  refine ⟨⟨c, [s0, s1, s2, s3, s4, s5, s6, s7], x0, x1, b0, b1, b2, b3, b4⟩, [.string c, v0, v1, v2, v3, v4, v5, v6, v7, l0, l1, .bool b0, .bool b1, .bool b2, .bool b3, .bool b4], us15, rfl, ⟨⟨v0, v1, v2, v3, v4, v5, v6, v7, l0, l1, rfl, ⟨rfl, ?_⟩, X0, X1⟩, hcm, m0, m1⟩, g15⟩
  intro i v s hv hs
  match i, hv, hs with
  | 0, hv, hs => cases hv; cases hs; exact ⟨S0, n0⟩
  | 1, hv, hs => cases hv; cases hs; exact ⟨S1, n1⟩
  | 2, hv, hs => cases hv; cases hs; exact ⟨S2, n2⟩
  | 3, hv, hs => cases hv; cases hs; exact ⟨S3, n3⟩
  | 4, hv, hs => cases hv; cases hs; exact ⟨S4, n4⟩
  | 5, hv, hs => cases hv; cases hs; exact ⟨S5, n5⟩
  | 6, hv, hs => cases hv; cases hs; exact ⟨S6, n6⟩
  | 7, hv, hs => cases hv; cases hs; exact ⟨S7, n7⟩
  | n + 8, hv, hs => simp at hv
def fewI (x : Ini) : Bool := fewLs x.ss && fewLs [x.x0, x.x1, [], [], [], [], [], []] && decide (x.c.size ≤ 100)
theorem IniV.below {w w' : World} {us : List Value} {x : Ini} (h : IniV w us x) (hb : Below w.heap.size w w') : IniV w' us x := by
  obtain ⟨⟨v0, v1, v2, v3, v4, v5, v6, v7, l0, l1, e, h1, h2, h3⟩, h4, h5, h6⟩ := h
  exact ⟨⟨v0, v1, v2, v3, v4, v5, v6, v7, l0, l1, e, h1.below hb, h2.below hb, h3.below hb⟩, h4, h5, h6⟩
set_option maxHeartbeats 2000000 in
theorem few16_any {us : List Value} {x : Ini} {w : World} (h : IniV w us x) : Calls Try.prog 6 #[.agg us.toArray] w fun e w' => e = .returned (.bool (fewI x)) ∧ Below w.heap.size w w' := by
  obtain ⟨⟨v0, v1, v2, v3, v4, v5, v6, v7, l0, l1, rfl, h1, h2, h3⟩, h4, h5, h6⟩ := h
  obtain ⟨c, ss, x0, x1, b0, b1, b2, b3, b4⟩ := x
  simp only at h1 h2 h3 h4 h5 h6 ⊢
  have hl2 : AllS 0 w [l0, l1, .slice none 0 0, .slice none 0 0, .slice none 0 0, .slice none 0 0, .slice none 0 0, .slice none 0 0] [x0, x1, [], [], [], [], [], []] := by
    refine ⟨rfl, fun i v s hv hs => ?_⟩
    match i, hv, hs with
    | 0, hv, hs => cases hv; cases hs; exact ⟨h2, h5⟩
    | 1, hv, hs => cases hv; cases hs; exact ⟨h3, h6⟩
    | 2, hv, hs => cases hv; cases hs; exact ⟨strs_nil _ _ _, by simp⟩
    | 3, hv, hs => cases hv; cases hs; exact ⟨strs_nil _ _ _, by simp⟩
    | 4, hv, hs => cases hv; cases hs; exact ⟨strs_nil _ _ _, by simp⟩
    | 5, hv, hs => cases hv; cases hs; exact ⟨strs_nil _ _ _, by simp⟩
    | 6, hv, hs => cases hv; cases hs; exact ⟨strs_nil _ _ _, by simp⟩
    | 7, hv, hs => cases hv; cases hs; exact ⟨strs_nil _ _ _, by simp⟩
    | n + 8, hv, hs => simp at hv
  have H1 := hide (fun w2 (hb2 : Below w.heap.size w w2) => few15_any (h1.below hb2))
  have H2 := hide (fun w2 (hb2 : Below w.heap.size w w2) => few15_any (hl2.below hb2))
  have hsl := h1.sl8
  obtain ⟨C0, i0, j0, rfl⟩ := h2.isSl
  obtain ⟨C1, i1, j1, rfl⟩ := h3.isSl
  clear h1 h2 h3 h5 h6 hl2
  obtain ⟨⟨A0, s0, t0, rfl⟩, ⟨A1, s1, t1, rfl⟩, ⟨A2, s2, t2, rfl⟩, ⟨A3, s3, t3, rfl⟩, ⟨A4, s4, t4, rfl⟩, ⟨A5, s5, t5, rfl⟩, ⟨A6, s6, t6, rfl⟩, ⟨A7, s7, t7, rfl⟩⟩ := hsl
  unfold fewI
  simp only
  unfold maxLen at h4
  by_cases g1 : fewLs ss = true
  · rw [g1] at H1 ⊢
    by_cases g2 : fewLs [x0, x1, [], [], [], [], [], []] = true
    · rw [g2] at H2 ⊢
      clear g1 g2
      go_enter Try.func6, Try.ntmps6
      go_wp2_with (first
        | (go_at_call 12; (with_reducible refine (H1.out _ (by (repeat (first | exact Below.refl _ _ | refine below_drewN ?_ _ | refine Below.drew ?_ | refine Below.alloc ?_ (by first | omega | (simp; done) | (simp; omega)) _ | refine Below.setCell ?_ (by first | omega | (simp; done) | (simp; omega)) _ | refine bel_alloc ?_ _ | refine bel_trans ?_ (by assumption) | refine Below.trans ?_ (Below.mono (by assumption) (by first | omega | (simp; done) | (simp; omega))))))).mono ?_); rintro e w1 ⟨rfl, hb1⟩; obtain ⟨hc1, hf1⟩ := bcell hb1; have ha1 : Below w.heap.size w w1 := (by (repeat (first | exact Below.refl _ _ | refine below_drewN ?_ _ | refine Below.drew ?_ | refine Below.alloc ?_ (by first | omega | (simp; done) | (simp; omega)) _ | refine Below.setCell ?_ (by first | omega | (simp; done) | (simp; omega)) _ | refine bel_alloc ?_ _ | refine bel_trans ?_ (by assumption) | refine Below.trans ?_ (Below.mono (by assumption) (by first | omega | (simp; done) | (simp; omega)))))); have hz1 : w.heap.size < w1.heap.size := (by have := hb1.size; simp at this; omega); have hz1' : w.heap.size + 1 < w1.heap.size := (by have := hb1.size; simp at this; omega))
        | (go_at_call 12; (with_reducible refine (H2.out _ ha1).mono ?_); rintro e w2 ⟨rfl, hb2⟩; obtain ⟨hc2, hf2⟩ := bcell hb2; have ha2 : Below w.heap.size w w2 := (by (repeat (first | exact Below.refl _ _ | refine below_drewN ?_ _ | refine Below.drew ?_ | refine Below.alloc ?_ (by first | omega | (simp; done) | (simp; omega)) _ | refine Below.setCell ?_ (by first | omega | (simp; done) | (simp; omega)) _ | refine bel_alloc ?_ _ | refine bel_trans ?_ (by assumption) | refine Below.trans ?_ (Below.mono (by assumption) (by first | omega | (simp; done) | (simp; omega))))))))
      go_ret
      exact ⟨ret_bool (by simp; omega), by (repeat (first | exact Below.refl _ _ | refine below_drewN ?_ _ | refine Below.drew ?_ | refine Below.alloc ?_ (by first | omega | (simp; done) | (simp; omega)) _ | refine Below.setCell ?_ (by first | omega | (simp; done) | (simp; omega)) _ | refine bel_alloc ?_ _ | refine bel_trans ?_ (by assumption) | refine Below.trans ?_ (Below.mono (by assumption) (by first | omega | (simp; done) | (simp; omega)))))⟩
    · rw [Bool.not_eq_true] at g2
      rw [g2] at H2 ⊢
      clear g1 g2
      go_enter Try.func6, Try.ntmps6
      go_wp2_with (first
        | (go_at_call 12; (with_reducible refine (H1.out _ (by (repeat (first | exact Below.refl _ _ | refine below_drewN ?_ _ | refine Below.drew ?_ | refine Below.alloc ?_ (by first | omega | (simp; done) | (simp; omega)) _ | refine Below.setCell ?_ (by first | omega | (simp; done) | (simp; omega)) _ | refine bel_alloc ?_ _ | refine bel_trans ?_ (by assumption) | refine Below.trans ?_ (Below.mono (by assumption) (by first | omega | (simp; done) | (simp; omega))))))).mono ?_); rintro e w1 ⟨rfl, hb1⟩; obtain ⟨hc1, hf1⟩ := bcell hb1; have ha1 : Below w.heap.size w w1 := (by (repeat (first | exact Below.refl _ _ | refine below_drewN ?_ _ | refine Below.drew ?_ | refine Below.alloc ?_ (by first | omega | (simp; done) | (simp; omega)) _ | refine Below.setCell ?_ (by first | omega | (simp; done) | (simp; omega)) _ | refine bel_alloc ?_ _ | refine bel_trans ?_ (by assumption) | refine Below.trans ?_ (Below.mono (by assumption) (by first | omega | (simp; done) | (simp; omega)))))); have hz1 : w.heap.size < w1.heap.size := (by have := hb1.size; simp at this; omega); have hz1' : w.heap.size + 1 < w1.heap.size := (by have := hb1.size; simp at this; omega))
        | (go_at_call 12; (with_reducible refine (H2.out _ ha1).mono ?_); rintro e w2 ⟨rfl, hb2⟩; obtain ⟨hc2, hf2⟩ := bcell hb2; have ha2 : Below w.heap.size w w2 := (by (repeat (first | exact Below.refl _ _ | refine below_drewN ?_ _ | refine Below.drew ?_ | refine Below.alloc ?_ (by first | omega | (simp; done) | (simp; omega)) _ | refine Below.setCell ?_ (by first | omega | (simp; done) | (simp; omega)) _ | refine bel_alloc ?_ _ | refine bel_trans ?_ (by assumption) | refine Below.trans ?_ (Below.mono (by assumption) (by first | omega | (simp; done) | (simp; omega))))))))
      go_ret
      exact ⟨ret_bool (by simp), by (repeat (first | exact Below.refl _ _ | refine below_drewN ?_ _ | refine Below.drew ?_ | refine Below.alloc ?_ (by first | omega | (simp; done) | (simp; omega)) _ | refine Below.setCell ?_ (by first | omega | (simp; done) | (simp; omega)) _ | refine bel_alloc ?_ _ | refine bel_trans ?_ (by assumption) | refine Below.trans ?_ (Below.mono (by assumption) (by first | omega | (simp; done) | (simp; omega)))))⟩
  · rw [Bool.not_eq_true] at g1
    rw [g1] at H1 ⊢
    clear g1 H2
    go_enter Try.func6, Try.ntmps6
    go_wp2_with (go_at_call 12; refine (H1.out _ (by (repeat (first | exact Below.refl _ _ | refine below_drewN ?_ _ | refine Below.drew ?_ | refine Below.alloc ?_ (by first | omega | (simp; done) | (simp; omega)) _ | refine Below.setCell ?_ (by first | omega | (simp; done) | (simp; omega)) _ | refine bel_alloc ?_ _ | refine bel_trans ?_ (by assumption) | refine Below.trans ?_ (Below.mono (by assumption) (by first | omega | (simp; done) | (simp; omega))))))).mono ?_; rintro e w1 ⟨rfl, hb1⟩)
    go_ret
    exact ⟨ret_bool (by simp), by (repeat (first | exact Below.refl _ _ | refine below_drewN ?_ _ | refine Below.drew ?_ | refine Below.alloc ?_ (by first | omega | (simp; done) | (simp; omega)) _ | refine Below.setCell ?_ (by first | omega | (simp; done) | (simp; omega)) _ | refine bel_alloc ?_ _ | refine bel_trans ?_ (by assumption) | refine Below.trans ?_ (Below.mono (by assumption) (by first | omega | (simp; done) | (simp; omega)))))⟩
end Go.Proofs.Ytnkkmhlppghajaa
