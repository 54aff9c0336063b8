/-
  Several of my texts in one: InitK, InitO, EqArr, KexA.
-/
import Derived.Test.YtjaipdenahlheaaGreatDoorInit
import Derived.Test.YtjaipdenahlheaaGreatDoorMsgG
import Derived.Test.YtjaipdenahlheaaGreatDoorBaseG
import Derived.Test.YtjaipdenahlheaaGreatDoorDigits
import Derived.Deep.RegionHeld3
import Derived.Lib.QuietBelow
import Derived.Deep.DeepCutAuto
set_option linter.unusedVariables false
set_option linter.unusedSimpArgs false
/-
  Whether all that two peers say at the beginning is the same: the contracts of kexinit.Same and of the statements' own Same. Conditions: the arguments read as data.
-/
namespace Go.Proofs.YtjaipdenahlheaaGreatDoor
open Go.RowKit

end Go.Proofs.YtjaipdenahlheaaGreatDoor

/-
  What a peer says at the beginning, as an argument; and whether it is small. Conditions: none.
-/
namespace Go.Proofs.YtjaipdenahlheaaGreatDoor
open Go.RowKit

theorem oks_cons {w : World} {a : Shp} {l : List Shp} {us : List Value} (h : Shp.oks w (a :: l) us) : ∃ u us', us = u :: us' ∧ Shp.ok w a u ∧ Shp.oks w l us' := by
  match us, h with
  | [], h => simp [Shp.oks] at h
  | u :: us', h => exact ⟨u, us', rfl, by simpa [Shp.oks] using h⟩
def iniS : List Shp := [.s, .sl [.s], .sl [.s], .sl [.s], .sl [.s], .sl [.s], .sl [.s], .sl [.s], .sl [.s], .sl [.s], .sl [.s], .b, .b, .b, .b, .b]
/-- Sixteen cells that hold what a peer says. -/
structure IniV (w : World) (us : List Value) (x : Ini) : Prop where
  cells : ∃ v0 v1 v2 v3 v4 v5 v6 v7 l0 l1 : Value, us = [.string x.c, v0, v1, v2, v3, v4, v5, v6, v7, l0, l1, .bool x.b0, .bool x.b1, .bool x.b2, .bool x.b3, .bool x.b4] ∧ AllS 0 w [v0, v1, v2, v3, v4, v5, v6, v7] x.ss ∧ Strs 0 w l0 x.x0 ∧ Strs 0 w l1 x.x1
  cm : x.c.size ≤ maxLen
  n0 : x.x0.length ≤ 9223372036854775807
  n1 : x.x1.length ≤ 9223372036854775807
theorem open_ini {w : World} {r : List Shp} {us : List Value} (h : Shp.oks w (iniS ++ r) us) : ∃ x us1 us2, us = us1 ++ us2 ∧ IniV w us1 x ∧ Shp.oks w r us2 := by
  unfold iniS at h
  simp only [List.cons_append, List.nil_append] at h
  obtain ⟨w0, us0, rfl, hc, g0⟩ := oks_cons h
  obtain ⟨v0, us1, rfl, k0, g1⟩ := oks_cons g0
  obtain ⟨v1, us2, rfl, k1, g2⟩ := oks_cons g1
  obtain ⟨v2, us3, rfl, k2, g3⟩ := oks_cons g2
  obtain ⟨v3, us4, rfl, k3, g4⟩ := oks_cons g3
  obtain ⟨v4, us5, rfl, k4, g5⟩ := oks_cons g4
  obtain ⟨v5, us6, rfl, k5, g6⟩ := oks_cons g5
  obtain ⟨v6, us7, rfl, k6, g7⟩ := oks_cons g6
  obtain ⟨v7, us8, rfl, k7, g8⟩ := oks_cons g7
  obtain ⟨l0, us9, rfl, kx, g9⟩ := oks_cons g8
  obtain ⟨l1, us10, rfl, ky, g10⟩ := oks_cons g9
  obtain ⟨w1, us11, rfl, kb0, g11⟩ := oks_cons g10
  obtain ⟨w2, us12, rfl, kb1, g12⟩ := oks_cons g11
  obtain ⟨w3, us13, rfl, kb2, g13⟩ := oks_cons g12
  obtain ⟨w4, us14, rfl, kb3, g14⟩ := oks_cons g13
  obtain ⟨w5, us15, rfl, kb4, g15⟩ := oks_cons g14
  simp only [Shp.ok] at hc kb0 kb1 kb2 kb3 kb4
  obtain ⟨c, rfl, hcm⟩ := hc
  obtain ⟨b0, rfl⟩ := kb0
  obtain ⟨b1, rfl⟩ := kb1
  obtain ⟨b2, rfl⟩ := kb2
  obtain ⟨b3, rfl⟩ := kb3
  obtain ⟨b4, rfl⟩ := kb4
  obtain ⟨s0, S0, n0, _⟩ := strs_of k0
  obtain ⟨s1, S1, n1, _⟩ := strs_of k1
  obtain ⟨s2, S2, n2, _⟩ := strs_of k2
  obtain ⟨s3, S3, n3, _⟩ := strs_of k3
  obtain ⟨s4, S4, n4, _⟩ := strs_of k4
  obtain ⟨s5, S5, n5, _⟩ := strs_of k5
  obtain ⟨s6, S6, n6, _⟩ := strs_of k6
  obtain ⟨s7, S7, n7, _⟩ := strs_of k7
  obtain ⟨x0, X0, m0, _⟩ := strs_of kx
  obtain ⟨x1, X1, m1, _⟩ := strs_of ky
  unfold maxLen at n0 n1 n2 n3 n4 n5 n6 n7 m0 m1
  refine ⟨⟨c, [s0, s1, s2, s3, s4, s5, s6, s7], x0, x1, b0, b1, b2, b3, b4⟩, [.string c, v0, v1, v2, v3, v4, v5, v6, v7, l0, l1, .bool b0, .bool b1, .bool b2, .bool b3, .bool b4], us15, rfl, ⟨⟨v0, v1, v2, v3, v4, v5, v6, v7, l0, l1, rfl, ⟨rfl, ?_⟩, X0, X1⟩, hcm, m0, m1⟩, g15⟩
  intro i v s hv hs
  match i, hv, hs with
  | 0, hv, hs => cases hv; cases hs; exact ⟨S0, n0⟩
  | 1, hv, hs => cases hv; cases hs; exact ⟨S1, n1⟩
  | 2, hv, hs => cases hv; cases hs; exact ⟨S2, n2⟩
  | 3, hv, hs => cases hv; cases hs; exact ⟨S3, n3⟩
  | 4, hv, hs => cases hv; cases hs; exact ⟨S4, n4⟩
  | 5, hv, hs => cases hv; cases hs; exact ⟨S5, n5⟩
  | 6, hv, hs => cases hv; cases hs; exact ⟨S6, n6⟩
  | 7, hv, hs => cases hv; cases hs; exact ⟨S7, n7⟩
  | n + 8, hv, hs => simp at hv
def fewI (x : Ini) : Bool := fewLs x.ss && fewLs [x.x0, x.x1, [], [], [], [], [], []] && decide (x.c.size ≤ 100)
theorem IniV.below {w w' : World} {us : List Value} {x : Ini} (h : IniV w us x) (hb : Below w.heap.size w w') : IniV w' us x := by
  obtain ⟨⟨v0, v1, v2, v3, v4, v5, v6, v7, l0, l1, e, h1, h2, h3⟩, h4, h5, h6⟩ := h
  exact ⟨⟨v0, v1, v2, v3, v4, v5, v6, v7, l0, l1, e, h1.below hb, h2.below hb, h3.below hb⟩, h4, h5, h6⟩
set_option maxHeartbeats 2000000 in
theorem few16_any {us : List Value} {x : Ini} {w : World} (h : IniV w us x) : Calls Tryz.prog 14 #[.agg us.toArray] w fun e w' => e = .returned (.bool (fewI x)) ∧ Below w.heap.size w w' := by
  obtain ⟨⟨v0, v1, v2, v3, v4, v5, v6, v7, l0, l1, rfl, h1, h2, h3⟩, h4, h5, h6⟩ := h
  obtain ⟨c, ss, x0, x1, b0, b1, b2, b3, b4⟩ := x
  simp only at h1 h2 h3 h4 h5 h6 ⊢
  have hl2 : AllS 0 w [l0, l1, .slice none 0 0, .slice none 0 0, .slice none 0 0, .slice none 0 0, .slice none 0 0, .slice none 0 0] [x0, x1, [], [], [], [], [], []] := by
    refine ⟨rfl, fun i v s hv hs => ?_⟩
    match i, hv, hs with
    | 0, hv, hs => cases hv; cases hs; exact ⟨h2, h5⟩
    | 1, hv, hs => cases hv; cases hs; exact ⟨h3, h6⟩
    | 2, hv, hs => cases hv; cases hs; exact ⟨strs_nil _ _ _, by simp⟩
    | 3, hv, hs => cases hv; cases hs; exact ⟨strs_nil _ _ _, by simp⟩
    | 4, hv, hs => cases hv; cases hs; exact ⟨strs_nil _ _ _, by simp⟩
    | 5, hv, hs => cases hv; cases hs; exact ⟨strs_nil _ _ _, by simp⟩
    | 6, hv, hs => cases hv; cases hs; exact ⟨strs_nil _ _ _, by simp⟩
    | 7, hv, hs => cases hv; cases hs; exact ⟨strs_nil _ _ _, by simp⟩
    | n + 8, hv, hs => simp at hv
  have H1 := hide (fun w2 (hb2 : Below w.heap.size w w2) => few15_any (h1.below hb2))
  have H2 := hide (fun w2 (hb2 : Below w.heap.size w w2) => few15_any (hl2.below hb2))
  have hsl := h1.sl8
  obtain ⟨C0, i0, j0, rfl⟩ := h2.isSl
  obtain ⟨C1, i1, j1, rfl⟩ := h3.isSl
  clear h1 h2 h3 h5 h6 hl2
  obtain ⟨⟨A0, s0, t0, rfl⟩, ⟨A1, s1, t1, rfl⟩, ⟨A2, s2, t2, rfl⟩, ⟨A3, s3, t3, rfl⟩, ⟨A4, s4, t4, rfl⟩, ⟨A5, s5, t5, rfl⟩, ⟨A6, s6, t6, rfl⟩, ⟨A7, s7, t7, rfl⟩⟩ := hsl
  unfold fewI
  simp only
  unfold maxLen at h4
  by_cases g1 : fewLs ss = true
  · rw [g1] at H1 ⊢
    by_cases g2 : fewLs [x0, x1, [], [], [], [], [], []] = true
    · rw [g2] at H2 ⊢
      clear g1 g2
      go_enter Tryz.func14, Tryz.ntmps14
      go_wp2_with (first
        | (go_at_call 22; (with_reducible refine (H1.out _ (by (repeat (first | exact Below.refl _ _ | refine below_drewN ?_ _ | refine Below.drew ?_ | refine Below.alloc ?_ (by first | omega | (simp; done) | (simp; omega)) _ | refine Below.setCell ?_ (by first | omega | (simp; done) | (simp; omega)) _ | refine bel_alloc ?_ _ | refine bel_trans ?_ (by assumption) | refine Below.trans ?_ (Below.mono (by assumption) (by first | omega | (simp; done) | (simp; omega))))))).mono ?_); rintro e w1 ⟨rfl, hb1⟩; obtain ⟨hc1, hf1⟩ := bcell hb1; have ha1 : Below w.heap.size w w1 := (by (repeat (first | exact Below.refl _ _ | refine below_drewN ?_ _ | refine Below.drew ?_ | refine Below.alloc ?_ (by first | omega | (simp; done) | (simp; omega)) _ | refine Below.setCell ?_ (by first | omega | (simp; done) | (simp; omega)) _ | refine bel_alloc ?_ _ | refine bel_trans ?_ (by assumption) | refine Below.trans ?_ (Below.mono (by assumption) (by first | omega | (simp; done) | (simp; omega)))))); have hz1 : w.heap.size < w1.heap.size := (by have := hb1.size; simp at this; omega); have hz1' : w.heap.size + 1 < w1.heap.size := (by have := hb1.size; simp at this; omega))
        | (go_at_call 22; (with_reducible refine (H2.out _ ha1).mono ?_); rintro e w2 ⟨rfl, hb2⟩; obtain ⟨hc2, hf2⟩ := bcell hb2; have ha2 : Below w.heap.size w w2 := (by (repeat (first | exact Below.refl _ _ | refine below_drewN ?_ _ | refine Below.drew ?_ | refine Below.alloc ?_ (by first | omega | (simp; done) | (simp; omega)) _ | refine Below.setCell ?_ (by first | omega | (simp; done) | (simp; omega)) _ | refine bel_alloc ?_ _ | refine bel_trans ?_ (by assumption) | refine Below.trans ?_ (Below.mono (by assumption) (by first | omega | (simp; done) | (simp; omega))))))))
      go_ret
      exact ⟨ret_bool (by simp; omega), by (repeat (first | exact Below.refl _ _ | refine below_drewN ?_ _ | refine Below.drew ?_ | refine Below.alloc ?_ (by first | omega | (simp; done) | (simp; omega)) _ | refine Below.setCell ?_ (by first | omega | (simp; done) | (simp; omega)) _ | refine bel_alloc ?_ _ | refine bel_trans ?_ (by assumption) | refine Below.trans ?_ (Below.mono (by assumption) (by first | omega | (simp; done) | (simp; omega)))))⟩
    · rw [Bool.not_eq_true] at g2
      rw [g2] at H2 ⊢
      clear g1 g2
      go_enter Tryz.func14, Tryz.ntmps14
      go_wp2_with (first
        | (go_at_call 22; (with_reducible refine (H1.out _ (by (repeat (first | exact Below.refl _ _ | refine below_drewN ?_ _ | refine Below.drew ?_ | refine Below.alloc ?_ (by first | omega | (simp; done) | (simp; omega)) _ | refine Below.setCell ?_ (by first | omega | (simp; done) | (simp; omega)) _ | refine bel_alloc ?_ _ | refine bel_trans ?_ (by assumption) | refine Below.trans ?_ (Below.mono (by assumption) (by first | omega | (simp; done) | (simp; omega))))))).mono ?_); rintro e w1 ⟨rfl, hb1⟩; obtain ⟨hc1, hf1⟩ := bcell hb1; have ha1 : Below w.heap.size w w1 := (by (repeat (first | exact Below.refl _ _ | refine below_drewN ?_ _ | refine Below.drew ?_ | refine Below.alloc ?_ (by first | omega | (simp; done) | (simp; omega)) _ | refine Below.setCell ?_ (by first | omega | (simp; done) | (simp; omega)) _ | refine bel_alloc ?_ _ | refine bel_trans ?_ (by assumption) | refine Below.trans ?_ (Below.mono (by assumption) (by first | omega | (simp; done) | (simp; omega)))))); have hz1 : w.heap.size < w1.heap.size := (by have := hb1.size; simp at this; omega); have hz1' : w.heap.size + 1 < w1.heap.size := (by have := hb1.size; simp at this; omega))
        | (go_at_call 22; (with_reducible refine (H2.out _ ha1).mono ?_); rintro e w2 ⟨rfl, hb2⟩; obtain ⟨hc2, hf2⟩ := bcell hb2; have ha2 : Below w.heap.size w w2 := (by (repeat (first | exact Below.refl _ _ | refine below_drewN ?_ _ | refine Below.drew ?_ | refine Below.alloc ?_ (by first | omega | (simp; done) | (simp; omega)) _ | refine Below.setCell ?_ (by first | omega | (simp; done) | (simp; omega)) _ | refine bel_alloc ?_ _ | refine bel_trans ?_ (by assumption) | refine Below.trans ?_ (Below.mono (by assumption) (by first | omega | (simp; done) | (simp; omega))))))))
      go_ret
      exact ⟨ret_bool (by simp), by (repeat (first | exact Below.refl _ _ | refine below_drewN ?_ _ | refine Below.drew ?_ | refine Below.alloc ?_ (by first | omega | (simp; done) | (simp; omega)) _ | refine Below.setCell ?_ (by first | omega | (simp; done) | (simp; omega)) _ | refine bel_alloc ?_ _ | refine bel_trans ?_ (by assumption) | refine Below.trans ?_ (Below.mono (by assumption) (by first | omega | (simp; done) | (simp; omega)))))⟩
  · rw [Bool.not_eq_true] at g1
    rw [g1] at H1 ⊢
    clear g1 H2
    go_enter Tryz.func14, Tryz.ntmps14
    go_wp2_with (go_at_call 22; refine (H1.out _ (by (repeat (first | exact Below.refl _ _ | refine below_drewN ?_ _ | refine Below.drew ?_ | refine Below.alloc ?_ (by first | omega | (simp; done) | (simp; omega)) _ | refine Below.setCell ?_ (by first | omega | (simp; done) | (simp; omega)) _ | refine bel_alloc ?_ _ | refine bel_trans ?_ (by assumption) | refine Below.trans ?_ (Below.mono (by assumption) (by first | omega | (simp; done) | (simp; omega))))))).mono ?_; rintro e w1 ⟨rfl, hb1⟩)
    go_ret
    exact ⟨ret_bool (by simp), by (repeat (first | exact Below.refl _ _ | refine below_drewN ?_ _ | refine Below.drew ?_ | refine Below.alloc ?_ (by first | omega | (simp; done) | (simp; omega)) _ | refine Below.setCell ?_ (by first | omega | (simp; done) | (simp; omega)) _ | refine bel_alloc ?_ _ | refine bel_trans ?_ (by assumption) | refine Below.trans ?_ (Below.mono (by assumption) (by first | omega | (simp; done) | (simp; omega)))))⟩
end Go.Proofs.YtjaipdenahlheaaGreatDoor

/-
  Two arrays of two numbers, compared. Conditions: none.
-/
namespace Go.Proofs.YtjaipdenahlheaaGreatDoor
open Go.RowKit

end Go.Proofs.YtjaipdenahlheaaGreatDoor

/-
  The law KexinitCookies, a part: the lemmas. Conditions: none.
-/
namespace Go.Proofs.YtjaipdenahlheaaGreatDoor
open Go.ChangeShapes Go.WideShapes Go.ChangeAt Go.RowKit Go.Sort
open Go.ChangeMaps (open_string shut_string)

theorem dataI {s t : ByteArray} (h : s.data.toList = t.data.toList) : s = t := by
  obtain ⟨s⟩ := s
  obtain ⟨t⟩ := t
  congr 1
  exact Array.toList_inj.1 h
theorem fewI_len {x : Ini} (h : fewI x = true) : ∀ s ∈ x.ss, s.length ≤ 8796093022207 := by
  intro s hs
  unfold fewI fewLs fewL at h
  simp only [Bool.and_eq_true, List.all_eq_true, decide_eq_true_eq] at h
  have := (h.1.1 s hs).1
  omega
theorem cookie12 (w : World) : Calls Tryz.prog 37 #[.int .i64 1, .int .i64 2] w fun e w' => e = .returned (.string ⟨#[99, 0, 0, 0, 0, 0, 0, 1, 0, 0, 0, 0, 0, 0, 2, 107]⟩) ∧ Below w.heap.size w w' := by
  refine (cookie_any 1 2 w (by omega) (by omega)).mono ?_
  rintro e w' ⟨r, rfl, hr, hb⟩
  obtain rfl : r = ⟨#[99, 0, 0, 0, 0, 0, 0, 1, 0, 0, 0, 0, 0, 0, 2, 107]⟩ := by
    obtain ⟨r⟩ := r
    congr 1
    exact Array.toList_inj.1 (hr.trans (by decide +kernel))
  exact ⟨rfl, hb⟩
theorem awake16 (w : World) : Calls Tryz.prog 15 #[] w fun e w' => e = .returned (.bool true) ∧ Below w.heap.size w w' := by
  go_enter Tryz.func15, Tryz.ntmps15
  go_wp2_with fail
  refine (cookie12 _).mono ?_
  rintro e w1 ⟨rfl, hb⟩
  go_wp2
  go_ret
  exact ⟨ret_bool (by decide +kernel), hb⟩
theorem cK {w0 w1 : World} {p : Addr} {v : Value} (hb : Below w0.heap.size w0 w1) (h : w0.cell? p = some v) : w1.cell? p = some v := (hb.cell (World.block_lt_of_cell? w0 _ h)).trans h
theorem keep32 {g : Nat} {z0 z1 z2 z3 z4 z5 z6 z7 z8 z9 z10 z11 z12 z13 z14 z15 z16 z17 z18 z19 z20 z21 z22 z23 z24 z25 z26 z27 z28 z29 z30 z31 : Value} {w w0 w1 : World} (h : w0.cell? ⟨g, 0, none⟩ = some z0 ∧ w0.cell? ⟨g, 1, none⟩ = some z1 ∧ w0.cell? ⟨g, 2, none⟩ = some z2 ∧ w0.cell? ⟨g, 3, none⟩ = some z3 ∧ w0.cell? ⟨g, 4, none⟩ = some z4 ∧ w0.cell? ⟨g, 5, none⟩ = some z5 ∧ w0.cell? ⟨g, 6, none⟩ = some z6 ∧ w0.cell? ⟨g, 7, none⟩ = some z7 ∧ w0.cell? ⟨g, 8, none⟩ = some z8 ∧ w0.cell? ⟨g, 9, none⟩ = some z9 ∧ w0.cell? ⟨g, 10, none⟩ = some z10 ∧ w0.cell? ⟨g, 11, none⟩ = some z11 ∧ w0.cell? ⟨g, 12, none⟩ = some z12 ∧ w0.cell? ⟨g, 13, none⟩ = some z13 ∧ w0.cell? ⟨g, 14, none⟩ = some z14 ∧ w0.cell? ⟨g, 15, none⟩ = some z15 ∧ w0.cell? ⟨g, 16, none⟩ = some z16 ∧ w0.cell? ⟨g, 17, none⟩ = some z17 ∧ w0.cell? ⟨g, 18, none⟩ = some z18 ∧ w0.cell? ⟨g, 19, none⟩ = some z19 ∧ w0.cell? ⟨g, 20, none⟩ = some z20 ∧ w0.cell? ⟨g, 21, none⟩ = some z21 ∧ w0.cell? ⟨g, 22, none⟩ = some z22 ∧ w0.cell? ⟨g, 23, none⟩ = some z23 ∧ w0.cell? ⟨g, 24, none⟩ = some z24 ∧ w0.cell? ⟨g, 25, none⟩ = some z25 ∧ w0.cell? ⟨g, 26, none⟩ = some z26 ∧ w0.cell? ⟨g, 27, none⟩ = some z27 ∧ w0.cell? ⟨g, 28, none⟩ = some z28 ∧ w0.cell? ⟨g, 29, none⟩ = some z29 ∧ w0.cell? ⟨g, 30, none⟩ = some z30 ∧ w0.cell? ⟨g, 31, none⟩ = some z31 ∧ Below w.heap.size w w0) (hb : Below w0.heap.size w0 w1) : w1.cell? ⟨g, 0, none⟩ = some z0 ∧ w1.cell? ⟨g, 1, none⟩ = some z1 ∧ w1.cell? ⟨g, 2, none⟩ = some z2 ∧ w1.cell? ⟨g, 3, none⟩ = some z3 ∧ w1.cell? ⟨g, 4, none⟩ = some z4 ∧ w1.cell? ⟨g, 5, none⟩ = some z5 ∧ w1.cell? ⟨g, 6, none⟩ = some z6 ∧ w1.cell? ⟨g, 7, none⟩ = some z7 ∧ w1.cell? ⟨g, 8, none⟩ = some z8 ∧ w1.cell? ⟨g, 9, none⟩ = some z9 ∧ w1.cell? ⟨g, 10, none⟩ = some z10 ∧ w1.cell? ⟨g, 11, none⟩ = some z11 ∧ w1.cell? ⟨g, 12, none⟩ = some z12 ∧ w1.cell? ⟨g, 13, none⟩ = some z13 ∧ w1.cell? ⟨g, 14, none⟩ = some z14 ∧ w1.cell? ⟨g, 15, none⟩ = some z15 ∧ w1.cell? ⟨g, 16, none⟩ = some z16 ∧ w1.cell? ⟨g, 17, none⟩ = some z17 ∧ w1.cell? ⟨g, 18, none⟩ = some z18 ∧ w1.cell? ⟨g, 19, none⟩ = some z19 ∧ w1.cell? ⟨g, 20, none⟩ = some z20 ∧ w1.cell? ⟨g, 21, none⟩ = some z21 ∧ w1.cell? ⟨g, 22, none⟩ = some z22 ∧ w1.cell? ⟨g, 23, none⟩ = some z23 ∧ w1.cell? ⟨g, 24, none⟩ = some z24 ∧ w1.cell? ⟨g, 25, none⟩ = some z25 ∧ w1.cell? ⟨g, 26, none⟩ = some z26 ∧ w1.cell? ⟨g, 27, none⟩ = some z27 ∧ w1.cell? ⟨g, 28, none⟩ = some z28 ∧ w1.cell? ⟨g, 29, none⟩ = some z29 ∧ w1.cell? ⟨g, 30, none⟩ = some z30 ∧ w1.cell? ⟨g, 31, none⟩ = some z31 ∧ Below w.heap.size w w1 := by
  obtain ⟨h0, h1, h2, h3, h4, h5, h6, h7, h8, h9, h10, h11, h12, h13, h14, h15, h16, h17, h18, h19, h20, h21, h22, h23, h24, h25, h26, h27, h28, h29, h30, h31, hB⟩ := h
  exact ⟨cK hb h0, cK hb h1, cK hb h2, cK hb h3, cK hb h4, cK hb h5, cK hb h6, cK hb h7, cK hb h8, cK hb h9, cK hb h10, cK hb h11, cK hb h12, cK hb h13, cK hb h14, cK hb h15, cK hb h16, cK hb h17, cK hb h18, cK hb h19, cK hb h20, cK hb h21, cK hb h22, cK hb h23, cK hb h24, cK hb h25, cK hb h26, cK hb h27, cK hb h28, cK hb h29, cK hb h30, cK hb h31, bel_trans hB hb⟩
theorem all32 {g : Nat} {z0 z1 z2 z3 z4 z5 z6 z7 z8 z9 z10 z11 z12 z13 z14 z15 z16 z17 z18 z19 z20 z21 z22 z23 z24 z25 z26 z27 z28 z29 z30 z31 : Value} {w w0 : World} (h : ∀ i, w0.cell? ⟨g, i, none⟩ = #[z0, z1, z2, z3, z4, z5, z6, z7, z8, z9, z10, z11, z12, z13, z14, z15, z16, z17, z18, z19, z20, z21, z22, z23, z24, z25, z26, z27, z28, z29, z30, z31][i]?) (hB : Below w.heap.size w w0) : w0.cell? ⟨g, 0, none⟩ = some z0 ∧ w0.cell? ⟨g, 1, none⟩ = some z1 ∧ w0.cell? ⟨g, 2, none⟩ = some z2 ∧ w0.cell? ⟨g, 3, none⟩ = some z3 ∧ w0.cell? ⟨g, 4, none⟩ = some z4 ∧ w0.cell? ⟨g, 5, none⟩ = some z5 ∧ w0.cell? ⟨g, 6, none⟩ = some z6 ∧ w0.cell? ⟨g, 7, none⟩ = some z7 ∧ w0.cell? ⟨g, 8, none⟩ = some z8 ∧ w0.cell? ⟨g, 9, none⟩ = some z9 ∧ w0.cell? ⟨g, 10, none⟩ = some z10 ∧ w0.cell? ⟨g, 11, none⟩ = some z11 ∧ w0.cell? ⟨g, 12, none⟩ = some z12 ∧ w0.cell? ⟨g, 13, none⟩ = some z13 ∧ w0.cell? ⟨g, 14, none⟩ = some z14 ∧ w0.cell? ⟨g, 15, none⟩ = some z15 ∧ w0.cell? ⟨g, 16, none⟩ = some z16 ∧ w0.cell? ⟨g, 17, none⟩ = some z17 ∧ w0.cell? ⟨g, 18, none⟩ = some z18 ∧ w0.cell? ⟨g, 19, none⟩ = some z19 ∧ w0.cell? ⟨g, 20, none⟩ = some z20 ∧ w0.cell? ⟨g, 21, none⟩ = some z21 ∧ w0.cell? ⟨g, 22, none⟩ = some z22 ∧ w0.cell? ⟨g, 23, none⟩ = some z23 ∧ w0.cell? ⟨g, 24, none⟩ = some z24 ∧ w0.cell? ⟨g, 25, none⟩ = some z25 ∧ w0.cell? ⟨g, 26, none⟩ = some z26 ∧ w0.cell? ⟨g, 27, none⟩ = some z27 ∧ w0.cell? ⟨g, 28, none⟩ = some z28 ∧ w0.cell? ⟨g, 29, none⟩ = some z29 ∧ w0.cell? ⟨g, 30, none⟩ = some z30 ∧ w0.cell? ⟨g, 31, none⟩ = some z31 ∧ Below w.heap.size w w0 :=
  ⟨h 0, h 1, h 2, h 3, h 4, h 5, h 6, h 7, h 8, h 9, h 10, h 11, h 12, h 13, h 14, h 15, h 16, h 17, h 18, h 19, h 20, h 21, h 22, h 23, h 24, h 25, h 26, h 27, h 28, h 29, h 30, h 31, hB⟩
theorem keepC {g : Nat} {a b c d : Value} {t : TypeId} {X : Array Value} {w w0 w1 : World} (h : w0.cell? ⟨g, 0, none⟩ = some a ∧ w0.cell? ⟨g, 1, none⟩ = some b ∧ w0.cell? ⟨g + 1, 0, none⟩ = some c ∧ w0.cell? ⟨g + 1, 1, none⟩ = some d ∧ Blk w0 (g + 1 + 1) t X ∧ Below w.heap.size w w0) (hb : Below w0.heap.size w0 w1) :
    w1.cell? ⟨g, 0, none⟩ = some a ∧ w1.cell? ⟨g, 1, none⟩ = some b ∧ w1.cell? ⟨g + 1, 0, none⟩ = some c ∧ w1.cell? ⟨g + 1, 1, none⟩ = some d ∧ Blk w1 (g + 1 + 1) t X ∧ Below w.heap.size w w1 := by
  obtain ⟨h1, h2, h3, h4, h5, h6⟩ := h
  have l1 : g < w0.heap.size := World.block_lt_of_cell? w0 _ h1
  have l2 : g + 1 < w0.heap.size := World.block_lt_of_cell? w0 _ h3
  exact ⟨((bcell hb).1 g 0 l1).trans h1, ((bcell hb).1 g 1 l1).trans h2, ((bcell hb).1 (g + 1) 0 l2).trans h3, ((bcell hb).1 (g + 1) 1 l2).trans h4, h5.below hb h5.lt, bel_trans h6 hb⟩
end Go.Proofs.YtjaipdenahlheaaGreatDoor
