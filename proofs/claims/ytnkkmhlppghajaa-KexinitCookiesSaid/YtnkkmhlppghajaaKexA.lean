/-
  The law KexinitCookies, a part: the lemmas. Conditions: none.
-/
import Derived.Test.YtnkkmhlppghajaaInitO
import Derived.Test.YtnkkmhlppghajaaDigits
import Derived.Test.YtnkkmhlppghajaaEqArr
import Derived.Deep.RegionHeld3
import Derived.Lib.QuietBelow
import Derived.Deep.DeepCutAuto
namespace Go.Proofs.Ytnkkmhlppghajaa
open Go.ChangeShapes Go.WideShapes Go.ChangeAt Go.RowKit Go.Sort
open Go.ChangeMaps (open_string shut_string)

theorem dataI {s t : ByteArray} (h : s.data.toList = t.data.toList) : s = t := by
  obtain ⟨s⟩ := s
  obtain ⟨t⟩ := t
  congr 1
  exact Array.toList_inj.1 h
theorem fewI_len {x : Ini} (h : fewI x = true) : ∀ s ∈ x.ss, s.length ≤ 8796093022207 := by
  intro s hs
  unfold fewI fewLs fewL at h
  simp only [Bool.and_eq_true, List.all_eq_true, decide_eq_true_eq] at h
  have := (h.1.1 s hs).1
  omega
theorem cookie12 (w : World) : Calls Try.prog 4 #[.int .i64 1, .int .i64 2] w fun e w' => e = .returned (.string ⟨#[99, 0, 0, 0, 0, 0, 0, 1, 0, 0, 0, 0, 0, 0, 2, 107]⟩) ∧ Below w.heap.size w w' := by
  refine (cookie_any 1 2 w (by omega) (by omega)).mono ?_
  rintro e w' ⟨r, rfl, hr, hb⟩
  obtain rfl : r = ⟨#[99, 0, 0, 0, 0, 0, 0, 1, 0, 0, 0, 0, 0, 0, 2, 107]⟩ := by
    obtain ⟨r⟩ := r
    congr 1
    exact Array.toList_inj.1 (hr.trans (by decide +kernel))
  exact ⟨rfl, hb⟩
theorem awake16 (w : World) : Calls Try.prog 9 #[] w fun e w' => e = .returned (.bool true) ∧ Below w.heap.size w w' := by
  go_enter Try.func9, Try.ntmps9
  go_wp2_with fail
  refine (cookie12 _).mono ?_
  rintro e w1 ⟨rfl, hb⟩
  go_wp2
  go_ret
  exact ⟨ret_bool (by decide +kernel), hb⟩
theorem cK {w0 w1 : World} {p : Addr} {v : Value} (hb : Below w0.heap.size w0 w1) (h : w0.cell? p = some v) : w1.cell? p = some v := (hb.cell (World.block_lt_of_cell? w0 _ h)).trans h
theorem keep32 {g : Nat} {z0 z1 z2 z3 z4 z5 z6 z7 z8 z9 z10 z11 z12 z13 z14 z15 z16 z17 z18 z19 z20 z21 z22 z23 z24 z25 z26 z27 z28 z29 z30 z31 : Value} {w w0 w1 : World} (h : w0.cell? ⟨g, 0, none⟩ = some z0 ∧ w0.cell? ⟨g, 1, none⟩ = some z1 ∧ w0.cell? ⟨g, 2, none⟩ = some z2 ∧ w0.cell? ⟨g, 3, none⟩ = some z3 ∧ w0.cell? ⟨g, 4, none⟩ = some z4 ∧ w0.cell? ⟨g, 5, none⟩ = some z5 ∧ w0.cell? ⟨g, 6, none⟩ = some z6 ∧ w0.cell? ⟨g, 7, none⟩ = some z7 ∧ w0.cell? ⟨g, 8, none⟩ = some z8 ∧ w0.cell? ⟨g, 9, none⟩ = some z9 ∧ w0.cell? ⟨g, 10, none⟩ = some z10 ∧ w0.cell? ⟨g, 11, none⟩ = some z11 ∧ w0.cell? ⟨g, 12, none⟩ = some z12 ∧ w0.cell? ⟨g, 13, none⟩ = some z13 ∧ w0.cell? ⟨g, 14, none⟩ = some z14 ∧ w0.cell? ⟨g, 15, none⟩ = some z15 ∧ w0.cell? ⟨g, 16, none⟩ = some z16 ∧ w0.cell? ⟨g, 17, none⟩ = some z17 ∧ w0.cell? ⟨g, 18, none⟩ = some z18 ∧ w0.cell? ⟨g, 19, none⟩ = some z19 ∧ w0.cell? ⟨g, 20, none⟩ = some z20 ∧ w0.cell? ⟨g, 21, none⟩ = some z21 ∧ w0.cell? ⟨g, 22, none⟩ = some z22 ∧ w0.cell? ⟨g, 23, none⟩ = some z23 ∧ w0.cell? ⟨g, 24, none⟩ = some z24 ∧ w0.cell? ⟨g, 25, none⟩ = some z25 ∧ w0.cell? ⟨g, 26, none⟩ = some z26 ∧ w0.cell? ⟨g, 27, none⟩ = some z27 ∧ w0.cell? ⟨g, 28, none⟩ = some z28 ∧ w0.cell? ⟨g, 29, none⟩ = some z29 ∧ w0.cell? ⟨g, 30, none⟩ = some z30 ∧ w0.cell? ⟨g, 31, none⟩ = some z31 ∧ Below w.heap.size w w0) (hb : Below w0.heap.size w0 w1) : w1.cell? ⟨g, 0, none⟩ = some z0 ∧ w1.cell? ⟨g, 1, none⟩ = some z1 ∧ w1.cell? ⟨g, 2, none⟩ = some z2 ∧ w1.cell? ⟨g, 3, none⟩ = some z3 ∧ w1.cell? ⟨g, 4, none⟩ = some z4 ∧ w1.cell? ⟨g, 5, none⟩ = some z5 ∧ w1.cell? ⟨g, 6, none⟩ = some z6 ∧ w1.cell? ⟨g, 7, none⟩ = some z7 ∧ w1.cell? ⟨g, 8, none⟩ = some z8 ∧ w1.cell? ⟨g, 9, none⟩ = some z9 ∧ w1.cell? ⟨g, 10, none⟩ = some z10 ∧ w1.cell? ⟨g, 11, none⟩ = some z11 ∧ w1.cell? ⟨g, 12, none⟩ = some z12 ∧ w1.cell? ⟨g, 13, none⟩ = some z13 ∧ w1.cell? ⟨g, 14, none⟩ = some z14 ∧ w1.cell? ⟨g, 15, none⟩ = some z15 ∧ w1.cell? ⟨g, 16, none⟩ = some z16 ∧ w1.cell? ⟨g, 17, none⟩ = some z17 ∧ w1.cell? ⟨g, 18, none⟩ = some z18 ∧ w1.cell? ⟨g, 19, none⟩ = some z19 ∧ w1.cell? ⟨g, 20, none⟩ = some z20 ∧ w1.cell? ⟨g, 21, none⟩ = some z21 ∧ w1.cell? ⟨g, 22, none⟩ = some z22 ∧ w1.cell? ⟨g, 23, none⟩ = some z23 ∧ w1.cell? ⟨g, 24, none⟩ = some z24 ∧ w1.cell? ⟨g, 25, none⟩ = some z25 ∧ w1.cell? ⟨g, 26, none⟩ = some z26 ∧ w1.cell? ⟨g, 27, none⟩ = some z27 ∧ w1.cell? ⟨g, 28, none⟩ = some z28 ∧ w1.cell? ⟨g, 29, none⟩ = some z29 ∧ w1.cell? ⟨g, 30, none⟩ = some z30 ∧ w1.cell? ⟨g, 31, none⟩ = some z31 ∧ Below w.heap.size w w1 := by
  obtain ⟨h0, h1, h2, h3, h4, h5, h6, h7, h8, h9, h10, h11, h12, h13, h14, h15, h16, h17, h18, h19, h20, h21, h22, h23, h24, h25, h26, h27, h28, h29, h30, h31, hB⟩ := h
  exact ⟨cK hb h0, cK hb h1, cK hb h2, cK hb h3, cK hb h4, cK hb h5, cK hb h6, cK hb h7, cK hb h8, cK hb h9, cK hb h10, cK hb h11, cK hb h12, cK hb h13, cK hb h14, cK hb h15, cK hb h16, cK hb h17, cK hb h18, cK hb h19, cK hb h20, cK hb h21, cK hb h22, cK hb h23, cK hb h24, cK hb h25, cK hb h26, cK hb h27, cK hb h28, cK hb h29, cK hb h30, cK hb h31, bel_trans hB hb⟩
theorem all32 {g : Nat} {z0 z1 z2 z3 z4 z5 z6 z7 z8 z9 z10 z11 z12 z13 z14 z15 z16 z17 z18 z19 z20 z21 z22 z23 z24 z25 z26 z27 z28 z29 z30 z31 : Value} {w w0 : World} (h : ∀ i, w0.cell? ⟨g, i, none⟩ = #[z0, z1, z2, z3, z4, z5, z6, z7, z8, z9, z10, z11, z12, z13, z14, z15, z16, z17, z18, z19, z20, z21, z22, z23, z24, z25, z26, z27, z28, z29, z30, z31][i]?) (hB : Below w.heap.size w w0) : w0.cell? ⟨g, 0, none⟩ = some z0 ∧ w0.cell? ⟨g, 1, none⟩ = some z1 ∧ w0.cell? ⟨g, 2, none⟩ = some z2 ∧ w0.cell? ⟨g, 3, none⟩ = some z3 ∧ w0.cell? ⟨g, 4, none⟩ = some z4 ∧ w0.cell? ⟨g, 5, none⟩ = some z5 ∧ w0.cell? ⟨g, 6, none⟩ = some z6 ∧ w0.cell? ⟨g, 7, none⟩ = some z7 ∧ w0.cell? ⟨g, 8, none⟩ = some z8 ∧ w0.cell? ⟨g, 9, none⟩ = some z9 ∧ w0.cell? ⟨g, 10, none⟩ = some z10 ∧ w0.cell? ⟨g, 11, none⟩ = some z11 ∧ w0.cell? ⟨g, 12, none⟩ = some z12 ∧ w0.cell? ⟨g, 13, none⟩ = some z13 ∧ w0.cell? ⟨g, 14, none⟩ = some z14 ∧ w0.cell? ⟨g, 15, none⟩ = some z15 ∧ w0.cell? ⟨g, 16, none⟩ = some z16 ∧ w0.cell? ⟨g, 17, none⟩ = some z17 ∧ w0.cell? ⟨g, 18, none⟩ = some z18 ∧ w0.cell? ⟨g, 19, none⟩ = some z19 ∧ w0.cell? ⟨g, 20, none⟩ = some z20 ∧ w0.cell? ⟨g, 21, none⟩ = some z21 ∧ w0.cell? ⟨g, 22, none⟩ = some z22 ∧ w0.cell? ⟨g, 23, none⟩ = some z23 ∧ w0.cell? ⟨g, 24, none⟩ = some z24 ∧ w0.cell? ⟨g, 25, none⟩ = some z25 ∧ w0.cell? ⟨g, 26, none⟩ = some z26 ∧ w0.cell? ⟨g, 27, none⟩ = some z27 ∧ w0.cell? ⟨g, 28, none⟩ = some z28 ∧ w0.cell? ⟨g, 29, none⟩ = some z29 ∧ w0.cell? ⟨g, 30, none⟩ = some z30 ∧ w0.cell? ⟨g, 31, none⟩ = some z31 ∧ Below w.heap.size w w0 :=
  ⟨h 0, h 1, h 2, h 3, h 4, h 5, h 6, h 7, h 8, h 9, h 10, h 11, h 12, h 13, h 14, h 15, h 16, h 17, h 18, h 19, h 20, h 21, h 22, h 23, h 24, h 25, h 26, h 27, h 28, h 29, h 30, h 31, hB⟩
theorem keepC {g : Nat} {a b c d : Value} {t : TypeId} {X : Array Value} {w w0 w1 : World} (h : w0.cell? ⟨g, 0, none⟩ = some a ∧ w0.cell? ⟨g, 1, none⟩ = some b ∧ w0.cell? ⟨g + 1, 0, none⟩ = some c ∧ w0.cell? ⟨g + 1, 1, none⟩ = some d ∧ Blk w0 (g + 1 + 1) t X ∧ Below w.heap.size w w0) (hb : Below w0.heap.size w0 w1) :
    w1.cell? ⟨g, 0, none⟩ = some a ∧ w1.cell? ⟨g, 1, none⟩ = some b ∧ w1.cell? ⟨g + 1, 0, none⟩ = some c ∧ w1.cell? ⟨g + 1, 1, none⟩ = some d ∧ Blk w1 (g + 1 + 1) t X ∧ Below w.heap.size w w1 := by
  obtain ⟨h1, h2, h3, h4, h5, h6⟩ := h
  have l1 : g < w0.heap.size := World.block_lt_of_cell? w0 _ h1
  have l2 : g + 1 < w0.heap.size := World.block_lt_of_cell? w0 _ h3
  exact ⟨((bcell hb).1 g 0 l1).trans h1, ((bcell hb).1 g 1 l1).trans h2, ((bcell hb).1 (g + 1) 0 l2).trans h3, ((bcell hb).1 (g + 1) 1 l2).trans h4, h5.below hb h5.lt, bel_trans h6 hb⟩
end Go.Proofs.Ytnkkmhlppghajaa
