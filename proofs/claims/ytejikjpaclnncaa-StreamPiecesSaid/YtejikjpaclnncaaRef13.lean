/-
  The contracts of package shibbolethref13, the reference's stream. Conditions: texts of up to a million bytes.
-/
import Derived.Test.YtejikjpaclnncaaStreamU
namespace Go.Proofs.Ytejikjpaclnncaa
open Go.RowKit

/-- The reference's stream in block g. -/
def Rst (w : World) (g : Nat) (s : ByteArray) (e : Int) : Prop := Blk w g 46 #[.string s, .int .i64 e]
theorem rfeed_any {s t : ByteArray} {g : Nat} {w : World} (h : Rst w g s 0) (hs : s.size + t.size ≤ 1000000) : Calls Try.prog 28 #[.pointer (some ⟨g, 0, none⟩), .string t] w fun e w' => e = .returned (.tuple #[]) ∧ Rst w' g (s ++ t) 0 ∧ w.grownBy w' (some g) := by
  have h0 : w.cell? ⟨g, 0, none⟩ = some (.string s) := Blk.cell h 0
  have h1 : w.cell? ⟨g, 1, none⟩ = some (.int .i64 0) := Blk.cell h 1
  have f0 : w.frozen? ⟨g, 0, none⟩ = false := Blk.frozen h 0
  go_enter Try.func28, Try.ntmps28
  go_wp2
  go_end0
  exact ⟨rfl, Blk.set_ h 0 _, only_setCell (only_refl _ _) (.inl rfl) _⟩
theorem rfeed_broken {s t : ByteArray} {g : Nat} {x : Int} {w : World} (h : Rst w g s x) (hx : x ≠ 0) : Calls Try.prog 28 #[.pointer (some ⟨g, 0, none⟩), .string t] w fun e w' => e = .returned (.tuple #[]) ∧ w = w' := by
  have h1 : w.cell? ⟨g, 1, none⟩ = some (.int .i64 x) := Blk.cell h 1
  have hx1 : (x == 0) = false := by simp [hx]
  go_enter Try.func28, Try.ntmps28
  go_wp2
  go_end0
  exact ⟨rfl, rfl⟩
theorem rclose_any {s : ByteArray} {g : Nat} {x : Int} {w : World} (h : Rst w g s x) : Calls Try.prog 34 #[.pointer (some ⟨g, 0, none⟩)] w fun e w' => e = .returned (.tuple #[]) ∧ Rst w' g (if x = 0 then ⟨#[]⟩ else s) (if x = 0 then 1 else x) ∧ w.grownBy w' (some g) := by
  have h0 : w.cell? ⟨g, 0, none⟩ = some (.string s) := Blk.cell h 0
  have h1 : w.cell? ⟨g, 1, none⟩ = some (.int .i64 x) := Blk.cell h 1
  have f0 : w.frozen? ⟨g, 0, none⟩ = false := Blk.frozen h 0
  have f1 : w.frozen? ⟨g, 1, none⟩ = false := Blk.frozen h 1
  by_cases hx : x = 0
  · subst hx
    have hb := hide (Blk.set_ (Blk.set_ (show Blk w g 46 #[.string s, .int .i64 0] from h) 0 (.string ⟨#[]⟩)) 1 (.int .i64 1))
    have ho := hide (only_setCell (only_setCell (only_refl w (some g)) (.inl rfl) (.string ⟨#[]⟩)) (.inl rfl) (.int .i64 1) : w.grownBy ((w.setCell ⟨g, 0, none⟩ (.string ⟨#[]⟩)).setCell ⟨g, 1, none⟩ (.int .i64 1)) (some g))
    clear h
    go_enter Try.func34, Try.ntmps34
    go_wp2
    go_end0
    exact ⟨rfl, hb.out, ho.out⟩
  · have hx1 : (x == 0) = false := by simp [hx]
    rw [if_neg hx, if_neg hx]
    go_enter Try.func34, Try.ntmps34
    go_wp2
    go_end0
    exact ⟨rfl, h, only_refl _ _⟩
theorem tk_e {x n e : Int} {R l : List UInt8} (h : e ≠ 0) : tkR x n R l e = (([], false, e), (l, e)) := by rw [tkR, if_pos h]
theorem tk_x {x n : Int} {R l : List UInt8} (h : x ≠ 0) (h4 : x ≠ 4) : tkR x n R l 0 = (([], false, x), ([], x)) := by rw [tkR, if_neg (by simp), if_neg h, if_neg h4]
theorem rst_set {w : World} {g : Nat} {s : ByteArray} {x : Int} (h : Rst w g s x) (y : Int) : Rst ((w.setCell ⟨g, 0, none⟩ (.string ⟨#[]⟩)).setCell ⟨g, 1, none⟩ (.int .i64 y)) g ⟨#[]⟩ y :=
  Blk.set_ (Blk.set_ (show Blk w g 46 #[.string s, .int .i64 x] from h) 0 (.string ⟨#[]⟩)) 1 (.int .i64 y)
theorem rst_only {w : World} {g : Nat} (y : Int) : w.grownBy ((w.setCell ⟨g, 0, none⟩ (.string ⟨#[]⟩)).setCell ⟨g, 1, none⟩ (.int .i64 y)) (some g) := only_setCell (only_setCell (only_refl w (some g)) (.inl rfl) (.string ⟨#[]⟩)) (.inl rfl) (.int .i64 y)
theorem line_d {l R : List UInt8} {n x : Int} (h : scanF l = (R, n, x)) (e : Int) : lineD l e = tkR x n R l e := by rw [lineD, h]
theorem unit_d {l R : List UInt8} {n x : Int} (h : sunF l = (R, n, x)) (e : Int) : unitD l e = tkR x n R l e := by rw [unitD, h]
theorem rline_any {s : ByteArray} {g : Nat} {e0 : Int} {w : World} (h : Rst w g s e0) (hs : s.size ≤ 1000000) :
    Calls Try.prog 30 #[.pointer (some ⟨g, 0, none⟩)] w fun e w' => ∃ r t, e = .returned (.tuple #[.string r, .bool (lineD s.data.toList e0).1.2.1, .int .i64 (lineD s.data.toList e0).1.2.2]) ∧
      r.data.toList = (lineD s.data.toList e0).1.1 ∧ Rst w' g t (lineD s.data.toList e0).2.2 ∧ t.data.toList = (lineD s.data.toList e0).2.1 ∧ w.grownBy w' (some g) := by
  have h0 : w.cell? ⟨g, 0, none⟩ = some (.string s) := Blk.cell h 0
  have h1 : w.cell? ⟨g, 1, none⟩ = some (.int .i64 e0) := Blk.cell h 1
  by_cases he : e0 = 0
  rotate_left
  · have Ht := hide (show lineD s.data.toList e0 = (([], false, e0), (s.data.toList, e0)) from tk_e he)
    have e1 : (e0 != 0) = true := by simp [he]
    clear he
    go_enter Try.func30, Try.ntmps30
    go_wp2
    go_quiet (fail)
    go_wp2
    go_ret3
    exact ⟨⟨#[]⟩, s, by rw [Ht.out]; rfl, by rw [Ht.out], by rw [Ht.out]; exact h, by rw [Ht.out], only_of_below (by (repeat (first | exact Below.refl _ _ | refine below_drewN ?_ _ | refine Below.drew ?_ | refine Below.alloc ?_ (by first | omega | (simp; done) | (simp; omega)) _ | refine Below.setCell ?_ (by first | omega | (simp; done) | (simp; omega)) _ | refine bel_alloc ?_ _ | refine bel_trans ?_ (by assumption) | refine Below.trans ?_ (Below.mono (by assumption) (by first | omega | (simp; done) | (simp; omega)))))) _⟩
  subst he
  have hok := scanF_ok (l := s.data.toList)
  have H := rScan_any s w hs
  rcases en : scanF s.data.toList with ⟨R, n, x⟩
  rw [en] at H hok
  have HH := hide H
  clear H
  by_cases hx : x = 0
  · subst hx
    obtain ⟨hn0, hn1⟩ := hok rfl
    obtain ⟨k, rfl⟩ := Int.eq_ofNat_of_zero_le (show 0 ≤ n from hn0)
    have hks : (k : Int) ≤ s.size := hn1
    have ht : lineD s.data.toList 0 = ((R, true, 0), (s.data.toList.drop k, 0)) := line_d en 0
    have Ht := hide ht
    clear ht en hok hn0 hn1
    go_enter Try.func30, Try.ntmps30
    go_wp2_with (go_at_call 49; refine HH.out.mono ?_; rintro e w3 ⟨r, rfl, hr, hb⟩; have Hr := hide hr; have h3 : Rst w3 g s 0 := hb ▸ h; have h30 : w3.cell? ⟨g, 0, none⟩ = some (.string s) := Blk.cell h3 0; have h31 : w3.cell? ⟨g, 1, none⟩ = some (.int .i64 0) := Blk.cell h3 1; have f30 : w3.frozen? ⟨g, 0, none⟩ = false := Blk.frozen h3 0; have f31 : w3.frozen? ⟨g, 1, none⟩ = false := Blk.frozen h3 1; have ho3 : w.grownBy w3 (some g) := hb ▸ only_refl _ _; clear hr hb)
    go_ret3
    refine ⟨r, s.extract k s.size, by rw [Ht.out]; rfl, by rw [Ht.out]; exact Hr.out, by rw [Ht.out]; exact Blk.set_ (show Blk _ g 46 #[.string s, .int .i64 0] from h3) 0 _, ?_, only_trans ho3 (only_setCell (only_refl _ _) (.inl rfl) _)⟩
    rw [Ht.out, Lib.extract_data]
    have hsz : s.data.toList.length = s.size := rfl
    rw [List.take_of_length_le (by rw [List.length_drop, hsz]; exact Nat.le_refl _)]
  by_cases hx4 : x = 4
  · subst hx4
    have Ht := hide (show lineD s.data.toList 0 = (([], false, 0), (s.data.toList, 0)) from line_d en 0)
    clear en hok
    go_enter Try.func30, Try.ntmps30
    go_wp2_with (go_at_call 49; refine HH.out.mono ?_; rintro e w3 ⟨r, rfl, hr, hb⟩; have Hr := hide hr; have h3 : Rst w3 g s 0 := hb ▸ h; have h30 : w3.cell? ⟨g, 0, none⟩ = some (.string s) := Blk.cell h3 0; have h31 : w3.cell? ⟨g, 1, none⟩ = some (.int .i64 0) := Blk.cell h3 1; have f30 : w3.frozen? ⟨g, 0, none⟩ = false := Blk.frozen h3 0; have f31 : w3.frozen? ⟨g, 1, none⟩ = false := Blk.frozen h3 1; have ho3 : w.grownBy w3 (some g) := hb ▸ only_refl _ _; clear hr hb)
    go_ret3
    exact ⟨⟨#[]⟩, s, by rw [Ht.out]; rfl, by rw [Ht.out], by rw [Ht.out]; exact h3, by rw [Ht.out], ho3⟩
  · have Ht := hide (show lineD s.data.toList 0 = (([], false, x), ([], x)) from (line_d en 0).trans (tk_x hx hx4))
    have e1 : (x != 0) = true := by simp [hx]
    have e2 : (x == 4) = false := by simp [hx4]
    clear en hok hx hx4
    go_enter Try.func30, Try.ntmps30
    go_wp2_with (go_at_call 49; refine HH.out.mono ?_; rintro e w3 ⟨r, rfl, hr, hb⟩; have Hr := hide hr; have h3 : Rst w3 g s 0 := hb ▸ h; have h30 : w3.cell? ⟨g, 0, none⟩ = some (.string s) := Blk.cell h3 0; have h31 : w3.cell? ⟨g, 1, none⟩ = some (.int .i64 0) := Blk.cell h3 1; have f30 : w3.frozen? ⟨g, 0, none⟩ = false := Blk.frozen h3 0; have f31 : w3.frozen? ⟨g, 1, none⟩ = false := Blk.frozen h3 1; have ho3 : w.grownBy w3 (some g) := hb ▸ only_refl _ _; have Hset := hide (rst_set h3 x); have Hoset := hide (rst_only (w := w3) (g := g) x); clear hr hb)
    go_ret3
    exact ⟨⟨#[]⟩, ⟨#[]⟩, by rw [Ht.out]; rfl, by rw [Ht.out], by rw [Ht.out]; exact Hset.out, by rw [Ht.out], only_trans ho3 Hoset.out⟩
theorem runit_any {s : ByteArray} {g : Nat} {e0 : Int} {w : World} (h : Rst w g s e0) (hs : s.size ≤ 1000000) :
    Calls Try.prog 32 #[.pointer (some ⟨g, 0, none⟩)] w fun e w' => ∃ r t, e = .returned (.tuple #[.string r, .bool (unitD s.data.toList e0).1.2.1, .int .i64 (unitD s.data.toList e0).1.2.2]) ∧
      r.data.toList = (unitD s.data.toList e0).1.1 ∧ Rst w' g t (unitD s.data.toList e0).2.2 ∧ t.data.toList = (unitD s.data.toList e0).2.1 ∧ w.grownBy w' (some g) := by
  have h0 : w.cell? ⟨g, 0, none⟩ = some (.string s) := Blk.cell h 0
  have h1 : w.cell? ⟨g, 1, none⟩ = some (.int .i64 e0) := Blk.cell h 1
  by_cases he : e0 = 0
  rotate_left
  · have Ht := hide (show unitD s.data.toList e0 = (([], false, e0), (s.data.toList, e0)) from tk_e he)
    have e1 : (e0 != 0) = true := by simp [he]
    clear he
    go_enter Try.func32, Try.ntmps32
    go_wp2
    go_quiet (fail)
    go_wp2
    go_ret3
    exact ⟨⟨#[]⟩, s, by rw [Ht.out]; rfl, by rw [Ht.out], by rw [Ht.out]; exact h, by rw [Ht.out], only_of_below (by (repeat (first | exact Below.refl _ _ | refine below_drewN ?_ _ | refine Below.drew ?_ | refine Below.alloc ?_ (by first | omega | (simp; done) | (simp; omega)) _ | refine Below.setCell ?_ (by first | omega | (simp; done) | (simp; omega)) _ | refine bel_alloc ?_ _ | refine bel_trans ?_ (by assumption) | refine Below.trans ?_ (Below.mono (by assumption) (by first | omega | (simp; done) | (simp; omega)))))) _⟩
  subst he
  have hok := needF_ok (l := s.data.toList)
  have H := rneed_any s w (by omega)
  have hsz0 : (s.data.toList.length : Int) = s.size := rfl
  rcases en : needF s.data.toList with ⟨n, x⟩
  rw [en] at H hok
  have HH := hide H
  clear H
  by_cases hx : x = 0
  · subst hx
    obtain ⟨_, hn0, _⟩ := hok rfl
    have hn5 : 5 ≤ n := hn0
    clear hok hn0
    obtain ⟨k, rfl⟩ := Int.eq_ofNat_of_zero_le (show 0 ≤ n by omega)
    by_cases hks : s.size < k
    · have Ht := hide (show unitD s.data.toList 0 = (([], false, 0), (s.data.toList, 0)) from unit_d (sunF_2 en (by omega)) 0)
      clear en hsz0
      go_enter Try.func32, Try.ntmps32
      go_wp2_with (go_at_call 18; refine HH.out.mono ?_; rintro e w3 ⟨rfl, hb⟩; have h3 : Rst w3 g s 0 := Blk.below h hb (Blk.lt h); have h30 : w3.cell? ⟨g, 0, none⟩ = some (.string s) := Blk.cell h3 0; have h31 : w3.cell? ⟨g, 1, none⟩ = some (.int .i64 0) := Blk.cell h3 1; have f30 : w3.frozen? ⟨g, 0, none⟩ = false := Blk.frozen h3 0; have f31 : w3.frozen? ⟨g, 1, none⟩ = false := Blk.frozen h3 1; have ho3 := only_of_below hb (some g); clear hb)
      go_ret3
      exact ⟨⟨#[]⟩, s, by rw [Ht.out]; rfl, by rw [Ht.out], by rw [Ht.out]; exact h3, by rw [Ht.out], ho3⟩
    · have Ht := hide (show unitD s.data.toList 0 = ((s.data.toList.take k, true, 0), (s.data.toList.drop k, 0)) from unit_d (sunF_3 en (by omega)) 0)
      clear en hsz0
      go_enter Try.func32, Try.ntmps32
      go_wp2_with (go_at_call 18; refine HH.out.mono ?_; rintro e w3 ⟨rfl, hb⟩; have h3 : Rst w3 g s 0 := Blk.below h hb (Blk.lt h); have h30 : w3.cell? ⟨g, 0, none⟩ = some (.string s) := Blk.cell h3 0; have h31 : w3.cell? ⟨g, 1, none⟩ = some (.int .i64 0) := Blk.cell h3 1; have f30 : w3.frozen? ⟨g, 0, none⟩ = false := Blk.frozen h3 0; have f31 : w3.frozen? ⟨g, 1, none⟩ = false := Blk.frozen h3 1; have ho3 := only_of_below hb (some g); clear hb)
      go_ret3
      refine ⟨s.extract 0 k, s.extract k s.size, by rw [Ht.out]; rfl, by rw [Ht.out, Lib.extract_data]; simp, by rw [Ht.out]; exact Blk.set_ (show Blk _ g 46 #[.string s, .int .i64 0] from h3) 0 _, ?_, only_trans ho3 (only_setCell (only_refl _ _) (.inl rfl) _)⟩
      rw [Ht.out, Lib.extract_data]
      have hsz : s.data.toList.length = s.size := rfl
      rw [List.take_of_length_le (by rw [List.length_drop, hsz]; exact Nat.le_refl _)]
  by_cases hx4 : x = 4
  · subst hx4
    have Ht := hide (show unitD s.data.toList 0 = (([], false, 0), (s.data.toList, 0)) from unit_d (sunF_1 en (by decide)) 0)
    clear en hok
    go_enter Try.func32, Try.ntmps32
    go_wp2_with (go_at_call 18; refine HH.out.mono ?_; rintro e w3 ⟨rfl, hb⟩; have h3 : Rst w3 g s 0 := Blk.below h hb (Blk.lt h); have h30 : w3.cell? ⟨g, 0, none⟩ = some (.string s) := Blk.cell h3 0; have h31 : w3.cell? ⟨g, 1, none⟩ = some (.int .i64 0) := Blk.cell h3 1; have f30 : w3.frozen? ⟨g, 0, none⟩ = false := Blk.frozen h3 0; have f31 : w3.frozen? ⟨g, 1, none⟩ = false := Blk.frozen h3 1; have ho3 := only_of_below hb (some g); clear hb)
    go_ret3
    exact ⟨⟨#[]⟩, s, by rw [Ht.out]; rfl, by rw [Ht.out], by rw [Ht.out]; exact h3, by rw [Ht.out], ho3⟩
  · have Ht := hide (show unitD s.data.toList 0 = (([], false, x), ([], x)) from (unit_d (sunF_1 en hx) 0).trans (tk_x hx hx4))
    have e1 : (x != 0) = true := by simp [hx]
    have e2 : (x == 4) = false := by simp [hx4]
    have e3 : (x == 0) = false := by simp [hx]
    clear en hok hx hx4
    go_enter Try.func32, Try.ntmps32
    go_wp2_with (go_at_call 18; refine HH.out.mono ?_; rintro e w3 ⟨rfl, hb⟩; have h3 : Rst w3 g s 0 := Blk.below h hb (Blk.lt h); have h30 : w3.cell? ⟨g, 0, none⟩ = some (.string s) := Blk.cell h3 0; have h31 : w3.cell? ⟨g, 1, none⟩ = some (.int .i64 0) := Blk.cell h3 1; have f30 : w3.frozen? ⟨g, 0, none⟩ = false := Blk.frozen h3 0; have f31 : w3.frozen? ⟨g, 1, none⟩ = false := Blk.frozen h3 1; have ho3 := only_of_below hb (some g); have Hset := hide (rst_set h3 x); have Hoset := hide (rst_only (w := w3) (g := g) x); clear hb)
    go_ret3
    exact ⟨⟨#[]⟩, ⟨#[]⟩, by rw [Ht.out]; rfl, by rw [Ht.out], by rw [Ht.out]; exact Hset.out, by rw [Ht.out], only_trans ho3 Hoset.out⟩
end Go.Proofs.Ytejikjpaclnncaa
