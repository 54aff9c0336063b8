/-
  The contracts of the reference's number4 and text4. Conditions: texts are of moderate length.
-/
import Derived.Test.YtkpikfdfekggbaaGreatDoorRefM
import Derived.Test.YtkpikfdfekggbaaGreatDoorPureA
namespace Go.Proofs.YtkpikfdfekggbaaGreatDoor
open Go.RowKit Go.ChangeShapes Go.WideShapes

theorem drop4 {s : ByteArray} {p : Nat} (h : p + 4 ≤ s.size) : s.data.toList.drop p = s[p] :: s[p + 1] :: s[p + 2] :: s[p + 3] :: s.data.toList.drop (p + 4) := by
  have hl : s.data.toList.length = s.size := rfl
  rw [drop_cons (p := p) (by omega), drop_cons (p := p + 1) (by omega), drop_cons (p := p + 1 + 1) (by omega), drop_cons (p := p + 1 + 1 + 1) (by omega)]
  rfl
set_option maxHeartbeats 1000000 in
theorem rNum_no (s : ByteArray) (p : Nat) (w : World) (hp : p ≤ 1000000000) (hs : s.size ≤ 1000000000) (h : s.size < p + 4) : Calls Tryz.prog 130 #[.string s, .int .i64 p] w fun e w' => e = .returned (.tuple #[.int .i64 0, .bool false]) ∧ Below w.heap.size w w' := by
  have hi : ((s.size : Int) - (p : Int)) < 4 := by omega
  go_enter Tryz.func130, Tryz.ntmps130
  go_wp2
  go_ret2
  exact ⟨rfl, by (repeat (first | exact Below.refl _ _ | refine below_drewN ?_ _ | refine Below.drew ?_ | refine Below.alloc ?_ (by first | omega | (simp; done) | (simp; omega)) _ | refine Below.setCell ?_ (by first | omega | (simp; done) | (simp; omega)) _ | refine bel_alloc ?_ _ | refine bel_trans ?_ (by assumption) | refine Below.trans ?_ (Below.mono (by assumption) (by first | omega | (simp; done) | (simp; omega)))))⟩
set_option maxHeartbeats 1000000 in
theorem rNum_yes (s : ByteArray) (p : Nat) (w : World) (hp : p ≤ 1000000000) (hs : s.size ≤ 1000000000) (h : p + 4 ≤ s.size) : Calls Tryz.prog 130 #[.string s, .int .i64 p] w fun e w' => e = .returned (.tuple #[.int .i64 (n4 (s.data.toList.drop p)), .bool true]) ∧ Below w.heap.size w w' := by
  have hi : ¬ ((s.size : Int) - (p : Int)) < 4 := by omega
  have h0 : (p : Int) < s.size := by omega
  have h1 : (p : Int) + 1 < s.size := by omega
  have h2 : (p : Int) + 2 < s.size := by omega
  have h3 : (p : Int) + 3 < s.size := by omega
  have w1 : IntKind.i64.wrap ((p : Int) + 1) = (p : Int) + 1 := by rw [IntKind.wrap_i64]; omega
  have w2 : IntKind.i64.wrap ((p : Int) + 2) = (p : Int) + 2 := by rw [IntKind.wrap_i64]; omega
  have w3 : IntKind.i64.wrap ((p : Int) + 3) = (p : Int) + 3 := by rw [IntKind.wrap_i64]; omega
  go_enter Tryz.func130, Tryz.ntmps130
  go_wp2
  have p0 : (0 : Int) ≤ p := by omega
  have p1 : (0 : Int) ≤ (p : Int) + 1 := by omega
  have p2 : (0 : Int) ≤ (p : Int) + 2 := by omega
  have p3 : (0 : Int) ≤ (p : Int) + 3 := by omega
  have e1 : ((p : Int) + 1).toNat = p + 1 := by omega
  have e2 : ((p : Int) + 2).toNat = p + 2 := by omega
  have e3 : ((p : Int) + 3).toNat = p + 3 := by omega
  refine wp_region_quiet_lit (by kernel_rfl) (by kernel_rfl) ?_
  repeat quiet_step (fail)
  refine wpQuiet_nil ?_
  intro _ hw'
  obtain ⟨nq, hw''⟩ := hw'
  subst hw''
  go_wp2
  go_ret2
  refine ⟨?_, by (repeat (first | exact Below.refl _ _ | refine below_drewN ?_ _ | refine Below.drew ?_ | refine Below.alloc ?_ (by first | omega | (simp; done) | (simp; omega)) _ | refine Below.setCell ?_ (by first | omega | (simp; done) | (simp; omega)) _ | refine bel_alloc ?_ _ | refine bel_trans ?_ (by assumption) | refine Below.trans ?_ (Below.mono (by assumption) (by first | omega | (simp; done) | (simp; omega)))))⟩
  have b0 := s[p].toNat_lt
  have b1 := s[p + 1].toNat_lt
  have b2 := s[p + 2].toNat_lt
  have b3 := s[p + 3].toNat_lt
  rw [drop4 h, n4]
  generalize s[p].toNat = x0 at b0 ⊢
  generalize s[p + 1].toNat = x1 at b1 ⊢
  generalize s[p + 2].toNat = x2 at b2 ⊢
  generalize s[p + 3].toNat = x3 at b3 ⊢
  have a0 : IntKind.i64.wrap (x0 : Int) = x0 := by rw [IntKind.wrap_i64]; omega
  have a1 : IntKind.i64.wrap (x1 : Int) = x1 := by rw [IntKind.wrap_i64]; omega
  have a2 : IntKind.i64.wrap (x2 : Int) = x2 := by rw [IntKind.wrap_i64]; omega
  have a3 : IntKind.i64.wrap (x3 : Int) = x3 := by rw [IntKind.wrap_i64]; omega
  have c0 : IntKind.i64.wrap ((x0 : Int) * 16777216) = (x0 : Int) * 16777216 := by rw [IntKind.wrap_i64]; omega
  have c1 : IntKind.i64.wrap ((x1 : Int) * 65536) = (x1 : Int) * 65536 := by rw [IntKind.wrap_i64]; omega
  have c2 : IntKind.i64.wrap ((x2 : Int) * 256) = (x2 : Int) * 256 := by rw [IntKind.wrap_i64]; omega
  have d1 : IntKind.i64.wrap ((x0 : Int) * 16777216 + (x1 : Int) * 65536) = (x0 : Int) * 16777216 + (x1 : Int) * 65536 := by rw [IntKind.wrap_i64]; omega
  have d2 : IntKind.i64.wrap ((x0 : Int) * 16777216 + (x1 : Int) * 65536 + (x2 : Int) * 256) = (x0 : Int) * 16777216 + (x1 : Int) * 65536 + (x2 : Int) * 256 := by rw [IntKind.wrap_i64]; omega
  have d3 : IntKind.i64.wrap ((x0 : Int) * 16777216 + (x1 : Int) * 65536 + (x2 : Int) * 256 + (x3 : Int)) = (x0 : Int) * 16777216 + (x1 : Int) * 65536 + (x2 : Int) * 256 + (x3 : Int) := by rw [IntKind.wrap_i64]; omega
  simp only [a0, a1, a2, a3, c0, c1, c2, d1, d2, d3]
  congr 5
theorem ext_bs (s : ByteArray) (a b : Nat) : s.extract a b = bs ((s.data.toList.drop a).take (b - a)) := bs_eq (by rw [Lib.extract_data])
set_option maxHeartbeats 1000000 in
theorem rTxt_no (s : ByteArray) (p : Nat) (w : World) (hp : p ≤ 1000000000) (hs : s.size ≤ 1000000000) (h : s.size < p + 4 ∨ s.size < p + 4 + n4 (s.data.toList.drop p)) : Calls Tryz.prog 129 #[.string s, .int .i64 p] w fun e w' => e = .returned (.tuple #[.string ⟨#[]⟩, .int .i64 p, .bool false]) ∧ Below w.heap.size w w' := by
  by_cases h4 : s.size < p + 4
  · have HN := hide (fun W => rNum_no s p W hp hs h4)
    clear h
    go_enter Tryz.func129, Tryz.ntmps129
    go_wp2_with (go_at_call 130; refine (HN.out _).mono ?_; rintro e w1 ⟨rfl, hb1⟩)
    go_ret3
    exact ⟨rfl, by (repeat (first | exact Below.refl _ _ | refine below_drewN ?_ _ | refine Below.drew ?_ | refine Below.alloc ?_ (by first | omega | (simp; done) | (simp; omega)) _ | refine Below.setCell ?_ (by first | omega | (simp; done) | (simp; omega)) _ | refine bel_alloc ?_ _ | refine bel_trans ?_ (by assumption) | refine Below.trans ?_ (Below.mono (by assumption) (by first | omega | (simp; done) | (simp; omega)))))⟩
  · have HN := hide (fun W => rNum_yes s p W hp hs (by omega))
    have h5 : s.size < p + 4 + n4 (s.data.toList.drop p) := by omega
    have hn := n4_lt (s.data.toList.drop p)
    generalize n4 (s.data.toList.drop p) = n at HN h5 hn
    have hi : (s.size : Int) - (p : Int) - 4 < n := by omega
    clear h
    go_enter Tryz.func129, Tryz.ntmps129
    go_wp2_with (go_at_call 130; refine (HN.out _).mono ?_; rintro e w1 ⟨rfl, hb1⟩)
    go_ret3
    exact ⟨rfl, by (repeat (first | exact Below.refl _ _ | refine below_drewN ?_ _ | refine Below.drew ?_ | refine Below.alloc ?_ (by first | omega | (simp; done) | (simp; omega)) _ | refine Below.setCell ?_ (by first | omega | (simp; done) | (simp; omega)) _ | refine bel_alloc ?_ _ | refine bel_trans ?_ (by assumption) | refine Below.trans ?_ (Below.mono (by assumption) (by first | omega | (simp; done) | (simp; omega)))))⟩
set_option maxHeartbeats 1000000 in
theorem rTxt_yes (s : ByteArray) (p : Nat) (w : World) (hp : p ≤ 1000000000) (hs : s.size ≤ 1000000000) (h4 : p + 4 ≤ s.size) {n : Nat} (hn : n = n4 (s.data.toList.drop p)) (h : p + 4 + n ≤ s.size) : Calls Tryz.prog 129 #[.string s, .int .i64 p] w fun e w' => e = .returned (.tuple #[.string (bs ((s.data.toList.drop (p + 4)).take n)), .int .i64 (p + 4 + n : Nat), .bool true]) ∧ Below w.heap.size w w' := by
  have HN := hide (fun W => rNum_yes s p W hp hs h4)
  rw [← hn] at HN
  have hi : ¬ (s.size : Int) - (p : Int) - 4 < n := by omega
  have hb1' : (p : Int) + 4 + n ≤ s.size := by omega
  have he : s.extract (p + 4) (p + 4 + n) = bs ((s.data.toList.drop (p + 4)).take n) := by
    rw [ext_bs]
    congr 2
    omega
  have He := hide he
  have e1 : ((p : Int) + 4).toNat = p + 4 := by omega
  have e2 : ((p : Int) + 4 + n).toNat = p + 4 + n := by omega
  clear hn he h
  go_enter Tryz.func129, Tryz.ntmps129
  go_wp2_with (go_at_call 130; refine (HN.out _).mono ?_; rintro e w1 ⟨rfl, hb1⟩)
  go_ret3
  exact ⟨by rw [← He.out]; rfl, by (repeat (first | exact Below.refl _ _ | refine below_drewN ?_ _ | refine Below.drew ?_ | refine Below.alloc ?_ (by first | omega | (simp; done) | (simp; omega)) _ | refine Below.setCell ?_ (by first | omega | (simp; done) | (simp; omega)) _ | refine bel_alloc ?_ _ | refine bel_trans ?_ (by assumption) | refine Below.trans ?_ (Below.mono (by assumption) (by first | omega | (simp; done) | (simp; omega)))))⟩
/-- .. at a place that the walk spells. -/
theorem rNum_no' (s : ByteArray) (p : Nat) (P : Int) (hP : P = p) (w : World) (hp : p ≤ 1000000000) (hs : s.size ≤ 1000000000) (h : s.size < p + 4) : Calls Tryz.prog 130 #[.string s, .int .i64 P] w fun e w' => e = .returned (.tuple #[.int .i64 0, .bool false]) ∧ Below w.heap.size w w' := by
  subst hP
  exact rNum_no s p w hp hs h
theorem rNum_yes' (s : ByteArray) (p : Nat) (P : Int) (hP : P = p) (w : World) (hp : p ≤ 1000000000) (hs : s.size ≤ 1000000000) (h : p + 4 ≤ s.size) {n : Nat} (hn : n = n4 (s.data.toList.drop p)) : Calls Tryz.prog 130 #[.string s, .int .i64 P] w fun e w' => e = .returned (.tuple #[.int .i64 n, .bool true]) ∧ Below w.heap.size w w' := by
  subst hP hn
  exact rNum_yes s p w hp hs h
theorem rTxt_no' (s : ByteArray) (p : Nat) (P : Int) (hP : P = p) (w : World) (hp : p ≤ 1000000000) (hs : s.size ≤ 1000000000) (h : s.size < p + 4 ∨ s.size < p + 4 + n4 (s.data.toList.drop p)) : Calls Tryz.prog 129 #[.string s, .int .i64 P] w fun e w' => e = .returned (.tuple #[.string ⟨#[]⟩, .int .i64 P, .bool false]) ∧ Below w.heap.size w w' := by
  subst hP
  exact rTxt_no s p w hp hs h
theorem rTxt_yes' (s : ByteArray) (p : Nat) (P : Int) (hP : P = p) (w : World) (hp : p ≤ 1000000000) (hs : s.size ≤ 1000000000) (h4 : p + 4 ≤ s.size) {n : Nat} (hn : n = n4 (s.data.toList.drop p)) (h : p + 4 + n ≤ s.size) (q : Int) (hq : q = (p + 4 + n : Nat)) {t : ByteArray} (ht : t = bs ((s.data.toList.drop (p + 4)).take n)) : Calls Tryz.prog 129 #[.string s, .int .i64 P] w fun e w' => e = .returned (.tuple #[.string t, .int .i64 q, .bool true]) ∧ Below w.heap.size w w' := by
  subst hP hq ht
  exact rTxt_yes s p w hp hs h4 hn h
end Go.Proofs.YtkpikfdfekggbaaGreatDoor
