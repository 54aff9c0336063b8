/-
  The contracts of prefs.Lists, prefs.Same, and of the statements' own Lists, Few, Same of eight lists. Conditions: the arguments read as lists.
-/
import Derived.Test.YtnkkmhlppghajaaClone
namespace Go.Proofs.Ytnkkmhlppghajaa
open Go.RowKit

/-- Slices that read as lists of strings. -/
def AllS (lo : Nat) (w : World) (vs : List Value) (ss : List (List ByteArray)) : Prop :=
  vs.length = ss.length ∧ ∀ (i : Nat) (v : Value) (s : List ByteArray), vs[i]? = some v → ss[i]? = some s → Strs lo w v s ∧ s.length ≤ 9223372036854775807
theorem AllS.below {lo : Nat} {w w' : World} {vs : List Value} {ss : List (List ByteArray)} (h : AllS lo w vs ss) (hb : Below w.heap.size w w') : AllS lo w' vs ss :=
  ⟨h.1, fun i v s h1 h2 => ⟨(h.2 i v s h1 h2).1.below hb, (h.2 i v s h1 h2).2⟩⟩
theorem AllS.alloc {lo : Nat} {w : World} {vs : List Value} {ss : List (List ByteArray)} (h : AllS lo w vs ss) (o : Obj) : AllS lo (w.alloc o) vs ss := h.below ((Below.refl _ _).alloc (Nat.le_refl _) o)
theorem AllS.at_ {lo : Nat} {w : World} {vs : List Value} {ss : List (List ByteArray)} (h : AllS lo w vs ss) {i : Nat} (hi : i < ss.length) : ∃ v, vs[i]? = some v ∧ Strs lo w v ss[i] ∧ ss[i].length ≤ 9223372036854775807 := by
  have hl : i < vs.length := by rw [h.1]; exact hi
  exact ⟨vs[i], List.getElem?_eq_getElem hl, h.2 i _ _ (List.getElem?_eq_getElem hl) (List.getElem?_eq_getElem hi)⟩
/-- Up to 20 strings of up to 100 bytes? -/
def fewL (s : List ByteArray) : Bool := decide (s.length ≤ 20) && s.all fun x => decide (x.size ≤ 100)
def fewLs (ss : List (List ByteArray)) : Bool := ss.all fewL
def pv (v0 v1 v2 v3 v4 v5 v6 v7 : Value) : Value := .agg #[v0, v1, v2, v3, v4, v5, v6, v7]

/-- A slice. -/
def IsSl (v : Value) : Prop := ∃ A n c, v = .slice A n c
theorem Strs.isSl {lo : Nat} {w : World} {v : Value} {s : List ByteArray} (h : Strs lo w v s) : IsSl v := let ⟨A, c, e, _⟩ := h; ⟨A, _, c, e⟩
theorem AllS.isSl {lo : Nat} {w : World} {vs : List Value} {ss : List (List ByteArray)} (h : AllS lo w vs ss) {i : Nat} {v : Value} (hv : vs[i]? = some v) : IsSl v := by
  have hl : i < ss.length := by rw [← h.1]; exact (List.getElem?_eq_some_iff.1 hv).1
  exact (h.2 i v _ hv (List.getElem?_eq_getElem hl)).1.isSl
theorem AllS.sl8 {lo : Nat} {w : World} {v0 v1 v2 v3 v4 v5 v6 v7 : Value} {ss : List (List ByteArray)} (h : AllS lo w [v0, v1, v2, v3, v4, v5, v6, v7] ss) : IsSl v0 ∧ IsSl v1 ∧ IsSl v2 ∧ IsSl v3 ∧ IsSl v4 ∧ IsSl v5 ∧ IsSl v6 ∧ IsSl v7 :=
  ⟨h.isSl (i := 0) rfl, h.isSl (i := 1) rfl, h.isSl (i := 2) rfl, h.isSl (i := 3) rfl, h.isSl (i := 4) rfl, h.isSl (i := 5) rfl, h.isSl (i := 6) rfl, h.isSl (i := 7) rfl⟩
theorem rlists_any {v0 v1 v2 v3 v4 v5 v6 v7 : Value} (w : World) (hs : IsSl v0 ∧ IsSl v1 ∧ IsSl v2 ∧ IsSl v3 ∧ IsSl v4 ∧ IsSl v5 ∧ IsSl v6 ∧ IsSl v7) :
    Calls Try.prog 17 #[.agg #[v0, v1, v2, v3, v4, v5, v6, v7]] w fun e w' => e = .returned (.slice (some ⟨w.heap.size + 1, 0, none⟩) 8 8) ∧ Blk w' (w.heap.size + 1) 23 #[v0, v1, v2, v3, v4, v5, v6, v7] ∧ Below w.heap.size w w' := by
  obtain ⟨⟨A0, n0, c0, rfl⟩, ⟨A1, n1, c1, rfl⟩, ⟨A2, n2, c2, rfl⟩, ⟨A3, n3, c3, rfl⟩, ⟨A4, n4, c4, rfl⟩, ⟨A5, n5, c5, rfl⟩, ⟨A6, n6, c6, rfl⟩, ⟨A7, n7, c7, rfl⟩⟩ := hs
  go_enter Try.func17, Try.ntmps17
  go_wp2
  go_ret
  refine ⟨rfl, ?_, by (repeat (first | exact Below.refl _ _ | refine below_drewN ?_ _ | refine Below.drew ?_ | refine Below.alloc ?_ (by first | omega | (simp; done) | (simp; omega)) _ | refine Below.setCell ?_ (by first | omega | (simp; done) | (simp; omega)) _ | refine bel_alloc ?_ _ | refine bel_trans ?_ (by assumption) | refine Below.trans ?_ (Below.mono (by assumption) (by first | omega | (simp; done) | (simp; omega)))))⟩
  have := Blk.new (w.alloc (.cells #[.slice A0 n0 c0, .slice A1 n1 c1, .slice A2 n2 c2, .slice A3 n3 c3, .slice A4 n4 c4, .slice A5 n5 c5, .slice A6 n6 c6, .slice A7 n7 c7] 25)) 23 #[.slice A0 n0 c0, .slice A1 n1 c1, .slice A2 n2 c2, .slice A3 n3 c3, .slice A4 n4 c4, .slice A5 n5 c5, .slice A6 n6 c6, .slice A7 n7 c7]
  rwa [World.size_alloc] at this
theorem fewL_of {s : List ByteArray} (h1 : s.length ≤ 20) (h2 : ∀ (j : Nat) (x : ByteArray), s[j]? = some x → x.size ≤ 100) : fewL s = true := by
  unfold fewL
  simp only [Bool.and_eq_true, decide_eq_true_eq, List.all_eq_true]
  refine ⟨h1, fun x hx => ?_⟩
  obtain ⟨j, hj, rfl⟩ := List.getElem_of_mem hx
  exact h2 j _ (List.getElem?_eq_getElem hj)
theorem fewL_long {s : List ByteArray} (h1 : ¬ s.length ≤ 20) : fewL s = false := by
  unfold fewL
  simp [h1]
theorem fewL_big {s : List ByteArray} {j : Nat} (hj : j < s.length) (h1 : ¬ s[j].size ≤ 100) : fewL s = false := by
  unfold fewL
  rw [Bool.and_eq_false_iff]
  right
  rw [List.all_eq_false]
  exact ⟨_, List.getElem_mem hj, by simpa using h1⟩
theorem fewLs_no {ss : List (List ByteArray)} {i : Nat} (hi : i < ss.length) (h : fewL ss[i] = false) : fewLs ss = false := by
  unfold fewLs
  rw [List.all_eq_false]
  exact ⟨_, List.getElem_mem hi, by simp [h]⟩
set_option maxHeartbeats 1000000 in
theorem few15_any {lo : Nat} {v0 v1 v2 v3 v4 v5 v6 v7 : Value} {ss : List (List ByteArray)} {w : World} (h : AllS lo w [v0, v1, v2, v3, v4, v5, v6, v7] ss) :
    Calls Try.prog 12 #[.agg #[v0, v1, v2, v3, v4, v5, v6, v7]] w fun e w' => e = .returned (.bool (fewLs ss)) ∧ Below w.heap.size w w' := by
  have hl : ss.length = 8 := h.1.symm
  have hsl := h.sl8
  go_enter Try.func12, Try.ntmps12
  go_wp2_with (go_at_call 17; refine (rlists_any _ hsl).mono ?_; rintro e w1 ⟨rfl, hk, hb⟩)
  have hb1 : Below w.heap.size w w1 := bel_trans ((Below.refl _ _).alloc (Nat.le_refl _) _) hb
  have h1 := h.below hb1
  have hs1 := hk.lt
  have hz := hb1.size
  clear hb h
  rw [World.size_alloc] at hk hs1
  generalize w.heap.size + 1 + 1 = g at hk hs1 ⊢
  go_loop [4] (fun i => ∃ k : Nat, k ≤ 8 ∧ i = .int .i64 k ∧ ∀ (j : Nat) (s : List ByteArray), j < k → ss[j]? = some s → fewL s = true) (fun i => 8 - (intOf i).toNat)
  case atStart => exact ⟨0, by omega, rfl, by simp⟩
  case round =>
    obtain ⟨k, hk8, rfl, hall⟩ := hrel
    have Hall := hide hall
    clear hall
    by_cases hlt : k < 8
    · obtain ⟨v, hv, ⟨A, c, rfl, hr⟩, hm⟩ := h1.at_ (i := k) (by omega)
      have hkc : k < ss.length := by omega
      have hcell : w1.cell? ⟨g, k, none⟩ = some (.slice A (ss[k]'hkc).length c) := by rw [hk.cell k]; simpa using hv
      clear hv
      by_cases h20 : (ss[k]'hkc).length ≤ 20
      · have h20' : ((ss[k]'hkc).length : Int) ≤ 20 := by omega
        have hki : (k : Int) < 8 := by omega
        go_wp2
        go_loop [5] (fun i => ∃ j : Nat, j ≤ (ss[k]'hkc).length ∧ i = .int .i64 j ∧ ∀ (p : Nat) (x : ByteArray), p < j → (ss[k]'hkc)[p]? = some x → x.size ≤ 100) (fun i => (ss[k]'hkc).length - (intOf i).toNat)
        case atStart => exact ⟨0, by omega, rfl, by simp⟩
        case round =>
          obtain ⟨j, hj, rfl, hin⟩ := hrel
          have Hin := hide hin
          clear hin
          by_cases hjl : j < (ss[k]'hkc).length
          · obtain ⟨ad, rfl, _, hc0⟩ := hr.str hjl
            have hji : (j : Int) < (ss[k]'hkc).length := by omega
            by_cases hx : ((ss[k]'hkc)[j]).size ≤ 100
            · have hx' : (((ss[k]'hkc)[j]).size : Int) ≤ 100 := by omega
              have Hx := hide hx
              clear hx
              go_wp2
              go_round
              case rel =>
                refine ⟨j + 1, hjl, by go_num, fun p x hp hpx => ?_⟩
                rcases Nat.lt_or_ge p j with h2 | h2
                · exact Hin.out p x h2 hpx
                · obtain rfl : p = j := by omega
                  rw [List.getElem?_eq_getElem hjl] at hpx
                  cases hpx
                  exact Hx.out
              case measure => simp [intOf]; omega
            · have Hf := hide (fewLs_no hkc (fewL_big hjl hx))
              have hx' : ¬ (((ss[k]'hkc)[j]).size : Int) ≤ 100 := by omega
              clear hx
              go_wp2
              go_ret
              exact ⟨ret_bool Hf.out.symm, hb1⟩
          · have Hf := hide (fewL_of h20 fun p x hpx => Hin.out p x (by have := (List.getElem?_eq_some_iff.1 hpx).1; omega) hpx)
            have hji : ¬ (j : Int) < (ss[k]'hkc).length := by omega
            go_wp2
            go_round
            case rel =>
              refine ⟨k + 1, by omega, by go_num, fun p s hp hps => ?_⟩
              rcases Nat.lt_or_ge p k with h2 | h2
              · exact Hall.out p s h2 hps
              · obtain rfl : p = k := by omega
                rw [List.getElem?_eq_getElem hkc] at hps
                cases hps
                exact Hf.out
            case measure => simp [intOf]; omega
      · have Hf := hide (fewLs_no hkc (fewL_long h20))
        have h20' : ¬ ((ss[k]'hkc).length : Int) ≤ 20 := by omega
        have hki : (k : Int) < 8 := by omega
        go_wp2
        go_ret
        exact ⟨ret_bool Hf.out.symm, hb1⟩
    · have Hf := hide (show fewLs ss = true from List.all_eq_true.2 fun s hs => by
        obtain ⟨j, hj, rfl⟩ := List.getElem_of_mem hs
        exact Hall.out j _ (by omega) (List.getElem?_eq_getElem hj))
      have hki : ¬ (k : Int) < 8 := by omega
      go_wp2
      go_ret
      exact ⟨ret_bool Hf.out.symm, hb1⟩
end Go.Proofs.Ytnkkmhlppghajaa
