/-
  The contracts of prefs.Lists, prefs.Same and shibbolethlaw15.Same. Conditions: the arguments read as lists, not too long.
-/
import Derived.Test.YtnkkmhlppghajaaPrefs
import Derived.Deep.RegionWith
namespace Go.Proofs.Ytnkkmhlppghajaa
open Go.RowKit

/-- What reads as strings stays, where a cell that holds a slice is written. -/
theorem Strs.set {lo : Nat} {w : World} {v : Value} {s : List ByteArray} (h : Strs lo w v s) {p : Addr} {A : Option Addr} {n c : Nat} (hp : w.cell? p = some (.slice A n c)) (u : Value) : Strs lo (w.setCell p u) v s := by
  obtain ⟨B, d, rfl, hl, hr⟩ := h
  refine ⟨B, d, rfl, hl, fun hn => ?_⟩
  obtain ⟨ad, e, h1, h2, h3⟩ := hr hn
  refine ⟨ad, e, h1, by simpa [World.setCell] using h2, fun j x hx => ?_⟩
  have h4 := h3 j x hx
  rw [World.cell?_setCell_other w p _ u ?_]
  · exact h4
  · intro e2
    rw [← e2, hp] at h4
    rw [List.getElem?_map] at hx
    cases hs : s[j]? with
    | none => rw [hs] at hx; cases hx
    | some y => rw [hs] at hx; simp at hx; rw [← hx] at h4; cases h4
theorem AllS.set {lo : Nat} {w : World} {vs : List Value} {ss : List (List ByteArray)} (h : AllS lo w vs ss) {p : Addr} {A : Option Addr} {n c : Nat} (hp : w.cell? p = some (.slice A n c)) (u : Value) : AllS lo (w.setCell p u) vs ss :=
  ⟨h.1, fun i v s h1 h2 => ⟨(h.2 i v s h1 h2).1.set hp u, (h.2 i v s h1 h2).2⟩⟩
/-- One slice more of its own making. -/
theorem AllS.put {lo : Nat} {w : World} {vs : List Value} {ss : List (List ByteArray)} (h : AllS lo w vs ss) {k : Nat} {v : Value} (hk : k < ss.length) (hv : Strs lo w v ss[k]) : AllS lo w (vs.set k v) ss := by
  refine ⟨by rw [List.length_set]; exact h.1, fun i u s h1 h2 => ?_⟩
  by_cases hi : i = k
  · subst hi
    rw [List.getElem?_set_self (by rw [h.1]; exact hk)] at h1
    rw [List.getElem?_eq_getElem hk] at h2
    cases h1
    cases h2
    exact ⟨hv, ((h.at_ hk).choose_spec).2.2⟩
  · rw [List.getElem?_set_ne (Ne.symm hi)] at h1
    exact h.2 i u s h1 h2
/-- Eight slices that were made, or came in, in a block of the call's own. -/
def Row8 (w : World) (g : Nat) (ss : List (List ByteArray)) : Prop := ∃ vs : List Value, Blk w g 23 vs.toArray ∧ AllS 0 w vs ss
theorem Row8.below {w w' : World} {g : Nat} {ss : List (List ByteArray)} (h : Row8 w g ss) (hb : Below w.heap.size w w') : Row8 w' g ss :=
  let ⟨vs, h1, h2⟩ := h; ⟨vs, h1.below hb h1.lt, h2.below hb⟩
theorem Row8.lt {w : World} {g : Nat} {ss : List (List ByteArray)} (h : Row8 w g ss) : g < w.heap.size := let ⟨_, h1, _⟩ := h; h1.lt
theorem Row8.drewN {w : World} {g : Nat} {ss : List (List ByteArray)} (h : Row8 w g ss) (n : Nat) : Row8 (w.drewN n) g ss := h
theorem Row8.at_ {w : World} {g : Nat} {ss : List (List ByteArray)} (h : Row8 w g ss) {k : Nat} (hk : k < ss.length) : ∃ A c, w.cell? ⟨g, k, none⟩ = some (.slice A ss[k].length c) ∧ Strs 0 w (.slice A ss[k].length c) ss[k] ∧ ss[k].length ≤ 9223372036854775807 := by
  obtain ⟨vs, h1, h2⟩ := h
  obtain ⟨v, hv, ⟨A, c, rfl, hr⟩, hm⟩ := h2.at_ hk
  exact ⟨A, c, by rw [h1.cell k]; simpa using hv, ⟨A, c, rfl, hr⟩, hm⟩
set_option maxHeartbeats 1000000 in
theorem plists_any {lo : Nat} {v0 v1 v2 v3 v4 v5 v6 v7 : Value} {ss : List (List ByteArray)} {w : World} (h : AllS lo w [v0, v1, v2, v3, v4, v5, v6, v7] ss) (hb : ∀ s ∈ ss, s.length ≤ 8796093022207) :
    Calls Try.prog 18 #[.agg #[v0, v1, v2, v3, v4, v5, v6, v7]] w fun e w' => ∃ g, e = .returned (.slice (some ⟨g, 0, none⟩) 8 8) ∧ Row8 w' g ss ∧ w.heap.size ≤ g ∧ Below w.heap.size w w' := by
  have hl : ss.length = 8 := h.1.symm
  obtain ⟨⟨A0, n0, c0, rfl⟩, ⟨A1, n1, c1, rfl⟩, ⟨A2, n2, c2, rfl⟩, ⟨A3, n3, c3, rfl⟩, ⟨A4, n4, c4, rfl⟩, ⟨A5, n5, c5, rfl⟩, ⟨A6, n6, c6, rfl⟩, ⟨A7, n7, c7, rfl⟩⟩ := h.sl8
  have Hb := hide hb
  clear hb
  have h0 : AllS 0 w _ ss := ⟨h.1, fun i v s h1 h2 => ⟨(h.2 i v s h1 h2).1.mono (Nat.zero_le _), (h.2 i v s h1 h2).2⟩⟩
  clear h
  have hk0 := Blk.new (w.alloc (.cells #[.slice A0 n0 c0, .slice A1 n1 c1, .slice A2 n2 c2, .slice A3 n3 c3, .slice A4 n4 c4, .slice A5 n5 c5, .slice A6 n6 c6, .slice A7 n7 c7] 25)) 23 #[.slice A0 n0 c0, .slice A1 n1 c1, .slice A2 n2 c2, .slice A3 n3 c3, .slice A4 n4 c4, .slice A5 n5 c5, .slice A6 n6 c6, .slice A7 n7 c7]
  have hr0 : Row8 _ _ ss := ⟨_, hk0, (h0.alloc (.cells #[.slice A0 n0 c0, .slice A1 n1 c1, .slice A2 n2 c2, .slice A3 n3 c3, .slice A4 n4 c4, .slice A5 n5 c5, .slice A6 n6 c6, .slice A7 n7 c7] 25)).alloc (.cells #[.slice A0 n0 c0, .slice A1 n1 c1, .slice A2 n2 c2, .slice A3 n3 c3, .slice A4 n4 c4, .slice A5 n5 c5, .slice A6 n6 c6, .slice A7 n7 c7] 23)⟩
  have hbel : Below w.heap.size w ((w.alloc (.cells #[.slice A0 n0 c0, .slice A1 n1 c1, .slice A2 n2 c2, .slice A3 n3 c3, .slice A4 n4 c4, .slice A5 n5 c5, .slice A6 n6 c6, .slice A7 n7 c7] 25)).alloc (.cells #[.slice A0 n0 c0, .slice A1 n1 c1, .slice A2 n2 c2, .slice A3 n3 c3, .slice A4 n4 c4, .slice A5 n5 c5, .slice A6 n6 c6, .slice A7 n7 c7] 23)) := by (repeat (first | exact Below.refl _ _ | refine below_drewN ?_ _ | refine Below.drew ?_ | refine Below.alloc ?_ (by first | omega | (simp; done) | (simp; omega)) _ | refine Below.setCell ?_ (by first | omega | (simp; done) | (simp; omega)) _ | refine bel_alloc ?_ _ | refine bel_trans ?_ (by assumption) | refine Below.trans ?_ (Below.mono (by assumption) (by first | omega | (simp; done) | (simp; omega)))))
  rw [World.size_alloc] at hr0
  have Hr0 := hide hr0
  have Hbel := hide hbel
  clear hk0 hr0 hbel h0
  go_enter Try.func18, Try.ntmps18
  go_wp2
  go_loopw [24, 4] (fun i _ wr => ∃ k : Nat, k ≤ 8 ∧ i = .int .i64 k ∧ Row8 wr (w.heap.size + 1) ss ∧ Below w.heap.size w wr) (fun i _ _ => 8 - (intOf i).toNat)
  case atStart => exact ⟨0, by omega, rfl, Hr0.out, Hbel.out⟩
  case round =>
    obtain ⟨k, hk8, rfl, hrow, hbr⟩ := hrel
    by_cases hlt : k < 8
    · have hkc : k < ss.length := by omega
      obtain ⟨vs, hB, hA⟩ := hrow
      obtain ⟨A, c, hc, hst, hm⟩ := Row8.at_ ⟨vs, hB, hA⟩ hkc
      have hlen := Hb.out (ss[k]'hkc) (List.getElem_mem hkc)
      have hki : (k : Int) < 8 := by omega
      have hgl := hB.lt
      have hfz := hB.frozen k
      go_wp2_with (go_at_call 19; refine (clone_str hst hlen).mono ?_; rintro e w2 ⟨v', rfl, ⟨A2, c2, rfl, hr2⟩, hb2⟩; have hB2 := hB.below hb2 hgl; have hfz2 := hB2.frozen k; have hc2 := (hb2.cell (p := ⟨w.heap.size + 1, k, none⟩) hgl).trans hc; have hA2 := hA.below hb2; have hbr2 := hbr.trans (hb2.mono hbr.size); have hz2 := hbr2.size)
      go_roundw
      case rel =>
        refine ⟨k + 1, by omega, by go_num, ⟨vs.set k (.slice A2 (ss[k]'hkc).length c2), ?_, ?_⟩, by (repeat (first | exact Below.refl _ _ | refine below_drewN ?_ _ | refine Below.drew ?_ | refine Below.alloc ?_ (by first | omega | (simp; done) | (simp; omega)) _ | refine Below.setCell ?_ (by first | omega | (simp; done) | (simp; omega)) _ | refine bel_alloc ?_ _ | refine bel_trans ?_ (by assumption) | refine Below.trans ?_ (Below.mono (by assumption) (by first | omega | (simp; done) | (simp; omega)))))⟩
        · have := hB2.set_ k (.slice A2 (ss[k]'hkc).length c2)
          simpa using this
        · refine AllS.put (hA2.set hc2 _) hkc (Strs.set ?_ hc2 _)
          exact Strs.mono ⟨A2, c2, rfl, hr2⟩ (Nat.zero_le _)
      case measure => simp [intOf]; omega
    · have hki : ¬ (k : Int) < 8 := by omega
      go_wp2
      go_ret
      exact ⟨_, rfl, hrow, Nat.le_succ _, hbr⟩
/-- The lists up to k are the same. -/
theorem take_same {ss ts : List (List ByteArray)} {k : Nat} (h1 : k < ss.length) (h2 : k < ts.length) (h : ss.take k = ts.take k) (e : ss[k] = ts[k]) : ss.take (k + 1) = ts.take (k + 1) := by
  rw [List.take_succ_eq_append_getElem h1, List.take_succ_eq_append_getElem h2, h, e]
set_option maxHeartbeats 1000000 in
theorem psame_any {lo lo' : Nat} {v0 v1 v2 v3 v4 v5 v6 v7 u0 u1 u2 u3 u4 u5 u6 u7 : Value} {ss ts : List (List ByteArray)} {w : World} (h : AllS lo w [v0, v1, v2, v3, v4, v5, v6, v7] ss) (h' : AllS lo' w [u0, u1, u2, u3, u4, u5, u6, u7] ts) (hb : ∀ s ∈ ss, s.length ≤ 8796093022207) (hb' : ∀ s ∈ ts, s.length ≤ 8796093022207) :
    Calls Try.prog 13 #[.agg #[v0, v1, v2, v3, v4, v5, v6, v7], .agg #[u0, u1, u2, u3, u4, u5, u6, u7]] w fun e w' => e = .returned (.bool (decide (ss = ts))) ∧ Below w.heap.size w w' := by
  have hl : ss.length = 8 := h.1.symm
  have hl' : ts.length = 8 := h'.1.symm
  have Hb := hide hb
  have Hb' := hide hb'
  clear hb hb'
  have h1 := hide ((h.alloc (.cells #[v0, v1, v2, v3, v4, v5, v6, v7] 25)).alloc (.cells #[u0, u1, u2, u3, u4, u5, u6, u7] 25))
  have h2 := hide ((h'.alloc (.cells #[v0, v1, v2, v3, v4, v5, v6, v7] 25)).alloc (.cells #[u0, u1, u2, u3, u4, u5, u6, u7] 25))
  clear h h'
  go_enter Try.func13, Try.ntmps13
  go_wp2_with fail
  refine (plists_any h2.out Hb'.out).mono ?_
  rintro e w1 ⟨g', rfl, hr', hg', hb1⟩
  have h3 := h1.out.below hb1
  have hw1 : Below w.heap.size w w1 := ((((Below.refl _ _).alloc (Nat.le_refl _) _).alloc (by simp) _).trans (hb1.mono (by simp; omega)))
  have hc0 := fun i => (hb1.cell (p := ⟨w.heap.size, i, none⟩) (by simp; omega))
  have e0 := hc0 0
  have e1 := hc0 1
  have e2 := hc0 2
  have e3 := hc0 3
  have e4 := hc0 4
  have e5 := hc0 5
  have e6 := hc0 6
  have e7 := hc0 7
  clear hc0
  simp [go_sem] at e0 e1 e2 e3 e4 e5 e6 e7
  clear h1 h2 hb1 hg'
  go_wp2_with fail
  refine (plists_any h3 Hb.out).mono ?_
  rintro e w2 ⟨g, rfl, hr, hg, hb2⟩
  have hr2' := hr'.below hb2
  have hw2 := hw1.trans (hb2.mono hw1.size)
  clear h3 hr' hw1 hb2 hg e0 e1 e2 e3 e4 e5 e6 e7
  go_wp2
  go_loopw [13, 6, 7] (fun i _ _ wr => ∃ k : Nat, k ≤ 8 ∧ i = .int .i64 k ∧ ss.take k = ts.take k ∧ Row8 wr g ss ∧ Row8 wr g' ts ∧ Below w.heap.size w wr) (fun i _ _ _ => 8 - (intOf i).toNat)
  case atStart => exact ⟨0, by omega, rfl, rfl, hr, hr2', hw2⟩
  case round =>
    obtain ⟨k, hk8, rfl, heq, hrow, hrow', hbr⟩ := hrel
    have Heq := hide heq
    clear heq
    by_cases hlt : k < 8
    · have hkc : k < ss.length := by omega
      have hkc' : k < ts.length := by omega
      obtain ⟨A, c, hc, hst, hm⟩ := hrow.at_ hkc
      obtain ⟨A', c', hc', hst', hm'⟩ := hrow'.at_ hkc'
      have hki : (k : Int) < 8 := by omega
      by_cases he : ss[k]'hkc = ts[k]'hkc'
      · have hcon := hide (equal_q hst hst' hm hm')
        rw [decide_eq_true he] at hcon
        have Hs := hide (take_same hkc hkc' Heq.out he)
        clear hst hst' hm hm' he
        go_wp2_with (go_at_call 14; refine hcon.out.mono ?_; rintro e w3 ⟨rfl, n, rfl⟩)
        go_roundw
        case rel => exact ⟨k + 1, by omega, by go_num, Hs.out, hrow, hrow', below_drewN hbr _⟩
        case measure => simp [intOf]; omega
      · have hcon := hide (equal_q hst hst' hm hm')
        rw [decide_eq_false he] at hcon
        have hne : ss ≠ ts := by
          rintro rfl
          exact he rfl
        clear hst hst' hm hm' he
        go_wp2_with (go_at_call 14; refine hcon.out.mono ?_; rintro e w3 ⟨rfl, n, rfl⟩)
        go_ret
        exact ⟨ret_bool (by simp [hne]), below_drewN hbr _⟩
    · have he : ss = ts := by
        have := Heq.out
        rw [List.take_of_length_le (by omega), List.take_of_length_le (by omega)] at this
        exact this
      have He := hide he
      clear he
      have hki : ¬ (k : Int) < 8 := by omega
      go_wp2
      go_ret
      exact ⟨ret_bool (by simp [He.out]), hbr⟩
theorem rlists_row {lo : Nat} {v0 v1 v2 v3 v4 v5 v6 v7 : Value} {ss : List (List ByteArray)} {w0 w : World} (h : AllS lo w0 [v0, v1, v2, v3, v4, v5, v6, v7] ss) (hb : Below w0.heap.size w0 w) :
    Calls Try.prog 17 #[.agg #[v0, v1, v2, v3, v4, v5, v6, v7]] w fun e w' => ∃ g, e = .returned (.slice (some ⟨g, 0, none⟩) 8 8) ∧ Row8 w' g ss ∧ Below w.heap.size w w' := by
  refine (rlists_any w h.sl8).mono ?_
  rintro e w' ⟨rfl, hk, hb'⟩
  have h2 := (h.below hb).below hb'
  exact ⟨_, rfl, ⟨_, hk, h2.1, fun i v s h3 h4 => ⟨(h2.2 i v s h3 h4).1.mono (Nat.zero_le _), (h2.2 i v s h3 h4).2⟩⟩, hb'⟩
set_option maxHeartbeats 4000000 in
theorem lsame15_any {lo lo' : Nat} {v0 v1 v2 v3 v4 v5 v6 v7 u0 u1 u2 u3 u4 u5 u6 u7 : Value} {ss ts : List (List ByteArray)} {w : World} (h : AllS lo w [v0, v1, v2, v3, v4, v5, v6, v7] ss) (h' : AllS lo' w [u0, u1, u2, u3, u4, u5, u6, u7] ts) :
    Calls Try.prog 15 #[.agg #[v0, v1, v2, v3, v4, v5, v6, v7], .agg #[u0, u1, u2, u3, u4, u5, u6, u7]] w fun e w' => e = .returned (.bool (decide (ss = ts))) ∧ Below w.heap.size w w' := by
  have hl : ss.length = 8 := h.1.symm
  have hl' : ts.length = 8 := h'.1.symm
  go_enter Try.func15, Try.ntmps15
  go_wp2
  go_region_with (first
    | (go_at_call 17; (with_reducible refine (rlists_row h (by (repeat (first | exact Below.refl _ _ | refine below_drewN ?_ _ | refine Below.drew ?_ | refine Below.alloc ?_ (by first | omega | (simp; done) | (simp; omega)) _ | refine Below.setCell ?_ (by first | omega | (simp; done) | (simp; omega)) _ | refine bel_alloc ?_ _ | refine bel_trans ?_ (by assumption) | refine Below.trans ?_ (Below.mono (by assumption) (by first | omega | (simp; done) | (simp; omega))))))).mono ?_); rintro e wp ⟨gp, rfl, hrp, hbp⟩; obtain ⟨hcp, hfp⟩ := bcell hbp; have hap : Below w.heap.size w wp := (by (repeat (first | exact Below.refl _ _ | refine below_drewN ?_ _ | refine Below.drew ?_ | refine Below.alloc ?_ (by first | omega | (simp; done) | (simp; omega)) _ | refine Below.setCell ?_ (by first | omega | (simp; done) | (simp; omega)) _ | refine bel_alloc ?_ _ | refine bel_trans ?_ (by assumption) | refine Below.trans ?_ (Below.mono (by assumption) (by first | omega | (simp; done) | (simp; omega)))))))
    | (go_at_call 17; (with_reducible refine (rlists_row h' (by (repeat (first | exact Below.refl _ _ | refine below_drewN ?_ _ | refine Below.drew ?_ | refine Below.alloc ?_ (by first | omega | (simp; done) | (simp; omega)) _ | refine Below.setCell ?_ (by first | omega | (simp; done) | (simp; omega)) _ | refine bel_alloc ?_ _ | refine bel_trans ?_ (by assumption) | refine Below.trans ?_ (Below.mono (by assumption) (by first | omega | (simp; done) | (simp; omega))))))).mono ?_); rintro e wq ⟨gq, rfl, hrq, hbq⟩; obtain ⟨hcq, hfq⟩ := bcell hbq; have haq : Below w.heap.size w wq := (by (repeat (first | exact Below.refl _ _ | refine below_drewN ?_ _ | refine Below.drew ?_ | refine Below.alloc ?_ (by first | omega | (simp; done) | (simp; omega)) _ | refine Below.setCell ?_ (by first | omega | (simp; done) | (simp; omega)) _ | refine bel_alloc ?_ _ | refine bel_trans ?_ (by assumption) | refine Below.trans ?_ (Below.mono (by assumption) (by first | omega | (simp; done) | (simp; omega))))))))
  all_goals (clear hcp hfp hcq hfq)
  all_goals (first | (have hr := hrp.below hbq; have hr' := hrq; have hW := haq) | (have hr := hrp; have hr' := hrq.below hbp; have hW := hap))
  all_goals (clear hrp hrq hbp hbq hap haq h h')
  all_goals go_wp2
  all_goals (go_loopw [7] (fun i wr => ∃ k : Nat, k ≤ 8 ∧ i = .int .i64 k ∧ ss.take k = ts.take k ∧ Row8 wr gp ss ∧ Row8 wr gq ts ∧ Below w.heap.size w wr) (fun i _ => 8 - (intOf i).toNat))
  iterate 3 (case atStart => exact ⟨0, by omega, rfl, rfl, hr, hr', hW⟩)
  all_goals
    obtain ⟨k, hk8, rfl, heq, hrow, hrow', hbr⟩ := hrel
    have Heq := hide heq
    clear heq
    by_cases hlt : k < 8
    · have hkc : k < ss.length := by omega
      have hkc' : k < ts.length := by omega
      obtain ⟨A, c, hc, hst, hm⟩ := hrow.at_ hkc
      obtain ⟨A', c', hc', hst', hm'⟩ := hrow'.at_ hkc'
      have hki : (k : Int) < 8 := by omega
      by_cases he : ss[k]'hkc = ts[k]'hkc'
      · have hcon := hide (fun n => Calls.quiet_of (same_q (w := wr.drewN n) hst hst' hm hm'))
        rw [decide_eq_true he] at hcon
        have Hs := hide (take_same hkc hkc' Heq.out he)
        clear hst hst' hm hm' he
        go_wp2
        go_quiet ((go_at_call 16; exact hcon.out _))
        go_wp2
        go_roundw
        case rel => exact ⟨k + 1, by omega, by go_num, Hs.out, hrow, hrow', below_drewN hbr _⟩
        case measure => simp [intOf]; omega
      · have hcon := hide (fun n => Calls.quiet_of (same_q (w := wr.drewN n) hst hst' hm hm'))
        rw [decide_eq_false he] at hcon
        have hne : ss ≠ ts := by
          rintro rfl
          exact he rfl
        clear hst hst' hm hm' he
        go_wp2
        go_quiet ((go_at_call 16; exact hcon.out _))
        go_wp2
        go_ret
        exact ⟨ret_bool (by simp [hne]), below_drewN hbr _⟩
    · have he : ss = ts := by
        have := Heq.out
        rw [List.take_of_length_le (by omega), List.take_of_length_le (by omega)] at this
        exact this
      have He := hide he
      clear he
      have hki : ¬ (k : Int) < 8 := by omega
      go_wp2
      go_ret
      exact ⟨ret_bool (by simp [He.out]), hbr⟩
end Go.Proofs.Ytnkkmhlppghajaa
