/-
  The contract of the reference's right. Conditions: terms of moderate length.
-/
import Derived.Test.YtkpikfdfekggbaaGreatDoorRefM
import Derived.Test.YtkpikfdfekggbaaGreatDoorPureA
namespace Go.Proofs.YtkpikfdfekggbaaGreatDoor
open Go.RowKit Go.ChangeShapes Go.WideShapes Go.Sort

theorem add_nil_ (ad : Addr) : ad.add 0 = ad := by simp [Addr.add]
theorem add_succ_ (ad : Addr) (m : Nat) : ad.add (m + 1) = ⟨ad.block, ad.off + (m + 1), none⟩ := by simp [Addr.add]
theorem len_two {l : List Tm} (h : l.length = 2) : ∃ t u, l = [t, u] := by
  match l, h with
  | [t, u], _ => exact ⟨t, u, rfl⟩
/-- May a term that was taken apart be? -/
def RightB (k a b : Nat) (s : ByteArray) (l : List Tm) : Prop := hd k a b s l.length ∧ kids k l
def Righted (k a b : Nat) (s : ByteArray) (l : List Tm) (w : World) (e : Ending) (w' : World) : Prop := ∃ rb : Bool, e = .returned (.bool rb) ∧ (rb = true ↔ RightB k a b s l) ∧ Below w.heap.size w w'
theorem righted_mk {k a b : Nat} {s : ByteArray} {l : List Tm} {w w' : World} (rb : Bool) (h : rb = true ↔ RightB k a b s l) (hb : Below w.heap.size w w') : Righted k a b s l w (.returned (.bool rb)) w' := ⟨rb, rfl, h, hb⟩
theorem txs_at {w : World} {A : Option Addr} {n c : Nat} {l : List Tm} (hS : Txs w (.slice A n c) (l.map enc)) {i : Nat} (hi : i < l.length) : ∃ ad, A = some ad ∧ n = l.length ∧ w.cell? (ad.add i) = some (.string (bs (enc l[i]))) ∧ ad.block < w.heap.size := by
  obtain ⟨A', c', e, hc⟩ := hS.open_
  obtain ⟨ad, h1, h2, h3⟩ := hc i (by simpa using hi)
  injection e with e1 e2 e3
  subst e1 e2
  exact ⟨ad, h1, by simp, by simpa using h3, h2⟩
set_option maxHeartbeats 2000000 in
set_option maxRecDepth 100000 in
theorem rRight_any {k a b n c : Nat} {s : ByteArray} {l : List Tm} {w : World} {A : Option Addr} (hh : hw k a b s l.length) (hS : Txs w (.slice A n c) (l.map enc)) (hg : ∀ t ∈ l, fine t) (hs : s.size ≤ 1000000000) (h5 : k = 5 → l.length ≤ 8) (h10 : k = 10 → l.length ≤ 32) :
    Calls Tryz.prog 131 #[.agg #[.int .i64 k, .int .i64 a, .int .i64 b, .string s, .slice A n c]] w (Righted k a b s l w) := by
  have hk : 1 ≤ k ∧ k ≤ 10 := by
    unfold hw at hh
    split at hh <;> first | omega | exact hh.elim
  obtain rfl | rfl | rfl | rfl | rfl | rfl | rfl | rfl | rfl | rfl : k = 1 ∨ k = 2 ∨ k = 3 ∨ k = 4 ∨ k = 5 ∨ k = 6 ∨ k = 7 ∨ k = 8 ∨ k = 9 ∨ k = 10 := by omega
  all_goals simp only [hw] at hh
  · have Hr := hide (show RightB 1 a b s l from ⟨hh, trivial⟩)
    clear hh hS hg h5 h10
    go_enter Tryz.func131, Tryz.ntmps131
    go_wp2
    go_ret
    exact righted_mk true ⟨fun _ => Hr.out, fun _ => rfl⟩ (by (repeat (first | exact Below.refl _ _ | refine below_drewN ?_ _ | refine Below.drew ?_ | refine Below.alloc ?_ (by first | omega | (simp; done) | (simp; omega)) _ | refine Below.setCell ?_ (by first | omega | (simp; done) | (simp; omega)) _ | refine bel_alloc ?_ _ | refine bel_trans ?_ (by assumption) | refine Below.trans ?_ (Below.mono (by assumption) (by first | omega | (simp; done) | (simp; omega))))))
  · have Hr := hide (show (okN a && okN b) = true ↔ RightB 2 a b s l by
      unfold RightB
      simp only [hd, Bool.and_eq_true, okN_iff, kids]
      constructor
      · rintro ⟨h1, h2⟩
        exact ⟨⟨by omega, by omega, hh.2.2⟩, trivial⟩
      · rintro ⟨⟨h1, h2, _⟩, _⟩
        exact ⟨by omega, by omega⟩)
    have H1 := hide (fun W => rNumber_any a W)
    have H2 := hide (fun W => rNumber_any b W)
    clear hh hS hg h5 h10
    cases e1 : okN a with
    | false =>
      rw [e1] at H1 Hr
      clear e1
      go_enter Tryz.func131, Tryz.ntmps131
      go_wp2_with (go_at_call 111; refine (H1.out _).mono ?_; rintro e w1 ⟨rfl, rfl⟩)
      go_ret
      exact righted_mk _ Hr.out (by (repeat (first | exact Below.refl _ _ | refine below_drewN ?_ _ | refine Below.drew ?_ | refine Below.alloc ?_ (by first | omega | (simp; done) | (simp; omega)) _ | refine Below.setCell ?_ (by first | omega | (simp; done) | (simp; omega)) _ | refine bel_alloc ?_ _ | refine bel_trans ?_ (by assumption) | refine Below.trans ?_ (Below.mono (by assumption) (by first | omega | (simp; done) | (simp; omega))))))
    | true =>
      rw [e1] at H1 Hr
      clear e1
      go_enter Tryz.func131, Tryz.ntmps131
      go_wp2_with (first
        | (go_at_call 111; (with_reducible refine (H1.out _).mono ?_); rintro e w1 ⟨rfl, rfl⟩)
        | (go_at_call 111; (with_reducible refine (H2.out _).mono ?_); rintro e w1 ⟨rfl, rfl⟩))
      go_ret
      exact righted_mk _ Hr.out (by (repeat (first | exact Below.refl _ _ | refine below_drewN ?_ _ | refine Below.drew ?_ | refine Below.alloc ?_ (by first | omega | (simp; done) | (simp; omega)) _ | refine Below.setCell ?_ (by first | omega | (simp; done) | (simp; omega)) _ | refine bel_alloc ?_ _ | refine bel_trans ?_ (by assumption) | refine Below.trans ?_ (Below.mono (by assumption) (by first | omega | (simp; done) | (simp; omega))))))
  · have Hr := hide (show okN a = true ↔ RightB 3 a b s l by
      unfold RightB
      simp only [hd, okN_iff, kids]
      constructor
      · rintro h1
        exact ⟨⟨by omega, hh.2⟩, trivial⟩
      · rintro ⟨⟨h1, _⟩, _⟩
        omega)
    have hb0 : b = 0 := hh.2.1
    subst hb0
    have H1 := hide (fun W => rNumber_any a W)
    have H2 := hide (fun W => rNumber_any 0 W)
    rw [show okN 0 = true from rfl] at H2
    clear hh hS hg h5 h10
    cases e1 : okN a with
    | false =>
      rw [e1] at H1 Hr
      clear e1
      go_enter Tryz.func131, Tryz.ntmps131
      go_wp2_with (go_at_call 111; refine (H1.out _).mono ?_; rintro e w1 ⟨rfl, rfl⟩)
      go_ret
      exact righted_mk _ Hr.out (by (repeat (first | exact Below.refl _ _ | refine below_drewN ?_ _ | refine Below.drew ?_ | refine Below.alloc ?_ (by first | omega | (simp; done) | (simp; omega)) _ | refine Below.setCell ?_ (by first | omega | (simp; done) | (simp; omega)) _ | refine bel_alloc ?_ _ | refine bel_trans ?_ (by assumption) | refine Below.trans ?_ (Below.mono (by assumption) (by first | omega | (simp; done) | (simp; omega))))))
    | true =>
      rw [e1] at H1 Hr
      clear e1
      go_enter Tryz.func131, Tryz.ntmps131
      go_wp2_with (first
        | (go_at_call 111; (with_reducible refine (H1.out _).mono ?_); rintro e w1 ⟨rfl, rfl⟩)
        | (go_at_call 111; refine (H2.out _).mono ?_; rintro e w1 ⟨rfl, rfl⟩))
      go_ret
      exact righted_mk _ (by simpa using Hr.out) (by (repeat (first | exact Below.refl _ _ | refine below_drewN ?_ _ | refine Below.drew ?_ | refine Below.alloc ?_ (by first | omega | (simp; done) | (simp; omega)) _ | refine Below.setCell ?_ (by first | omega | (simp; done) | (simp; omega)) _ | refine bel_alloc ?_ _ | refine bel_trans ?_ (by assumption) | refine Below.trans ?_ (Below.mono (by assumption) (by first | omega | (simp; done) | (simp; omega))))))
  · obtain ⟨t, rfl⟩ : ∃ t, l = [t] := List.length_eq_one_iff.1 hh.2.2.1
    obtain ⟨ad, rfl, hn, hc, hab⟩ := txs_at hS (i := 0) (by simp)
    have Hr := hide (show ((t.k : Int) == 3) = true ↔ RightB 4 a b s [t] by
      unfold RightB
      simp only [hd, kids, beq_iff_eq]
      constructor
      · intro h1
        exact ⟨hh, by simp; omega⟩
      · rintro ⟨_, h2⟩
        have := h2 t (by simp)
        omega)
    have HK : Hid (∀ W, Calls Tryz.prog 58 #[.string (bs (enc t))] W fun e w' => e = .returned (.int .i64 (t.k : Int)) ∧ W = w') := fun W => rKind_any (o := some t) (fineO_some (hg t (by simp))) W
    subst hn
    simp only [List.length_cons, List.length_nil, Nat.zero_add, List.getElem_cons_zero] at hc ⊢
    have hcw : (w.alloc (.cells #[.int .i64 4, .int .i64 a, .int .i64 b, .string s, .slice (some ad) 1 c] 125)).cell? (ad.add 0) = some (.string (bs (enc t))) := cellAdd ((Below.refl _ _).alloc (Nat.le_refl _) _) hab hc
    rw [add_nil_] at hcw
    generalize enc t = et at hc HK hcw
    generalize t.k = tk at HK Hr
    clear hh hS hg h5 h10 hc
    go_enter Tryz.func131, Tryz.ntmps131
    go_wp2_with (go_at_call 58; refine (HK.out _).mono ?_; rintro e w1 ⟨rfl, rfl⟩)
    go_ret
    exact righted_mk _ Hr.out (by (repeat (first | exact Below.refl _ _ | refine below_drewN ?_ _ | refine Below.drew ?_ | refine Below.alloc ?_ (by first | omega | (simp; done) | (simp; omega)) _ | refine Below.setCell ?_ (by first | omega | (simp; done) | (simp; omega)) _ | refine bel_alloc ?_ _ | refine bel_trans ?_ (by assumption) | refine Below.trans ?_ (Below.mono (by assumption) (by first | omega | (simp; done) | (simp; omega))))))
  · have HXX := hide (fun W => rText_any s 2100 W (by omega))
    have Hg := hide hg
    have H8 := hide (h5 rfl)
    have hl8 := h5 rfl
    have Hhh := hide hh
    have HS := hide hS
    clear hh hS hg h5 h10
    obtain ⟨A', c', e, hc⟩ := HS.out.open_
    injection e with e1 e2 e3
    subst e1 e2
    have HC := hide hc
    clear hc
    simp only [List.length_map]
    go_enter Tryz.func131, Tryz.ntmps131
    go_wp2
    go_loopw [3] (fun i wr => ∃ (j : Nat), j ≤ l.length ∧ i = .int .i64 j ∧ Hid (∀ m (h : m < l.length), m < j → l[m].k = 2) ∧ Hid (∀ m (h : m + 1 < l.length), m + 1 < j → tlt l[m + 1] l[m] = false) ∧ Below w.heap.size w wr ∧ Blk wr w.heap.size 125 #[.int .i64 5, .int .i64 a, .int .i64 b, .string s, .slice A l.length c']) (fun i _ => l.length - (intOf i).toNat)
    case atStart => exact ⟨0, Nat.zero_le _, rfl, hide (fun m h h0 => absurd h0 (by omega)), hide (fun m h h0 => absurd h0 (by omega)), by (repeat (first | exact Below.refl _ _ | refine below_drewN ?_ _ | refine Below.drew ?_ | refine Below.alloc ?_ (by first | omega | (simp; done) | (simp; omega)) _ | refine Below.setCell ?_ (by first | omega | (simp; done) | (simp; omega)) _ | refine bel_alloc ?_ _ | refine bel_trans ?_ (by assumption) | refine Below.trans ?_ (Below.mono (by assumption) (by first | omega | (simp; done) | (simp; omega))))), Blk.new _ _ _⟩
    case round =>
      obtain ⟨j, hj, rfl, HK2, HO2, hbw, hblk⟩ := hrel
      have q3 : wr.cell? ⟨w.heap.size, 3, none⟩ = some (.string s) := hblk.cell 3
      have q4 : wr.cell? ⟨w.heap.size, 4, none⟩ = some (.slice A l.length c') := hblk.cell 4
      by_cases hlt : j < l.length
      · have hji : (j : Int) < l.length := by omega
        obtain ⟨ad, rfl, hab, hc0⟩ := HC.out j (by simpa using hlt)
        have hc1 := cellAdd hbw hab hc0
        simp only [List.getElem_map] at hc1
        clear hc0
        have HKd : Hid (∀ W, Calls Tryz.prog 58 #[.string (bs (enc l[j]))] W fun e w' => e = .returned (.int .i64 (l[j].k : Int)) ∧ W = w') := fun W => rKind_any (o := some l[j]) (fineO_some (Hg.out _ (List.getElem_mem _))) W
        by_cases hk2 : l[j].k = 2
        · rw [hk2] at HKd
          cases j with
          | zero =>
            have hd : decide ((0 : Int) > 0) = false := by decide
            rw [add_nil_] at hc1
            have HKn := hide (show ∀ m (h : m < l.length), m < 0 + 1 → l[m].k = 2 from fun m h h0 => by
              obtain rfl : m = 0 := by omega
              exact hk2)
            clear hk2
            generalize enc l[0] = et at hc1 HKd
            go_wp2_with fail
            go_quiet ((go_at_call 58; exact Calls.quiet_of_same ((HKd.out _).mono fun _ _ h => ⟨h.1, h.2.symm⟩)))
            go_wp2
            exact ⟨⟨1, by omega, rfl, HKn, hide (fun m h h0 => absurd h0 (by omega)), below_drewN hbw _, hblk.drewN _⟩, by simp [intOf]; omega⟩
          | succ m =>
            have hd : decide ((m : Int) + 1 > 0) = true := decide_eq_true (by omega)
            rw [add_succ_] at hc1
            have hm : m < l.length := by omega
            obtain ⟨ad', e', _, hc2⟩ := HC.out m (by simpa using hm)
            injection e' with e'
            subst e'
            have hc3 := cellAdd hbw hab hc2
            simp only [List.getElem_map] at hc3
            clear hc2
            have HKn := hide (show ∀ i (h : i < l.length), i < m + 1 + 1 → l[i].k = 2 from fun i h h0 => by
              rcases Nat.lt_or_ge i (m + 1) with h1 | h1
              · exact HK2.out i h h1
              · obtain rfl : i = m + 1 := by omega
                exact hk2)
            have hless := less_nonce (Hg.out _ (List.getElem_mem hlt)).1 (Hg.out _ (List.getElem_mem hm)).1 hk2 (HK2.out m hm (by omega))
            have w1' : IntKind.i64.wrap ((m : Int) + 1) = (m : Int) + 1 := by rw [IntKind.wrap_i64]; omega
            have w2' : IntKind.i64.wrap (m : Int) = (m : Int) := by rw [IntKind.wrap_i64]; omega
            have p0 : (0 : Int) ≤ (m : Int) + 1 := by omega
            have p1 : (0 : Int) ≤ (m : Int) := by omega
            have e0 : ((m : Int) + 1).toNat = m + 1 := by omega
            have jz : (m : Int) + 1 < (l.length : Int) := by omega
            have jz1 : (m : Int) < (l.length : Int) := by omega
            clear hk2
            cases hlv : tlt l[m + 1] l[m] with
            | true =>
              have Hr := hide (show false = true ↔ RightB 5 a b s l from ⟨(fun h => by cases h), fun h => by
                have h2 := adj_le h.2.2 hlt
                rw [hlv] at h2
                cases h2⟩)
              rw [hlv] at hless
              clear hlv
              generalize enc l[m + 1] = et at hc1 HKd hless
              generalize enc l[m] = eu at hc3 hless
              rw [← bs_toList et, ← bs_toList eu] at hless
              go_wp2_with fail
              go_quiet ((go_at_call 58; exact Calls.quiet_of_same ((HKd.out _).mono fun _ _ h => ⟨h.1, h.2.symm⟩)))
              go_wp2
              go_ret
              exact righted_mk _ Hr.out (by (repeat (first | exact Below.refl _ _ | refine below_drewN ?_ _ | refine Below.drew ?_ | refine Below.alloc ?_ (by first | omega | (simp; done) | (simp; omega)) _ | refine Below.setCell ?_ (by first | omega | (simp; done) | (simp; omega)) _ | refine bel_alloc ?_ _ | refine bel_trans ?_ (by assumption) | refine Below.trans ?_ (Below.mono (by assumption) (by first | omega | (simp; done) | (simp; omega))))))
            | false =>
              have HOn := hide (show ∀ i (h : i + 1 < l.length), i + 1 < m + 1 + 1 → tlt l[i + 1] l[i] = false from fun i h h0 => by
                rcases Nat.lt_or_ge i m with h1 | h1
                · exact HO2.out i h (by omega)
                · obtain rfl : i = m := by omega
                  exact hlv)
              rw [hlv] at hless
              clear hlv
              generalize enc l[m + 1] = et at hc1 HKd hless
              generalize enc l[m] = eu at hc3 hless
              rw [← bs_toList et, ← bs_toList eu] at hless
              go_wp2_with fail
              go_quiet ((go_at_call 58; exact Calls.quiet_of_same ((HKd.out _).mono fun _ _ h => ⟨h.1, h.2.symm⟩)))
              go_wp2
              exact ⟨⟨m + 2, by omega, by go_num, HKn, HOn, below_drewN hbw _, hblk.drewN _⟩, by simp [intOf]; omega⟩
        · have ht : ((l[j].k : Int) != 2) = true := by rw [bne_iff_ne]; omega
          have Hr := hide (show false = true ↔ RightB 5 a b s l from ⟨(fun h => by cases h), fun h => absurd (h.2.1 _ (List.getElem_mem hlt)) hk2⟩)
          clear hk2
          generalize enc l[j] = et at hc1 HKd
          generalize l[j].k = kk at HKd ht
          go_wp2_with fail
          go_quiet ((go_at_call 58; exact Calls.quiet_of_same ((HKd.out _).mono fun _ _ h => ⟨h.1, h.2.symm⟩)))
          go_wp2
          go_ret
          exact righted_mk _ Hr.out (by (repeat (first | exact Below.refl _ _ | refine below_drewN ?_ _ | refine Below.drew ?_ | refine Below.alloc ?_ (by first | omega | (simp; done) | (simp; omega)) _ | refine Below.setCell ?_ (by first | omega | (simp; done) | (simp; omega)) _ | refine bel_alloc ?_ _ | refine bel_trans ?_ (by assumption) | refine Below.trans ?_ (Below.mono (by assumption) (by first | omega | (simp; done) | (simp; omega))))))
      · have hji : ¬ (j : Int) < l.length := by omega
        have hlj : l.length ≤ j := by omega
        have Hr := hide (show decide (1 ≤ s.size ∧ (s.size : Int) ≤ 2100) = true ↔ RightB 5 a b s l by
          unfold RightB
          have hh := Hhh.out
          simp only [hd, kids, decide_eq_true_eq]
          constructor
          · intro h0
            exact ⟨⟨hh.1, hh.2.1, H8.out, h0.1, by omega⟩, fun x hx => by
              obtain ⟨i, hi, rfl⟩ := List.getElem_of_mem hx
              exact HK2.out i hi (by omega), sorted_adj fun i hi => tle_not.2 (HO2.out i hi (by omega))⟩
          · rintro ⟨⟨_, _, _, h3, h4⟩, _⟩
            exact ⟨h3, by omega⟩)
        go_wp2_with (go_at_call 108; refine (HXX.out _).mono ?_; rintro e w1 ⟨rfl, rfl⟩)
        go_ret
        exact righted_mk _ (by simpa [Bool.decide_and] using Hr.out) (by (repeat (first | exact Below.refl _ _ | refine below_drewN ?_ _ | refine Below.drew ?_ | refine Below.alloc ?_ (by first | omega | (simp; done) | (simp; omega)) _ | refine Below.setCell ?_ (by first | omega | (simp; done) | (simp; omega)) _ | refine bel_alloc ?_ _ | refine bel_trans ?_ (by assumption) | refine Below.trans ?_ (Below.mono (by assumption) (by first | omega | (simp; done) | (simp; omega))))))
  · obtain ⟨t, u, rfl⟩ : ∃ t u, l = [t, u] := len_two hh.2.2.1
    obtain ⟨ad, rfl, hn, hc, hab⟩ := txs_at hS (i := 0) (by simp)
    have Hr := hide (show (decide (1 ≤ s.size ∧ (s.size : Int) ≤ 64) && ((t.k : Int) == 3)) = true ↔ RightB 6 a b s [t, u] by
      unfold RightB
      simp only [hd, kids, beq_iff_eq, Bool.and_eq_true, decide_eq_true_eq]
      constructor
      · rintro ⟨h0, h1⟩
        exact ⟨⟨hh.1, hh.2.1, hh.2.2.1, h0.1, by omega⟩, by simp; omega⟩
      · rintro ⟨⟨_, _, _, h3, h4⟩, h2⟩
        have := h2 t (by simp)
        exact ⟨⟨h3, by omega⟩, by omega⟩)
    have HK : Hid (∀ W, Calls Tryz.prog 58 #[.string (bs (enc t))] W fun e w' => e = .returned (.int .i64 (t.k : Int)) ∧ W = w') := fun W => rKind_any (o := some t) (fineO_some (hg t (by simp))) W
    have HX := hide (fun W => rText_any s 64 W (by omega))
    subst hn
    simp only [List.length_cons, List.length_nil, Nat.zero_add, List.getElem_cons_zero] at hc ⊢
    have hcw : (w.alloc (.cells #[.int .i64 6, .int .i64 a, .int .i64 b, .string s, .slice (some ad) 2 c] 125)).cell? (ad.add 0) = some (.string (bs (enc t))) := cellAdd ((Below.refl _ _).alloc (Nat.le_refl _) _) hab hc
    rw [add_nil_] at hcw
    generalize enc t = et at hc HK hcw
    generalize t.k = tk at HK Hr
    clear hh hS hg h5 h10 hc
    cases e1 : decide (1 ≤ s.size ∧ (s.size : Int) ≤ 64) with
    | false =>
      rw [e1] at HX Hr
      clear e1
      go_enter Tryz.func131, Tryz.ntmps131
      go_wp2_with (go_at_call 108; refine (HX.out _).mono ?_; rintro e w1 ⟨rfl, rfl⟩)
      go_ret
      exact righted_mk _ (by simpa using Hr.out) (by (repeat (first | exact Below.refl _ _ | refine below_drewN ?_ _ | refine Below.drew ?_ | refine Below.alloc ?_ (by first | omega | (simp; done) | (simp; omega)) _ | refine Below.setCell ?_ (by first | omega | (simp; done) | (simp; omega)) _ | refine bel_alloc ?_ _ | refine bel_trans ?_ (by assumption) | refine Below.trans ?_ (Below.mono (by assumption) (by first | omega | (simp; done) | (simp; omega))))))
    | true =>
      rw [e1] at HX Hr
      clear e1
      go_enter Tryz.func131, Tryz.ntmps131
      go_wp2_with (first
        | (go_at_call 108; refine (HX.out _).mono ?_; rintro e w1 ⟨rfl, rfl⟩)
        | (go_at_call 58; refine (HK.out _).mono ?_; rintro e w1 ⟨rfl, rfl⟩))
      go_ret
      exact righted_mk _ (by simpa using Hr.out) (by (repeat (first | exact Below.refl _ _ | refine below_drewN ?_ _ | refine Below.drew ?_ | refine Below.alloc ?_ (by first | omega | (simp; done) | (simp; omega)) _ | refine Below.setCell ?_ (by first | omega | (simp; done) | (simp; omega)) _ | refine bel_alloc ?_ _ | refine bel_trans ?_ (by assumption) | refine Below.trans ?_ (Below.mono (by assumption) (by first | omega | (simp; done) | (simp; omega))))))
  · have Hr := hide (show RightB 7 a b s l from ⟨hh, trivial⟩)
    clear hh hS hg h5 h10
    go_enter Tryz.func131, Tryz.ntmps131
    go_wp2
    go_ret
    exact righted_mk true ⟨fun _ => Hr.out, fun _ => rfl⟩ (by (repeat (first | exact Below.refl _ _ | refine below_drewN ?_ _ | refine Below.drew ?_ | refine Below.alloc ?_ (by first | omega | (simp; done) | (simp; omega)) _ | refine Below.setCell ?_ (by first | omega | (simp; done) | (simp; omega)) _ | refine bel_alloc ?_ _ | refine bel_trans ?_ (by assumption) | refine Below.trans ?_ (Below.mono (by assumption) (by first | omega | (simp; done) | (simp; omega))))))
  · have Hr := hide (show RightB 8 a b s l from ⟨hh, trivial⟩)
    clear hh hS hg h5 h10
    go_enter Tryz.func131, Tryz.ntmps131
    go_wp2
    go_ret
    exact righted_mk true ⟨fun _ => Hr.out, fun _ => rfl⟩ (by (repeat (first | exact Below.refl _ _ | refine below_drewN ?_ _ | refine Below.drew ?_ | refine Below.alloc ?_ (by first | omega | (simp; done) | (simp; omega)) _ | refine Below.setCell ?_ (by first | omega | (simp; done) | (simp; omega)) _ | refine bel_alloc ?_ _ | refine bel_trans ?_ (by assumption) | refine Below.trans ?_ (Below.mono (by assumption) (by first | omega | (simp; done) | (simp; omega))))))
  · have Hr := hide (show RightB 9 a b s l from ⟨hh, trivial⟩)
    clear hh hS hg h5 h10
    go_enter Tryz.func131, Tryz.ntmps131
    go_wp2
    go_ret
    exact righted_mk true ⟨fun _ => Hr.out, fun _ => rfl⟩ (by (repeat (first | exact Below.refl _ _ | refine below_drewN ?_ _ | refine Below.drew ?_ | refine Below.alloc ?_ (by first | omega | (simp; done) | (simp; omega)) _ | refine Below.setCell ?_ (by first | omega | (simp; done) | (simp; omega)) _ | refine bel_alloc ?_ _ | refine bel_trans ?_ (by assumption) | refine Below.trans ?_ (Below.mono (by assumption) (by first | omega | (simp; done) | (simp; omega))))))
  · have Hr := hide (show RightB 10 a b s l from ⟨⟨hh.1, hh.2.1, h10 rfl, hh.2.2.2⟩, trivial⟩)
    clear hh hS hg h5 h10
    go_enter Tryz.func131, Tryz.ntmps131
    go_wp2
    go_ret
    exact righted_mk true ⟨fun _ => Hr.out, fun _ => rfl⟩ (by (repeat (first | exact Below.refl _ _ | refine below_drewN ?_ _ | refine Below.drew ?_ | refine Below.alloc ?_ (by first | omega | (simp; done) | (simp; omega)) _ | refine Below.setCell ?_ (by first | omega | (simp; done) | (simp; omega)) _ | refine bel_alloc ?_ _ | refine bel_trans ?_ (by assumption) | refine Below.trans ?_ (Below.mono (by assumption) (by first | omega | (simp; done) | (simp; omega))))))
end Go.Proofs.YtkpikfdfekggbaaGreatDoor
