/-
  The contracts of slices.Clone and slices.Equal at lists of strings. Conditions: the arguments read as lists; few enough for one block.
-/
import Derived.Test.YtnkkmhlppghajaaSame
namespace Go.Proofs.Ytnkkmhlppghajaa
open Go.RowKit

theorem infoStr : (Try.prog.info? 9).map (fun i => (i.zero, i.size, i.bytes)) = some (some (.string ByteArray.empty), 1, 16) := by kernel_rfl
theorem strs_of_own {base : Nat} {w : World} {e : TypeId} {v : Value} {n : Nat} {ss : List ByteArray} (hn : n = ss.length) (h : w.ownsRow base e 1 v n (ss.map Value.string)) : ∃ lo, Strs lo w v ss ∧ base ≤ lo ∨ v = .slice none 0 0 ∧ ss = [] := by
  subst hn
  rcases h.2 with ⟨rfl, h0⟩ | ⟨g, cap, cur, rfl, hb, hh, hnc, hx⟩
  · exact ⟨0, .inr ⟨rfl, by simpa using h0⟩⟩
  · have hr := Reads.of_own h
    refine ⟨base, .inl ⟨⟨some ⟨g, 0, none⟩, cap, rfl, by simp, fun hn => ?_⟩, Nat.le_refl _⟩⟩
    obtain ⟨ad, e1, h2, h3⟩ := hr.2 hn
    cases e1
    exact ⟨_, rfl, hb, h2, h3⟩
theorem strs_nil (lo : Nat) (w : World) (c : Nat) : Strs lo w (.slice none 0 c) [] := ⟨none, c, rfl, Sl.nil_⟩
theorem own_strs {base : Nat} {w : World} {e : TypeId} {v : Value} {n : Nat} {ss : List ByteArray} (hn : n = ss.length) (h : w.ownsRow base e 1 v n (ss.map Value.string)) : Strs base w v ss := by
  obtain ⟨lo, ⟨h1, h2⟩ | ⟨rfl, rfl⟩⟩ := strs_of_own hn h
  · exact h1.mono h2
  · exact strs_nil _ _ _
set_option maxHeartbeats 400000 in
theorem clone_str {lo : Nat} {v : Value} {ss : List ByteArray} {w : World} (h : Strs lo w v ss) (hb : ss.length ≤ 8796093022207) :
    Calls Try.prog 19 #[v] w fun e w' => ∃ v', e = .returned v' ∧ Strs w.heap.size w' v' ss ∧ Below w.heap.size w w' := by
  obtain ⟨A, c, rfl, hr⟩ := h
  obtain ⟨i0, hi, hz0, hz1, hz2⟩ := info_parts infoStr
  have q : ∀ (w : World) (a : Option Addr) (n c n' c' : Nat), (binOp .eql 23 (.slice a n c) (.slice none n' c')).run Try.prog w = .ok (.bool a.isNone) w := fun w a n c n' c' => Lib.run_eql_slice_nil w _ _ a n c n' c' Try.underlying23
  cases A with
  | none =>
    have h0 : ss = [] := by
      rcases Nat.eq_zero_or_pos ss.length with h0 | h0
      · exact List.eq_nil_of_length_eq_zero h0
      · obtain ⟨ad, h, _⟩ := hr.2 h0
        cases h
    subst h0
    go_enter Try.func19, Try.ntmps19
    go_wp2
    go_ret
    exact ⟨_, rfl, strs_nil _ _ _, Below.refl _ _⟩
  | some ad =>
    have hr' := (hr.alloc (.cells #[] 9)).reads
    have hone : ∀ u ∈ ss.map Value.string, u.oneCell' = true := by
      intro u hu
      obtain ⟨s, _, rfl⟩ := List.mem_map.1 hu
      rfl
    have Hone := hide hone
    have Hr := hide hr'
    clear hone hr' hr
    go_enter Try.func19, Try.ntmps19
    go_wp2_with (at_builtin; refine wpList_append_any _ rfl (.tmp 5) (.tmp 6) _ rfl w.heap.size 9 i0 (.string ByteArray.empty) 1 16 Try.underlying23 hi hz0 hz1 hz2 rfl (by decide) _ 0 [] rfl (World.ownsRow_made w #[] 0 (Nat.le_refl _) (Nat.zero_le _) (by simp)) (w.heap.size + 1) (some ad) ss.length c (ss.map Value.string) rfl (by simpa using Hr.out) Hone.out (by unfold maxLen; omega) (by omega) (by simp) ?_; intro v' w1 hown hgrow _)
    rw [Nat.zero_add, List.nil_append] at hown
    go_wp2
    go_ret
    refine ⟨v', rfl, own_strs rfl hown, ?_⟩
    exact ((Below.refl _ w).alloc (Nat.le_refl _) _).grown hgrow (by simp) (by rintro k ⟨⟩; exact Nat.le_refl _)
set_option maxHeartbeats 400000 in
theorem equal_q {lo lo' : Nat} {v v' : Value} {ss ss' : List ByteArray} {w : World} (h1 : Strs lo w v ss) (h2 : Strs lo' w v' ss') (hb1 : ss.length ≤ 9223372036854775807) (hb2 : ss'.length ≤ 9223372036854775807) :
    Calls Try.prog 14 #[v, v'] w fun e w' => e = .returned (.bool (decide (ss = ss'))) ∧ ∃ n, w' = w.drewN n := by
  obtain ⟨A, c, rfl, hr⟩ := h1
  obtain ⟨A', c', rfl, hr'⟩ := h2
  by_cases hlen : ss.length = ss'.length
  · have Hlen := hide hlen
    have hle : ss.length ≤ ss'.length ∧ ss'.length ≤ ss.length := by omega
    obtain ⟨hle1, hle2⟩ := hle
    clear hlen
    go_enter Try.func14, Try.ntmps14
    go_wp2
    go_loopw [13] (fun i wr => ∃ k n : Nat, k ≤ ss.length ∧ i = .int .i64 k ∧ wr = w.drewN n ∧ ss.take k = ss'.take k) (fun i _ => ss.length - (intOf i).toNat)
    case atStart => exact ⟨0, 0, Nat.zero_le _, rfl, rfl, rfl⟩
    case round =>
      obtain ⟨k, n, hk, rfl, rfl, heq⟩ := hrel
      have Heq := hide heq
      clear heq
      by_cases hlt : k < ss.length
      · obtain ⟨ad, rfl, hlo, hc0⟩ := hr.str hlt
        obtain ⟨ad', rfl, hlo', hc0'⟩ := hr'.str (Nat.lt_of_lt_of_le hlt hle1)
        have hc := hc0
        have hc' := hc0'
        clear hc0 hc0'
        generalize hs : ss[k] = s at hc
        generalize hs' : ss'[k]'(Nat.lt_of_lt_of_le hlt hle1) = s' at hc'
        by_cases he : s = s'
        · subst he
          have Hs := hide hs
          have Hs' := hide hs'
          clear hs hs'
          go_wp2
          go_quiet (fail)
          go_wp2
          go_roundw
          case rel =>
            refine ⟨k + 1, _, hlt, by go_num, rfl, ?_⟩
            rw [List.take_succ_eq_append_getElem hlt, List.take_succ_eq_append_getElem (Nat.lt_of_lt_of_le hlt hle1), Heq.out, Hs.out, Hs'.out]
          case measure => simp [intOf]; omega
        · have hne : ss ≠ ss' := by
            rintro rfl
            exact he (hs.symm.trans hs')
          have e1 := bytes_ne he
          clear hs hs'
          go_wp2
          go_quiet (fail)
          go_wp2
          go_ret
          exact ⟨ret_bool (by simp [hne]), _, World.drewN_drewN _ _ _⟩
      · have he : ss = ss' := by
          have h := Heq.out
          rw [List.take_of_length_le (by omega), List.take_of_length_le (by omega)] at h
          exact h
        have He := hide he
        clear he
        go_wp2
        go_ret
        exact ⟨ret_bool (by simp [He.out]), _, rfl⟩
  · have hne : ss ≠ ss' := by
      rintro rfl
      exact hlen rfl
    go_enter Try.func14, Try.ntmps14
    go_wp2
    go_ret
    exact ⟨ret_bool (by simp [hne]), 0, rfl⟩
theorem equal_str {lo lo' : Nat} {v v' : Value} {ss ss' : List ByteArray} {w : World} (h1 : Strs lo w v ss) (h2 : Strs lo' w v' ss') (hb1 : ss.length ≤ 9223372036854775807) (hb2 : ss'.length ≤ 9223372036854775807) :
    Calls Try.prog 14 #[v, v'] w fun e w' => e = .returned (.bool (decide (ss = ss'))) ∧ Below w.heap.size w w' :=
  (equal_q h1 h2 hb1 hb2).mono fun _ _ ⟨h, n, hw⟩ => ⟨h, by rw [hw]; exact below_drewN (Below.refl _ _) _⟩
end Go.Proofs.Ytnkkmhlppghajaa
