/-
  The contracts of line.Scan and of the reference's Scan: the line that bytes begin with. Conditions: texts of up to maxLen bytes.
-/
import Derived.Test.YtejikjpaclnncaaBase3
namespace Go.Proofs.Ytejikjpaclnncaa
open Go.RowKit

def plainB (b : UInt8) : Bool := decide (32 ≤ b.toNat) && decide (b.toNat ≤ 126)
/-- What stands behind the plain bytes, and how many these are. -/
def scanR (l : List UInt8) (n : Nat) : List UInt8 → List UInt8 × Int × Int
  | [] => ([], 0, 4)
  | [c] => if c = 13 then ([], 0, 4) else ([], 0, 11)
  | c :: d :: _ => if c = 13 ∧ d = 10 then (l.take n, n + 2, 0) else ([], 0, 11)
def scanF (l : List UInt8) : List UInt8 × Int × Int :=
  if 253 < (l.takeWhile plainB).length then ([], 0, 11) else scanR l (l.takeWhile plainB).length (l.drop (l.takeWhile plainB).length)
theorem plain_any (n : Nat) (w : World) (hn : n < 256) : Calls Try.prog 62 #[.int .u8 n] w fun e w' => e = .returned (.bool (decide (32 ≤ n) && decide (n ≤ 126))) ∧ w = w' := by
  go_enter Try.func62, Try.ntmps62
  go_wp2
  all_goals (go_ret; refine ⟨ret_bool ?_, rfl⟩; (first | (simp_all; done) | (simp_all; omega) | (rw [Bool.eq_iff_iff]; simp_all; done) | (rw [Bool.eq_iff_iff]; simp_all; omega)))
/-- How many plain bytes stand first. -/
def plains (l : List UInt8) : Nat := (l.takeWhile plainB).length
theorem plains_le (l : List UInt8) : plains l ≤ l.length := List.IsPrefix.length_le (List.takeWhile_prefix _)
theorem plains_at (l : List UInt8) {j : Nat} (h : j < plains l) (hl : j < l.length) : plainB l[j] = true := by
  have h1 : (l.takeWhile plainB)[j]'h = l[j] := List.IsPrefix.getElem (List.takeWhile_prefix _) h
  rw [← h1]
  have h2 := List.all_takeWhile (p := plainB) (l := l)
  rw [List.all_eq_true] at h2
  exact h2 _ (List.getElem_mem _)
theorem plains_end : ∀ (l : List UInt8) (h : plains l < l.length), plainB l[plains l] = false := by
  intro l
  induction l with
  | nil => intro h; simp at h
  | cons a l ih =>
    intro h
    unfold plains at h ⊢
    by_cases ha : plainB a = true
    · simp only [List.takeWhile_cons, ha, if_true, List.length_cons] at h ⊢
      simp only [List.getElem_cons_succ]
      exact ih (by unfold plains; omega)
    · simp only [List.takeWhile_cons, ha] at h ⊢
      simpa using ha
theorem scanF_1 {l : List UInt8} (h : 253 < plains l) : scanF l = ([], 0, 11) := by rw [scanF]; exact if_pos h
theorem scanF_2 {l : List UInt8} (h : plains l ≤ 253) : scanF l = scanR l (plains l) (l.drop (plains l)) := by rw [scanF]; exact if_neg (by show ¬ 253 < plains l; omega)
theorem drop_cons (l : List UInt8) (n : Nat) (h : n < l.length) : l.drop n = l[n] :: l.drop (n + 1) := List.drop_eq_getElem_cons h
theorem scan_end (l : List UInt8) (h : plains l ≤ 253) (hl : plains l < l.length) : scanF l = if l[plains l].toNat ≠ 13 then ([], 0, 11) else if plains l + 1 = l.length then ([], 0, 4) else if (l.getD (plains l + 1) 0).toNat ≠ 10 then ([], 0, 11) else (l.take (plains l), (plains l : Int) + 2, 0) := by
  rw [scanF_2 h, drop_cons l _ hl]
  generalize l[plains l] = c
  have e13 : c = 13 ↔ c.toNat = 13 := ⟨fun h => by rw [h]; rfl, fun h => UInt8.toNat_inj.1 h⟩
  by_cases h2 : plains l + 1 = l.length
  · rw [List.drop_of_length_le (by omega), scanR]
    by_cases hc : c = 13
    · rw [if_pos hc, if_neg (show ¬ c.toNat ≠ 13 from fun h => h (e13.1 hc)), if_pos h2]
    · rw [if_neg hc, if_pos (show c.toNat ≠ 13 from fun h => hc (e13.2 h))]
  · rw [drop_cons l (plains l + 1) (by omega), scanR]
    have e10 : l.getD (plains l + 1) 0 = l[plains l + 1]'(by omega) := by rw [List.getD_eq_getElem?_getD, List.getElem?_eq_getElem (by omega)]; rfl
    rw [e10]
    generalize l[plains l + 1]'(by omega) = d
    have e10' : d = 10 ↔ d.toNat = 10 := ⟨fun h => by rw [h]; rfl, fun h => UInt8.toNat_inj.1 h⟩
    by_cases hc : c = 13
    · rw [if_neg (show ¬ c.toNat ≠ 13 from fun h => h (e13.1 hc)), if_neg h2]
      by_cases hd : d = 10
      · rw [if_pos ⟨hc, hd⟩, if_neg (show ¬ d.toNat ≠ 10 from fun h => h (e10'.1 hd))]
      · rw [if_neg (show ¬ (c = 13 ∧ d = 10) from fun h => hd h.2), if_pos (show d.toNat ≠ 10 from fun h => hd (e10'.2 h))]
    · rw [if_neg (show ¬ (c = 13 ∧ d = 10) from fun h => hc h.1), if_pos (show c.toNat ≠ 13 from fun h => hc (e13.2 h))]
theorem scan_any (s : ByteArray) (w : World) (_hs : s.size ≤ 1000000) : Calls Try.prog 48 #[.string s] w fun e w' => ∃ r, e = .returned (.tuple #[.string r, .int .i64 (scanF s.data.toList).2.1, .int .i64 (scanF s.data.toList).2.2]) ∧ r.data.toList = (scanF s.data.toList).1 ∧ w = w' := by
  have hsz : s.data.toList.length = s.size := rfl
  have hNle := plains_le s.data.toList
  have hat : ∀ j (h : j < s.size), j < plains s.data.toList → plainB s[j] = true := fun j h hj => plains_at s.data.toList hj h
  have hend : ∀ (h : plains s.data.toList < s.size), plainB s[plains s.data.toList] = false := fun h => plains_end s.data.toList h
  generalize hN : plains s.data.toList = N at hNle hat hend
  rw [hsz] at hNle
  by_cases c1 : 253 < N
  · have Hf := hide (scanF_1 (l := s.data.toList) (by rw [hN]; exact c1))
    have Hat := hide hat
    clear hat hend hN
    go_enter Try.func48, Try.ntmps48
    go_wp2
    go_step3
    go_wp2
    go_step3
    go_wp2
    go_loop [5] (fun i => ∃ k : Nat, k ≤ 254 ∧ i = .int .i64 k) (fun i => 254 - (intOf i).toNat)
    case atStart => exact ⟨0, Nat.zero_le _, rfl⟩
    case round =>
      obtain ⟨k, hk, rfl⟩ := hrel
      by_cases hlt : k = 254
      · subst hlt
        go_wp2
        go_ret3
        exact ⟨⟨#[]⟩, by rw [Hf.out]; rfl, by rw [Hf.out], rfl⟩
      · have hks : k < s.size := by omega
        have hp := Hat.out k hks (by omega)
        have hb := s[k].toNat_lt
        unfold plainB at hp
        go_wp2_with (go_at_call 62; refine (plain_any _ _ hb).mono ?_; rintro e w2 ⟨rfl, rfl⟩; rw [hp])
        go_round
        case rel => exact ⟨k + 1, by omega, by go_num⟩
        case measure => simp [intOf]; omega
  by_cases c2 : N = s.size
  · have Hf := hide (show scanF s.data.toList = ([], 0, 4) by
      rw [scanF_2 (by rw [hN]; omega), hN, List.drop_of_length_le (by rw [hsz]; omega)]
      rfl)
    have Hat := hide hat
    clear hat hend hN
    go_enter Try.func48, Try.ntmps48
    go_wp2
    go_step3
    go_wp2
    go_step3
    go_wp2
    go_loop [5] (fun i => ∃ k : Nat, k ≤ N ∧ i = .int .i64 k) (fun i => N - (intOf i).toNat)
    case atStart => exact ⟨0, Nat.zero_le _, rfl⟩
    case round =>
      obtain ⟨k, hk, rfl⟩ := hrel
      by_cases hlt : k = N
      · have hks : k = s.size := by omega
        have ek : ((k : Int) == (s.size : Int)) = true := by rw [beq_iff_eq]; omega
        clear hks hlt c2
        go_wp2
        go_ret3
        exact ⟨⟨#[]⟩, by rw [Hf.out]; rfl, by rw [Hf.out], rfl⟩
      · have hks : k < s.size := by omega
        have hp := Hat.out k hks (by omega)
        have hb := s[k].toNat_lt
        unfold plainB at hp
        clear c2
        go_wp2_with (go_at_call 62; refine (plain_any _ _ hb).mono ?_; rintro e w2 ⟨rfl, rfl⟩; rw [hp])
        go_round
        case rel => exact ⟨k + 1, by omega, by go_num⟩
        case measure => simp [intOf]; omega
  · have hNs : N < s.size := by omega
    have hf := scan_end s.data.toList (by rw [hN]; omega) (by rw [hN, hsz]; exact hNs)
    have hp := hend hNs
    have e1 : s.data.toList[plains s.data.toList]'(by rw [hN, hsz]; exact hNs) = s[N] := by
      simp only [hN]
      rfl
    have e2 : ∀ h : N + 1 < s.size, s.data.toList.getD (N + 1) 0 = s[N + 1] := by
      intro h
      rw [List.getD_eq_getElem?_getD, List.getElem?_eq_getElem (by rw [hsz]; exact h)]
      rfl
    rw [e1, hN, hsz] at hf
    have Hf := hide hf
    have Hat := hide hat
    have Hp := hide hp
    have H2 := hide e2
    clear hat hend hN hf hp e1 e2 c2
    have hb := s[N].toNat_lt
    go_enter Try.func48, Try.ntmps48
    go_wp2
    go_step3
    go_wp2
    go_step3
    go_wp2
    go_loop [5] (fun i => ∃ k : Nat, k ≤ N ∧ i = .int .i64 k) (fun i => N - (intOf i).toNat)
    case atStart => exact ⟨0, Nat.zero_le _, rfl⟩
    case round =>
      obtain ⟨k, hk, rfl⟩ := hrel
      by_cases hlt : k = N
      · subst hlt
        have hp := Hp.out
        unfold plainB at hp
        by_cases g2 : k + 1 = s.size
        · have ek : ((k : Int) + 1 == (s.size : Int)) = true := by rw [beq_iff_eq]; omega
          have G2 := hide g2
          clear g2
          go_wp2_with (go_at_call 62; refine (plain_any _ _ hb).mono ?_; rintro e w2 ⟨rfl, rfl⟩; rw [hp])
          all_goals rw [Exit.noGoto_ret]
          · have g1 : s[k].toNat ≠ 13 := by
              have := bne_iff_ne.1 (by assumption : ((s[k].toNat : Int) != 13) = true)
              omega
            go_ret3
            exact ⟨⟨#[]⟩, by rw [Hf.out, if_pos g1]; rfl, by rw [Hf.out, if_pos g1], rfl⟩
          · have g1 : ¬ s[k].toNat ≠ 13 := by
              have := bne_eq_false_iff_eq.1 (by assumption : ((s[k].toNat : Int) != 13) = false)
              omega
            go_ret3
            exact ⟨⟨#[]⟩, by rw [Hf.out, if_neg g1, if_pos G2.out]; rfl, by rw [Hf.out, if_neg g1, if_pos G2.out], rfl⟩
        · have ek : ((k : Int) + 1 == (s.size : Int)) = false := by rw [beq_eq_false_iff_ne]; omega
          have g4 : k + 1 < s.size := by omega
          go_wp2_with (go_at_call 62; refine (plain_any _ _ hb).mono ?_; rintro e w2 ⟨rfl, rfl⟩; rw [hp])
          all_goals rw [Exit.noGoto_ret]
          · have g1 : s[k].toNat ≠ 13 := by
              have := bne_iff_ne.1 (by assumption : ((s[k].toNat : Int) != 13) = true)
              omega
            go_ret3
            exact ⟨⟨#[]⟩, by rw [Hf.out, if_pos g1]; rfl, by rw [Hf.out, if_pos g1], rfl⟩
          · have g1 : ¬ s[k].toNat ≠ 13 := by
              have := bne_eq_false_iff_eq.1 (by assumption : ((s[k].toNat : Int) != 13) = false)
              omega
            have g3 : (s.data.toList.getD (k + 1) 0).toNat ≠ 10 := by
              rw [H2.out g4]
              have := bne_iff_ne.1 (by assumption : ((s[k + 1].toNat : Int) != 10) = true)
              omega
            go_ret3
            exact ⟨⟨#[]⟩, by rw [Hf.out, if_neg g1, if_neg g2, if_pos g3]; rfl, by rw [Hf.out, if_neg g1, if_neg g2, if_pos g3], rfl⟩
          · have g1 : ¬ s[k].toNat ≠ 13 := by
              have := bne_eq_false_iff_eq.1 (by assumption : ((s[k].toNat : Int) != 13) = false)
              omega
            have g3 : ¬ (s.data.toList.getD (k + 1) 0).toNat ≠ 10 := by
              rw [H2.out g4]
              have := bne_eq_false_iff_eq.1 (by assumption : ((s[k + 1].toNat : Int) != 10) = false)
              omega
            go_ret3
            refine ⟨_, by rw [Hf.out, if_neg g1, if_neg g2, if_neg g3]; rfl, ?_, rfl⟩
            rw [Hf.out, if_neg g1, if_neg g2, if_neg g3, Lib.extract_data]
            simp
      · have hks : k < s.size := by omega
        have hp := Hat.out k hks (by omega)
        have hb := s[k].toNat_lt
        unfold plainB at hp
        go_wp2_with (go_at_call 62; refine (plain_any _ _ hb).mono ?_; rintro e w2 ⟨rfl, rfl⟩; rw [hp])
        go_round
        case rel => exact ⟨k + 1, by omega, by go_num⟩
        case measure => simp [intOf]; omega
end Go.Proofs.Ytejikjpaclnncaa
