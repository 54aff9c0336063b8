/-
  The contract of the reference's Scan. Conditions: texts of up to a million bytes.
-/
import Derived.Test.YtejikjpaclnncaaLine
namespace Go.Proofs.Ytejikjpaclnncaa
open Go.RowKit

theorem begins_any (s t : ByteArray) (w : World) (_hs : s.size ≤ 9223372036854775807) (_ht : t.size ≤ 9223372036854775807) : Calls Try.prog 63 #[.string s, .string t] w fun e w' => e = .returned (.bool (decide (s.data.toList.take t.size = t.data.toList))) ∧ w = w' := by
  have hsz : s.data.toList.length = s.size := rfl
  have htz : t.data.toList.length = t.size := rfl
  by_cases h : t.size ≤ s.size
  · have he : ((s.extract 0 t.size).toList == t.toList) = decide (s.data.toList.take t.size = t.data.toList) := by
      rw [ByteArray.toList_eq, ByteArray.toList_eq, Lib.extract_data, List.drop_zero, Nat.sub_zero]
      by_cases e : s.data.toList.take t.size = t.data.toList <;> simp [e]
    have He := hide he
    clear he hsz htz
    go_enter Try.func63, Try.ntmps63
    go_wp2
    go_ret
    exact ⟨ret_bool He.out, rfl⟩
  · have he : ¬ s.data.toList.take t.size = t.data.toList := by
      intro e
      have := congrArg List.length e
      rw [List.length_take, hsz, htz] at this
      omega
    have He := hide he
    clear he hsz htz
    go_enter Try.func63, Try.ntmps63
    go_wp2
    go_ret
    exact ⟨ret_bool (by simp [He.out]), rfl⟩
theorem crlf_any (s : ByteArray) (w : World) (hs : s.size ≤ 9223372036854775807) : Calls Try.prog 63 #[.string s, .string ⟨#[13, 10]⟩] w fun e w' => e = .returned (.bool (decide (s.data.toList.take 2 = [13, 10]))) ∧ w = w' :=
  begins_any s ⟨#[13, 10]⟩ w hs (by decide)
theorem c_empty {t : ByteArray} (h : t.toList.isEmpty = true) : t.data.toList = [] := by rw [bytes_isE h]
theorem n_empty {t : ByteArray} (h : t.toList.isEmpty = false) : ¬ t.data.toList = [] := by
  intro e
  rw [ByteArray.toList_eq, e] at h
  cases h
theorem c_cr {t : ByteArray} (h : (t.toList == [13]) = true) : t.data.toList = [13] := by
  rw [ByteArray.toList_eq] at h
  exact eq_of_beq h
theorem n_cr {t : ByteArray} (h : (t.toList == [13]) = false) : ¬ t.data.toList = [13] := by
  rw [ByteArray.toList_eq] at h
  exact ne_of_beq_false h
theorem scanR_eq (l : List UInt8) (n : Nat) (t : List UInt8) : scanR l n t = if t = [] ∨ t = [13] then ([], 0, 4) else if t.take 2 = [13, 10] then (l.take n, (n : Int) + 2, 0) else ([], 0, 11) := by
  match t with
  | [] => rfl
  | [c] =>
    rw [scanR]
    by_cases h : c = 13
    · rw [if_pos h, if_pos (by rw [h]; exact .inr rfl)]
    · rw [if_neg h, if_neg (by simp [h]), if_neg (by simp)]
  | c :: d :: t =>
    rw [scanR, if_neg (show ¬ (c :: d :: t = [] ∨ c :: d :: t = [13]) by simp)]
    by_cases h : c = 13 ∧ d = 10
    · rw [if_pos h, if_pos (by rw [h.1, h.2]; rfl)]
    · rw [if_neg h, if_neg (by simpa using h)]
set_option maxHeartbeats 2000000 in
theorem rScan_any (s : ByteArray) (w : World) (hs : s.size ≤ 1000000) : Calls Try.prog 49 #[.string s] w fun e w' => ∃ r, e = .returned (.tuple #[.string r, .int .i64 (scanF s.data.toList).2.1, .int .i64 (scanF s.data.toList).2.2]) ∧ r.data.toList = (scanF s.data.toList).1 ∧ w = w' := by
  have hsz : s.data.toList.length = s.size := rfl
  have hNle := plains_le s.data.toList
  have hat : ∀ j (h : j < s.size), j < plains s.data.toList → plainB s[j] = true := fun j h hj => plains_at s.data.toList hj h
  have hend : ∀ (h : plains s.data.toList < s.size), plainB s[plains s.data.toList] = false := fun h => plains_end s.data.toList h
  have h1 := scanF_1 (l := s.data.toList)
  have h2 := scanF_2 (l := s.data.toList)
  generalize hN : plains s.data.toList = N at hNle hat hend h1 h2
  rw [hsz] at hNle
  have H1 := hide h1
  have H2 := hide h2
  have Hat := hide hat
  have Hend := hide hend
  clear hat hend hN h1 h2
  go_enter Try.func49, Try.ntmps49
  go_wp2
  go_loop [5] (fun i => ∃ k : Nat, k ≤ N ∧ i = .int .i64 k) (fun i => N - (intOf i).toNat)
  case atStart => exact ⟨0, Nat.zero_le _, rfl⟩
  case round =>
    obtain ⟨k, hk, rfl⟩ := hrel
    by_cases hlt : k < N
    · have hks : k < s.size := by omega
      have hp := Hat.out k hks hlt
      unfold plainB at hp
      simp only [Bool.and_eq_true, decide_eq_true_eq] at hp
      obtain ⟨hp1, hp2⟩ := hp
      go_wp2
      go_round
      case rel => exact ⟨k + 1, by omega, by go_num⟩
      case measure => simp [intOf]; omega
    · obtain rfl : k = N := by omega
      have HT := hide (show (s.extract k s.size).data.toList = s.data.toList.drop k by
        rw [Lib.extract_data, List.take_of_length_le (by rw [List.length_drop, hsz]; exact Nat.le_refl _)])
      have htz : (s.extract k s.size).size ≤ 1000000 := by
        have h := size_le_of HT.out
        rw [List.length_drop, hsz] at h
        omega
      have hend := Hend.out
      have Hpl := hide (show ∀ h : k < s.size, ¬ (32 ≤ (s[k].toNat : Int) ∧ (s[k].toNat : Int) ≤ 126) by
        intro h g
        have hp := hend h
        unfold plainB at hp
        simp at hp
        omega)
      clear hend
      by_cases hks : k < s.size
      all_goals
        go_wp2_with (go_at_call 63; refine (crlf_any _ _ (by omega)).mono ?_; rintro e w2 ⟨rfl, rfl⟩; generalize hb : decide ((s.extract k s.size).data.toList.take 2 = [13, 10]) = b; have Hb := hide hb; clear hb)
        all_goals first
          | (exfalso; exact Hpl.out hks ⟨by assumption, by assumption⟩)
          | (have f := H1.out (by omega)
             go_ret3
             exact ⟨⟨#[]⟩, by rw [f]; rfl, by rw [f], rfl⟩)
          | (have g := c_empty (t := s.extract k s.size) (by assumption)
             have f := H2.out (by omega)
             rw [← HT.out, scanR_eq, if_pos (Or.inl g)] at f
             go_ret3
             exact ⟨⟨#[]⟩, by rw [f]; rfl, by rw [f], rfl⟩)
          | (have g := c_cr (t := s.extract k s.size) (by assumption)
             have f := H2.out (by omega)
             rw [← HT.out, scanR_eq, if_pos (Or.inr g)] at f
             go_ret3
             exact ⟨⟨#[]⟩, by rw [f]; rfl, by rw [f], rfl⟩)
          | (have g0 : (!b) = false := by assumption
             have g : (s.extract k s.size).data.toList.take 2 = [13, 10] := of_decide_eq_true (Hb.out.trans (by simpa using g0))
             have g1 := n_empty (t := s.extract k s.size) (by assumption)
             have g2 := n_cr (t := s.extract k s.size) (by assumption)
             have f := H2.out (by omega)
             rw [← HT.out, scanR_eq, if_neg (fun h => h.elim g1 g2), if_pos g] at f
             go_ret3
             refine ⟨_, by rw [f]; rfl, ?_, rfl⟩
             rw [f, Lib.extract_data]
             simp)
          | (have g0 : (!b) = true := by assumption
             have g : ¬ (s.extract k s.size).data.toList.take 2 = [13, 10] := of_decide_eq_false (Hb.out.trans (by simpa using g0))
             have g1 := n_empty (t := s.extract k s.size) (by assumption)
             have g2 := n_cr (t := s.extract k s.size) (by assumption)
             have f := H2.out (by omega)
             rw [← HT.out, scanR_eq, if_neg (fun h => h.elim g1 g2), if_neg g] at f
             go_ret3
             exact ⟨⟨#[]⟩, by rw [f]; rfl, by rw [f], rfl⟩)
end Go.Proofs.Ytejikjpaclnncaa
