/-
  Contracts of line.Make and of the reference's Make: a version, or none. Conditions: texts of at most 1,000,000 bytes.
-/
import Derived.Test.YtjaipdenahlheaaDoorKCfA
set_option linter.unusedVariables false
set_option linter.unusedSimpArgs false
namespace Go.Proofs.YtjaipdenahlheaaDoor
open Go.RowKit Go.ChangeShapes Go.WideShapes Go.Sort
def sshA : ByteArray := ⟨#[83, 83, 72, 45, 50, 46, 48, 45]⟩
theorem verL_none (cm : List UInt8) : verL [] cm = [] := by unfold verL; rw [if_pos (.inl rfl)]
theorem verL_blank {sw cm : List UInt8} (h : blankL sw = true) : verL sw cm = [] := by unfold verL; rw [if_pos (.inr h)]
theorem verL_of {sw cm : List UInt8} (h0 : sw ≠ []) (h : blankL sw = false) : verL sw cm = if lineL (sshB ++ sw ++ cmtL cm) = true then sshB ++ sw ++ cmtL cm else [] := by
  unfold verL
  rw [if_neg (by rw [h]; rintro (e | e); exact h0 e; cases e)]
/-- Its number: 1 where there is none. -/
def verE (sw cm : List UInt8) : Int := if verL sw cm = [] then 1 else 0
theorem ver_data1 (s : ByteArray) : (sshA ++ s).data.toList = sshB ++ s.data.toList ++ cmtL [] := by
  rw [data_append, List.append_assoc]
  unfold cmtL
  rw [if_pos rfl, List.append_nil]
  rfl
theorem ver_data2 {s t : ByteArray} (h : t ≠ ⟨#[]⟩) : (sshA ++ s ++ ((⟨#[32]⟩ : ByteArray) ++ t)).data.toList = sshB ++ s.data.toList ++ cmtL t.data.toList := by
  rw [data_append, data_append, data_append]
  unfold cmtL
  rw [if_neg (fun e => h (toList_inj e))]
  rfl
section
variable {w : World}
theorem lplain_any (n : Nat) (w : World) (hn : n < 256) : Calls Tryd.prog 65 #[.int .u8 n] w fun e w' => e = .returned (.bool (decide (32 ≤ n) && decide (n ≤ 126))) ∧ w' = w := by
  go_enter Tryd.func65, Tryd.ntmps65
  go_wp2
  all_goals (go_ret; refine ⟨ret_bool ?_, rfl⟩; (first | (simp_all; done) | (simp_all; omega) | (rw [Bool.eq_iff_iff]; simp_all; done) | (rw [Bool.eq_iff_iff]; simp_all; omega)))
set_option maxHeartbeats 1000000 in
theorem lall_any (s : ByteArray) (hs : s.size ≤ 9223372036854775807) (w : World) : Calls Tryd.prog 60 #[.string s] w (fun e w' => e = .returned (.bool (lineL s.data.toList)) ∧ w' = w) := by
  have hl2 : s.data.toList.length = s.size := rfl
  go_enter Tryd.func60, Tryd.ntmps60
  go_wp2_with fail
  go_loop [6] (fun i => ∃ k : Nat, k ≤ s.size ∧ i = .int .i64 k ∧ Hid (∀ c ∈ s.data.toList.take k, 32 ≤ c.toNat ∧ c.toNat ≤ 126)) (fun i => s.size - (intOf i).toNat)
  case atStart => exact ⟨0, Nat.zero_le _, rfl, hide (by simp)⟩
  case round =>
    obtain ⟨k, hk, rfl, H⟩ := hrel
    by_cases hlt : k < s.size
    · have HP := hide (lplain_any s[k].toNat w (by have := s[k].toNat_lt; omega))
      by_cases h1 : 32 ≤ s[k].toNat ∧ s[k].toNat ≤ 126
      · rw [decide_eq_true h1.1, decide_eq_true h1.2, Bool.and_self] at HP
        have H2 := hide (all_take hlt H.out h1)
        clear H h1
        go_wp2_with (go_at_call 65; refine HP.out.mono ?_; rintro e w1 ⟨rfl, rfl⟩)
        go_round
        case rel => exact ⟨k + 1, hlt, by go_num, H2⟩
        case measure => simp [intOf]; omega
      · have h2 : s[k].toNat < 32 ∨ 126 < s[k].toNat := by omega
        have h3 : (decide (32 ≤ s[k].toNat) && decide (s[k].toNat ≤ 126)) = false := by
          rw [Bool.and_eq_false_iff, decide_eq_false_iff_not, decide_eq_false_iff_not]; omega
        rw [h3] at HP
        have E := hide (show lineL s.data.toList = false from by unfold lineL; rw [betw_no (mem_toList hlt) h2]; rfl)
        clear h1 h2 h3 H
        go_wp2_with (go_at_call 65; refine HP.out.mono ?_; rintro e w1 ⟨rfl, rfl⟩)
        go_ret
        exact ⟨by rw [E.out]; rfl, rfl⟩
    · have E := hide (betw_yes (all_full hlt H.out))
      clear H
      by_cases h64 : s.size ≤ 253
      · have h64' : (s.size : Int) ≤ 253 := by omega
        go_wp2_with fail
        go_ret
        refine ⟨?_, rfl⟩
        unfold lineL
        rw [E.out, hl2, decide_eq_true h64]
        rfl
      · have h64' : ¬ (s.size : Int) ≤ 253 := by omega
        go_wp2_with fail
        go_ret
        refine ⟨?_, rfl⟩
        unfold lineL
        rw [E.out, hl2, decide_eq_false h64]
        rfl
theorem verE_no {L D : List UInt8} (h : verL L D = []) : verE L D = 1 := by unfold verE; rw [if_pos h]
theorem verE_yes {L D : List UInt8} {x : List UInt8} (_h : verL L D = x) (h2 : verL L D ≠ []) : verE L D = 0 := by unfold verE; rw [if_neg h2]
theorem ver_ne {S : ByteArray} (h : 8 ≤ S.size) : S.data.toList ≠ [] := fun e => by
  have h2 := congrArg List.length e
  have h3 : S.data.toList.length = S.size := rfl
  simp only [List.length_nil] at h2
  omega
theorem contains_blank (l : List UInt8) : decide (0 ≤ Lib.indexByte l 32) = blankL l := contains_byte l 32
set_option maxHeartbeats 2000000 in
theorem lmake_any {sw cm : ByteArray} (h1 : sw.size ≤ 1000000) (h2 : cm.size ≤ 1000000) (w : World) : Calls Tryd.prog 54 #[.string sw, .string cm] w (fun e w' => e = .returned (.tuple #[.string (bs (verL sw.data.toList cm.data.toList)), .int .i64 (verE sw.data.toList cm.data.toList)]) ∧ w' = w) := by
  have hsz : (sshA ++ sw).size ≤ 9223372036854775807 := by rw [ByteArray.size_append]; have : sshA.size = 8 := rfl; omega
  have hsz2 : (sshA ++ sw ++ ((⟨#[32]⟩ : ByteArray) ++ cm)).size ≤ 9223372036854775807 := by rw [ByteArray.size_append, ByteArray.size_append, ByteArray.size_append]; have : sshA.size = 8 := rfl; have : (⟨#[32]⟩ : ByteArray).size = 1 := rfl; omega
  obtain ⟨L, hL⟩ : ∃ L, sw.data.toList = L := ⟨_, rfl⟩
  obtain ⟨D, hD⟩ : ∃ D, cm.data.toList = D := ⟨_, rfl⟩
  rw [hL, hD]
  by_cases h0 : sw = ⟨#[]⟩
  · subst h0
    have E := hide (show verL L D = [] from by rw [← hL]; exact verL_none D)
    have E2 := hide (show verE L D = 1 from verE_no E.out)
    have hq1 : 8 + (⟨#[]⟩ : ByteArray).size ≤ 9223372036854775807 := by omega
    have hq2 : 1 + cm.size ≤ 9223372036854775807 := by omega
    have hq3 : 8 + (⟨#[]⟩ : ByteArray).size + (1 + cm.size) ≤ 9223372036854775807 := by omega
    clear hsz hsz2 hL hD h1 h2
    go_enter Tryd.func54, Tryd.ntmps54
    go_wp2_with (first | fail | fail)
    go_ret2
    exact ⟨by rw [E2.out, E.out]; rfl, rfl⟩
  · have hne := bytes_ne h0
    have hne2 := bytes_some h0
    have hn0 : L ≠ [] := fun e => h0 (toList_inj (hL.trans e))
    have HC := hide (fun W => Tryd.strings_Contains_one sw 32 W)
    rw [contains_blank, hL] at HC
    cases hb : blankL L with
    | true =>
      have E := hide (verL_blank (cm := D) hb)
      rw [hb] at HC
      clear hb hn0
      have E2 := hide (show verE L D = 1 from verE_no E.out)
      have hq1 : 8 + sw.size ≤ 9223372036854775807 := by omega
      have hq2 : 1 + cm.size ≤ 9223372036854775807 := by omega
      have hq3 : 8 + sw.size + (1 + cm.size) ≤ 9223372036854775807 := by omega
      clear hsz hsz2 hL hD h1 h2
      go_enter Tryd.func54, Tryd.ntmps54
      go_wp2_with (first | (go_at_call 59; refine (HC.out _).mono ?_; rintro e w1 ⟨rfl, rfl⟩) | fail)
      go_ret2
      exact ⟨by rw [E2.out, E.out]; rfl, rfl⟩
    | false =>
      have HV := hide (verL_of (cm := D) hn0 hb)
      rw [hb] at HC
      clear hb hn0
      by_cases hc : cm = ⟨#[]⟩
      · subst hc
        have HD := hide (show (sshA ++ sw).data.toList = sshB ++ L ++ cmtL D from by rw [← hL, ← hD]; exact ver_data1 sw)
        have hsS : (sshA ++ sw).data.toList.length = (sshA ++ sw).size := rfl
        have HP := hide (lall_any (sshA ++ sw) hsz w)
        cases hLL : lineL (sshA ++ sw).data.toList with
        | false =>
          rw [hLL] at HP
          unfold sshA at HP
          have E := hide (show verL L D = [] from by rw [HV.out, ← HD.out, if_neg (by rw [hLL]; decide)])
          have E2 := hide (show verE L D = 1 from verE_no E.out)
          clear HV HD hLL hsS
          have hq1 : 8 + sw.size ≤ 9223372036854775807 := by omega
          have hq2 : 1 + (⟨#[]⟩ : ByteArray).size ≤ 9223372036854775807 := by omega
          have hq3 : 8 + sw.size + (1 + (⟨#[]⟩ : ByteArray).size) ≤ 9223372036854775807 := by omega
          clear hsz hsz2 hL hD h1 h2
          go_enter Tryd.func54, Tryd.ntmps54
          go_wp2_with (first | (go_at_call 59; refine (HC.out _).mono ?_; rintro e w1 ⟨rfl, rfl⟩) | (go_at_call 60; refine HP.out.mono ?_; rintro e w2 ⟨rfl, rfl⟩) | fail)
          go_ret2
          exact ⟨by rw [E2.out, E.out]; rfl, rfl⟩
        | true =>
          rw [hLL] at HP
          unfold sshA at HP
          have E := hide (show verL L D = (sshA ++ sw).data.toList from by rw [HV.out, ← HD.out, if_pos hLL])
          have hne8 : verL L D ≠ [] := by rw [E.out]; exact ver_ne (by rw [ByteArray.size_append]; have : sshA.size = 8 := rfl; omega)
          have E2 := hide (show verE L D = 0 from verE_yes E.out hne8)
          clear HV HD hLL hsS hne8
          have hq1 : 8 + sw.size ≤ 9223372036854775807 := by omega
          have hq2 : 1 + (⟨#[]⟩ : ByteArray).size ≤ 9223372036854775807 := by omega
          have hq3 : 8 + sw.size + (1 + (⟨#[]⟩ : ByteArray).size) ≤ 9223372036854775807 := by omega
          clear hsz hsz2 hL hD h1 h2
          go_enter Tryd.func54, Tryd.ntmps54
          go_wp2_with (first | (go_at_call 59; refine (HC.out _).mono ?_; rintro e w1 ⟨rfl, rfl⟩) | (go_at_call 60; refine HP.out.mono ?_; rintro e w2 ⟨rfl, rfl⟩) | fail)
          go_ret2
          exact ⟨by rw [E2.out, E.out]; rfl, rfl⟩
      · have hcn := bytes_ne hc
        have hcn2 := bytes_some hc
        have HD := hide (show (sshA ++ sw ++ ((⟨#[32]⟩ : ByteArray) ++ cm)).data.toList = sshB ++ L ++ cmtL D from by rw [← hL, ← hD]; exact ver_data2 hc)
        have hsS : (sshA ++ sw ++ ((⟨#[32]⟩ : ByteArray) ++ cm)).data.toList.length = (sshA ++ sw ++ ((⟨#[32]⟩ : ByteArray) ++ cm)).size := rfl
        have HP := hide (lall_any (sshA ++ sw ++ ((⟨#[32]⟩ : ByteArray) ++ cm)) hsz2 w)
        cases hLL : lineL (sshA ++ sw ++ ((⟨#[32]⟩ : ByteArray) ++ cm)).data.toList with
        | false =>
          rw [hLL] at HP
          unfold sshA at HP
          have E := hide (show verL L D = [] from by rw [HV.out, ← HD.out, if_neg (by rw [hLL]; decide)])
          have E2 := hide (show verE L D = 1 from verE_no E.out)
          clear HV HD hLL hsS
          have hq1 : 8 + sw.size ≤ 9223372036854775807 := by omega
          have hq2 : 1 + cm.size ≤ 9223372036854775807 := by omega
          have hq3 : 8 + sw.size + (1 + cm.size) ≤ 9223372036854775807 := by omega
          clear hsz hsz2 hL hD h1 h2
          go_enter Tryd.func54, Tryd.ntmps54
          go_wp2_with (first | (go_at_call 59; refine (HC.out _).mono ?_; rintro e w1 ⟨rfl, rfl⟩) | (go_at_call 60; refine HP.out.mono ?_; rintro e w2 ⟨rfl, rfl⟩) | fail)
          go_ret2
          exact ⟨by rw [E2.out, E.out]; rfl, rfl⟩
        | true =>
          rw [hLL] at HP
          unfold sshA at HP
          have E := hide (show verL L D = (sshA ++ sw ++ ((⟨#[32]⟩ : ByteArray) ++ cm)).data.toList from by rw [HV.out, ← HD.out, if_pos hLL])
          have hne8 : verL L D ≠ [] := by rw [E.out]; exact ver_ne (by rw [ByteArray.size_append, ByteArray.size_append, ByteArray.size_append]; have : sshA.size = 8 := rfl; omega)
          have E2 := hide (show verE L D = 0 from verE_yes E.out hne8)
          clear HV HD hLL hsS hne8
          have hq1 : 8 + sw.size ≤ 9223372036854775807 := by omega
          have hq2 : 1 + cm.size ≤ 9223372036854775807 := by omega
          have hq3 : 8 + sw.size + (1 + cm.size) ≤ 9223372036854775807 := by omega
          clear hsz hsz2 hL hD h1 h2
          go_enter Tryd.func54, Tryd.ntmps54
          go_wp2_with (first | (go_at_call 59; refine (HC.out _).mono ?_; rintro e w1 ⟨rfl, rfl⟩) | (go_at_call 60; refine HP.out.mono ?_; rintro e w2 ⟨rfl, rfl⟩) | fail)
          go_ret2
          exact ⟨by rw [E2.out, E.out]; rfl, rfl⟩
end
end Go.Proofs.YtjaipdenahlheaaDoor
