/-
  The contracts of the reference for package schema: Of, Fit, Class. Conditions: none.
-/
import Derived.Test.YtcjafkanckcfbaaGreatDoorRef06
set_option linter.unusedVariables false
set_option linter.unusedSimpArgs false
namespace Go.Proofs.YtcjafkanckcfbaaGreatDoor
open Go.RowKit

def rowOf (n : Int) : Int × ByteArray × List ByteArray := (table.find? (fun r => r.1 == n)).getD (0, ⟨#[]⟩, [])
set_option maxHeartbeats 400000 in
theorem of_any (n : Int) (w : World) : Calls Tryz.prog 32 #[.int .i64 n] w fun e w' => ∃ fv, e = .returned (.agg #[.int .i64 (rowOf n).1, .string (rowOf n).2.1, fv]) ∧ Strs w.heap.size w' fv (rowOf n).2.2 ∧ Below w.heap.size w w' := by
  have hl : table.length = 19 := rfl
  have Hl := hide hl
  clear hl
  go_enter Tryz.func32, Tryz.ntmps32
  go_wp2_with (go_at_call 68; refine (table_any _).mono ?_; rintro e w1 ⟨v, rfl, ⟨A, c, rfl, hr⟩, hb⟩; rw [Hl.out])
  obtain ⟨hbc, hbf⟩ := bcell hb
  have hbz := hb.size
  simp only [World.size_alloc] at hbz hr
  have hb0 : Below w.heap.size w w1 := ((Below.refl _ _).alloc (Nat.le_refl _) _).trans (hb.mono (by simp))
  go_loop [4] (fun i => ∃ k : Nat, k ≤ 19 ∧ i = .int .i64 k ∧ ∀ j (h : j < table.length), j < k → table[j].1 ≠ n) (fun i => 19 - (intOf i).toNat)
  case atStart => exact ⟨0, Nat.zero_le _, rfl, by simp⟩
  case round =>
    obtain ⟨k, hk, rfl, hno⟩ := hrel
    by_cases hlt : k < 19
    · obtain ⟨ad, fv, rfl, _, hlo, h1, h2, h3, hs⟩ := hr k (by rw [Hl.out]; exact hlt)
      generalize hk' : table[k]'(by rw [Hl.out]; exact hlt) = r at h1 h2 h3 hs
      have h2' := cell_off (j := 0) h2
      have h3' := cell_off (j := 1) h3
      by_cases hm : r.1 = n
      · have hro : rowOf n = r := by
          have : table.find? (fun r => r.1 == n) = some r := by
            rw [List.find?_eq_some_iff_getElem]
            exact ⟨by simpa using hm, k, by rw [Hl.out]; exact hlt, hk', fun j hj => by simpa using hno j _ hj⟩
          simp [rowOf, this]
        have Hro := hide hro
        have Hk := hide hk'
        clear hro hk' hno
        obtain ⟨A', c', rfl, hr'⟩ := hs
        go_wp2
        refine bodyPost_ret (v := .agg #[.int .i64 n, .string r.2.1, .slice A' r.2.2.length c']) (by simp [results, Tryz.results32, go_sem, hbc]) rfl ⟨.slice A' r.2.2.length c', ?_, ?_, ?_⟩
        · rw [Hro.out, hm]
        · rw [Hro.out]
          exact ⟨_, _, rfl, (((hr'.setCell (Nat.lt_succ_self _) _).setCell (Nat.lt_succ_self _) _).setCell (Nat.lt_succ_self _) _).mono (Nat.le_succ _)⟩
        · exact (((hb0.setCell (Nat.le_refl _) _).setCell (Nat.le_refl _) _).setCell (Nat.le_refl _) _)
      · have hno' : ∀ j (h : j < table.length), j < k + 1 → table[j].1 ≠ n := by
          intro j h hj
          by_cases hjk : j = k
          · subst hjk
            rw [hk']
            exact hm
          · exact hno j h (by omega)
        have Hno := hide hno'
        clear hk' hno hno'
        go_wp2
        go_round
        case rel => exact ⟨k + 1, hlt, by go_num, Hno.out⟩
        case measure => simp [intOf]; omega
    · have hro : rowOf n = (0, ⟨#[]⟩, []) := by
        have : table.find? (fun r => r.1 == n) = none := by
          rw [List.find?_eq_none]
          intro s hs
          obtain ⟨j, hj, rfl⟩ := List.getElem_of_mem hs
          have h19 := Hl.out
          simpa using hno j hj (by omega)
        simp [rowOf, this]
      have Hro := hide hro
      clear hro hno
      go_wp2
      refine bodyPost_ret (v := .agg #[.int .i64 0, .string ⟨#[]⟩, .slice none 0 0]) (by simp [results, Tryz.results32, go_sem, hbc]) rfl ⟨.slice none 0 0, ?_, ?_, ?_⟩
      · rw [Hro.out]
      · rw [Hro.out]
        exact ⟨none, 0, rfl, Sl.nil_⟩
      · exact (((hb0.setCell (Nat.le_refl _) _).setCell (Nat.le_refl _) _).setCell (Nat.le_refl _) _)
end Go.Proofs.YtcjafkanckcfbaaGreatDoor
