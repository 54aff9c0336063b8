/-
  The names ahead of a list's first mark: the contract of the reference's plain. Conditions: lists that fit.
-/
import Derived.Test.YtjaipdenahlheaaGreatDoorKxPG
set_option linter.unusedVariables false
set_option linter.unusedSimpArgs false
namespace Go.Proofs.YtjaipdenahlheaaGreatDoor
open Go.RowKit Go.ChangeShapes Go.WideShapes Go.Sort
theorem txs_single {w : World} {p : Addr} {x : List UInt8} (h : w.cell? p = some (.string (bs x))) (c : Nat) : Txs w (.slice (some p) 1 c) [x] := by
  refine ⟨some p, c, rfl, rfl, fun _ => ⟨p, rfl, Nat.zero_le _, World.block_lt_of_cell? w _ h, fun j u hu => ?_⟩⟩
  cases j with
  | zero =>
    obtain ⟨pb, po, ps⟩ := p
    simp only [List.map_cons, List.map_nil, List.getElem?_cons_zero, Option.some.injEq] at hu
    subst hu
    exact h
  | succ j => simp at hu
theorem marked_single (x : List UInt8) : markedL [x] = isMark x := by
  unfold markedL isMark
  simp only [List.mem_singleton]
theorem plainM_at {l : List (List UInt8)} {i : Nat} (hi : i < l.length) (h : ∀ x ∈ l.take i, isMark x = false) (hm : isMark l[i] = true) : (plainM l).length = i := by
  have e : l = l.take i ++ l[i] :: l.drop (i + 1) := by
    rw [← List.drop_eq_getElem_cons hi, List.take_append_drop]
  have h2 : plainM l = l.take i := by
    unfold plainM
    conv => lhs; rw [e]
    rw [List.takeWhile_append_of_pos (fun x hx => by rw [h x hx]; rfl), List.takeWhile_cons, hm]
    simp
  rw [h2, List.length_take]
  omega
theorem plainM_all {l : List (List UInt8)} (h : ∀ x ∈ l, isMark x = false) : plainM l = l := by
  unfold plainM
  have := List.takeWhile_append_of_pos (p := fun x => !isMark x) (l₁ := l) (l₂ := []) (fun x hx => by rw [h x hx]; rfl)
  simpa using this
section
variable {w : World} {A : Option Addr} {c : Nat} {ls : List (List UInt8)}
set_option maxHeartbeats 2000000 in
theorem rplain16_any (h : Txs w (.slice A ls.length c) ls) (hc : ls.length ≤ c) (hll : ls.length ≤ 1000000) : Calls Tryz.prog 56 #[.slice A ls.length c] w (fun e w' => e = .returned (.slice A (plainM ls).length c) ∧ w' = w) := by
  obtain ⟨A', c', hv, hA⟩ := h.open_
  obtain ⟨rfl, rfl⟩ : A' = A ∧ c' = c := by injection hv with e1 _ e2; exact ⟨e1.symm, e2.symm⟩
  clear hv h
  generalize hz : (plainM ls).length = z
  have Hz := hide hz
  clear hz
  go_enter Tryz.func56, Tryz.ntmps56
  go_wp2_with fail
  go_loop [3] (fun i => ∃ k : Nat, k ≤ ls.length ∧ i = .int .i64 k ∧ Hid (∀ x ∈ ls.take k, isMark x = false)) (fun i => ls.length - (intOf i).toNat)
  case atStart => exact ⟨0, Nat.zero_le _, rfl, hide (by simp)⟩
  case round =>
    obtain ⟨k, hk, rfl, H⟩ := hrel
    by_cases hlt : k < ls.length
    · have hkI : (k : Int) < ls.length := by omega
      obtain ⟨ad, rfl, had, hcl⟩ := hA k hlt
      have hkc : k + 1 ≤ c' := by omega
      have hw1 : IntKind.i64.wrap ((k : Int) + 1) = ((k + 1 : Nat) : Int) := by rw [wrap_small _ (by omega) (by omega)]; omega
      have HM := hide (rmarked_any (ls := [ls[k]]) (A := some (ad.add k)) (c := c' - k) (txs_single hcl _) (by simp))
      rw [marked_single, show ([ls[k]] : List (List UInt8)).length = 1 from rfl] at HM
      by_cases hm : isMark ls[k] = true
      · have HY := hide (show z = k from by rw [← Hz.out]; exact plainM_at hlt H.out hm)
        rw [hm] at HM
        clear hm H hA hcl
        go_wp2_with (first | (go_at_call 45; refine HM.out.mono ?_; rintro e w1 ⟨rfl, rfl⟩) | fail)
        go_ret
        exact ⟨by rw [HY.out]; rfl, rfl⟩
      · have hm2 : isMark ls[k] = false := by simpa using hm
        rw [hm2] at HM
        have HN := hide (show ∀ x ∈ ls.take (k + 1), isMark x = false from by
          intro x hx
          rw [List.take_succ_eq_append_getElem hlt] at hx
          rcases List.mem_append.1 hx with hx | hx
          · exact H.out x hx
          · simp only [List.mem_singleton] at hx
            subst hx
            exact hm2)
        clear hm hm2 H hA hcl
        go_wp2_with (first | (go_at_call 45; refine HM.out.mono ?_; rintro e w1 ⟨rfl, rfl⟩) | fail)
        go_round
        case rel => exact ⟨k + 1, hlt, by go_num, HN⟩
        case measure => simp [intOf]; omega
    · have hkI : ¬ (k : Int) < ls.length := by omega
      have HN := hide (show z = ls.length from by rw [← Hz.out, plainM_all (fun x hx => H.out x (by rw [List.take_of_length_le (by omega)]; exact hx))])
      clear H hA
      go_wp2_with fail
      go_ret
      exact ⟨by rw [HN.out]; rfl, rfl⟩
end
end Go.Proofs.YtjaipdenahlheaaGreatDoor
