/-
  The contracts of law07's Wrong and of law04's and law07's Same where they agree. Conditions: up to three places of up to 1,000 bytes; texts that fit; the library's handle is as it was laid.
-/
import Derived.Test.YtdhopoafpddjpaaDoorChn
import Derived.Test.YtdhopoafpddjpaaDoorMsgM
set_option linter.unusedVariables false
set_option linter.unusedSimpArgs false
namespace Go.Proofs.YtdhopoafpddjpaaDoor
open Go.RowKit
/-- Places with a blank behind each. -/
def atL (ps : List (List UInt8)) : List UInt8 := (ps.map (· ++ [32])).flatten
theorem atL_succ {ps : List (List UInt8)} {i : Nat} (h : i < ps.length) : atL (ps.take (i + 1)) = atL (ps.take i) ++ ps[i] ++ [32] := by
  unfold atL
  rw [List.take_succ_eq_append_getElem h, List.map_append, List.flatten_append, List.map_singleton, List.flatten_singleton, List.append_assoc]
theorem atL_len {ps : List (List UInt8)} (h : ∀ p ∈ ps, p.length ≤ 1000) : (atL ps).length ≤ ps.length * 1001 := by
  unfold atL
  induction ps with
  | nil => simp
  | cons x l ih =>
    have h1 := h x (by simp)
    have h2 := ih (fun y hy => h y (by simp [hy]))
    simp only [List.map_cons, List.flatten_cons, List.length_append, List.length_cons, List.length_nil]
    omega
section
variable {w : World}
set_option maxRecDepth 100000 in
set_option maxHeartbeats 2000000 in
theorem lsame_true {ls : List (List UInt8)} {A1 A2 : Option Addr} {c1 c2 : Nat} (h1 : Txs w (.slice A1 ls.length c1) ls) (h2 : Txs w (.slice A2 ls.length c2) ls) (hl : ls.length ≤ 9223372036854775807) :
    Calls Tryd.prog 9 #[.slice A1 ls.length c1, .slice A2 ls.length c2] w (fun e w' => e = .returned (.bool true) ∧ Below w.heap.size w w') := by
  have H1 := hide h1
  have H2 := hide h2
  have e0 : ((ls.length : Int) == ls.length) = true := beq_self_eq_true _
  clear h1 h2
  go_enter Tryd.func9, Tryd.ntmps9
  go_wp2_with fail
  clear e0
  go_loopw [5] (fun vi wr => ∃ i : Nat, vi = .int .i64 i ∧ i ≤ ls.length ∧ Hid (Below w.heap.size w wr)) (fun vi _ => ls.length - (intOf vi).toNat)
  case atStart => exact ⟨0, rfl, Nat.zero_le _, hide (Below.refl _ _)⟩
  case round =>
    obtain ⟨i, rfl, hi, hb⟩ := hrel
    by_cases hlt : i < ls.length
    · obtain ⟨A', c', hv, hA⟩ := (H1.out.below hb.out).open_
      obtain ⟨rfl, rfl⟩ : A' = A1 ∧ c' = c1 := by injection hv with e1 _ e2; exact ⟨e1.symm, e2.symm⟩
      obtain ⟨A'', c'', hv2, hB⟩ := (H2.out.below hb.out).open_
      obtain ⟨rfl, rfl⟩ : A'' = A2 ∧ c'' = c2 := by injection hv2 with e1 _ e2; exact ⟨e1.symm, e2.symm⟩
      obtain ⟨a1, rfl, _, hc1⟩ := hA i hlt
      obtain ⟨a2, rfl, _, hc2⟩ := hB i hlt
      have hii : (i : Int) < ls.length := by omega
      generalize ls[i] = y at hc1 hc2
      have e1 : ((bs y).toList == (bs y).toList) = true := beq_self_eq_true _
      clear hA hB hv hv2 H1 H2
      go_upto_region 6 with fail
      go_cut [25] (fun v wx => v = .bool false ∧ ∃ n, wx = wr.drewN n)
      case first =>
        as_aux_lemma =>
          go_quiet (fail)
          go_wp2_with fail
          go_meet
          exact ⟨rfl, _, rfl⟩
      case rest =>
        obtain ⟨wx, rfl⟩ : ∃ wx : World, wx = wc := ⟨wc, rfl⟩
        obtain ⟨rfl, n, rfl⟩ := hcut
        clear hc1 hc2 e1
        go_wp2_with fail
        exact ⟨⟨i + 1, by go_num, by omega, hide (below_drewN hb.out n)⟩, by simp [intOf]; omega⟩
    · have hil : i = ls.length := by omega
      subst hil
      go_wp2_with fail
      go_ret
      exact ⟨rfl, hb.out⟩
end
end Go.Proofs.YtdhopoafpddjpaaDoor
