/-
  The contracts of law07's Wrong and of law04's and law07's Same where they agree. Conditions: up to three places of up to 1,000 bytes; texts that fit; the library's handle is as it was laid.
-/
import Derived.Test.YtcjafkanckcfbaaGreatDoorChn
import Derived.Test.YtcjafkanckcfbaaGreatDoorMsgM
set_option linter.unusedVariables false
set_option linter.unusedSimpArgs false
namespace Go.Proofs.YtcjafkanckcfbaaGreatDoor
open Go.RowKit
/-- Places with a blank behind each. -/
def atL (ps : List (List UInt8)) : List UInt8 := (ps.map (· ++ [32])).flatten
theorem atL_succ {ps : List (List UInt8)} {i : Nat} (h : i < ps.length) : atL (ps.take (i + 1)) = atL (ps.take i) ++ ps[i] ++ [32] := by
  unfold atL
  rw [List.take_succ_eq_append_getElem h, List.map_append, List.flatten_append, List.map_singleton, List.flatten_singleton, List.append_assoc]
theorem atL_len {ps : List (List UInt8)} (h : ∀ p ∈ ps, p.length ≤ 1000) : (atL ps).length ≤ ps.length * 1001 := by
  unfold atL
  induction ps with
  | nil => simp
  | cons x l ih =>
    have h1 := h x (by simp)
    have h2 := ih (fun y hy => h y (by simp [hy]))
    simp only [List.map_cons, List.flatten_cons, List.length_append, List.length_cons, List.length_nil]
    omega
section
variable {w : World}
set_option maxHeartbeats 8000000 in
set_option maxRecDepth 100000 in
theorem wrgN_any (b : Nat) {ps : List (List UInt8)} {k : Int} (hps : ps.length ≤ 3) (hsz : ∀ p ∈ ps, p.length ≤ 1000) (h : IsErr w (errV b) ps k) (hg : Hand w) :
    Calls Tryz.prog 12 #[errV b, .agg #[.int .i64 k, .string (bs (atL ps))]] w (fun e w' => e = .returned (.bool true) ∧ Below w.heap.size w w') := by
  have HP := hide (fun (W : World) (hb : Below w.heap.size w W) => path_any b (by omega) (h.below hb) (hg.below hb))
  have HC := hide (fun (W : World) (hb : Below w.heap.size w W) => code_any b hps (h.below hb) (hg.below hb))
  have HS := hide (fun i => show (atL (ps.take i)).length ≤ 3 * 1001 from Nat.le_trans (atL_len (ps := ps.take i) (fun y hy => hsz y (List.mem_of_mem_take hy))) (Nat.mul_le_mul_right 1001 (by rw [List.length_take]; omega)))
  have HZ := hide hsz
  have hT := hide (show atL (ps.take ps.length) = atL ps by rw [List.take_length])
  have h0 : (atL (ps.take 0)) = [] := rfl
  have heq : ((bs (atL ps)).toList == (bs (atL ps)).toList) = true := beq_self_eq_true _
  unfold errV at HP HC ⊢
  clear h hg hsz
  go_enter Tryz.func12, Tryz.ntmps12
  go_wp2_with fail
  have hb0 := (Below.refl w.heap.size w).alloc (Nat.le_refl _) (.cells #[.int .i64 k, .string (bs (atL ps))] 33)
  have hB0 := Blk.new w 33 #[.int .i64 k, .string (bs (atL ps))]
  refine (HP.out _ hb0).mono ?_
  rintro e w1 ⟨A, c, rfl, hTx, hb1⟩
  obtain ⟨A', c', hv, hA⟩ := hTx.open_
  obtain ⟨rfl, rfl⟩ : A' = A ∧ c' = c := by injection hv with e1 _ e2; exact ⟨e1.symm, e2.symm⟩
  have hB1 := hB0.below hb1 hB0.lt
  have hb01 := hb0.trans (hb1.mono hb0.size)
  have d0 := hB1.cell 0
  have d1 := hB1.cell 1
  simp only [List.getElem?_toArray, List.getElem?_cons_zero, List.getElem?_cons_succ] at d0 d1
  have HC1 := hide (fun (W : World) (hb : Below w1.heap.size w1 W) => HC.out W (hb01.trans (hb.mono hb01.size)))
  have hlt := hB1.lt
  have HD := hide (And.intro d0 d1)
  clear hB0 hb0 hb1 hv HP HC hB1 hTx d0 d1
  go_wp2_with fail
  go_loopw [5, 7] (fun vs vi wr => wr = w1 ∧ ∃ i : Nat, vi = .int .i64 i ∧ i ≤ ps.length ∧ vs = .string (bs (atL (ps.take i)))) (fun _ vi _ => ps.length - (intOf vi).toNat)
  case atStart => exact ⟨rfl, 0, rfl, Nat.zero_le _, by rw [h0]; rfl⟩
  case round =>
    obtain ⟨rfl, i, rfl, hi, rfl⟩ := hrel
    by_cases hlt2 : i < ps.length
    · obtain ⟨ad, rfl, had, hc⟩ := hA i hlt2
      have hii : (i : Int) < ps.length := by omega
      have hi20 : (i : Int) < 20 := by omega
      have E := hide (atL_succ hlt2)
      have hs1 := HS.out i
      have hs2 := HZ.out _ (List.getElem_mem hlt2)
      generalize ps[i] = y at hc E hs2
      generalize atL (ps.take i) = z at E hs1 ⊢
      clear heq hT h0
      go_wp2_with fail
      refine ⟨⟨trivial, i + 1, by go_num, by omega, ?_⟩, by simp [intOf]; omega⟩
      rw [E.out, show (⟨#[32]⟩ : ByteArray) = bs [32] from rfl, bs_app]
    · have hil : i = ps.length := by omega
      subst hil
      rw [hT.out]
      have hdr : Below wr.heap.size wr wr.drew := (Below.refl _ _).drew
      obtain ⟨d0, d1⟩ := HD.out
      clear HS HZ hT h0 hA
      go_wp2_with fail
      go_region_held3 (fun W => W.cell? ⟨w.heap.size, 0, none⟩ = some (.int .i64 k) ∧ W.cell? ⟨w.heap.size, 1, none⟩ = some (.string (bs (atL ps))))
        (exact ⟨d0, d1⟩)
        (first
          | (go_at_call 37; refine (HC1.out _ hdr).mono ?_; rintro e w2 ⟨rfl, hb2⟩; replace d0 := ((hdr.trans hb2).cell (p := ⟨w.heap.size, 0, none⟩) hlt).trans d0; replace d1 := ((hdr.trans hb2).cell (p := ⟨w.heap.size, 1, none⟩) hlt).trans d1)
          | fail)
      all_goals go_wp2_with fail
      all_goals go_ret
      all_goals exact ⟨by simp, hb01.trans ((hdr.trans hb2).mono hb01.size)⟩
set_option maxRecDepth 100000 in
set_option maxHeartbeats 2000000 in
theorem lsame_true {ls : List (List UInt8)} {A1 A2 : Option Addr} {c1 c2 : Nat} (h1 : Txs w (.slice A1 ls.length c1) ls) (h2 : Txs w (.slice A2 ls.length c2) ls) (hl : ls.length ≤ 1000000000) :
    Calls Tryz.prog 41 #[.slice A1 ls.length c1, .slice A2 ls.length c2] w (fun e w' => e = .returned (.bool true) ∧ Below w.heap.size w w') := by
  have H1 := hide h1
  have H2 := hide h2
  have e0 : ((ls.length : Int) == ls.length) = true := beq_self_eq_true _
  clear h1 h2
  go_enter Tryz.func41, Tryz.ntmps41
  go_wp2_with fail
  clear e0
  go_loopw [5] (fun vi wr => ∃ i : Nat, vi = .int .i64 i ∧ i ≤ ls.length ∧ Hid (Below w.heap.size w wr)) (fun vi _ => ls.length - (intOf vi).toNat)
  case atStart => exact ⟨0, rfl, Nat.zero_le _, hide (Below.refl _ _)⟩
  case round =>
    obtain ⟨i, rfl, hi, hb⟩ := hrel
    by_cases hlt : i < ls.length
    · obtain ⟨A', c', hv, hA⟩ := (H1.out.below hb.out).open_
      obtain ⟨rfl, rfl⟩ : A' = A1 ∧ c' = c1 := by injection hv with e1 _ e2; exact ⟨e1.symm, e2.symm⟩
      obtain ⟨A'', c'', hv2, hB⟩ := (H2.out.below hb.out).open_
      obtain ⟨rfl, rfl⟩ : A'' = A2 ∧ c'' = c2 := by injection hv2 with e1 _ e2; exact ⟨e1.symm, e2.symm⟩
      obtain ⟨a1, rfl, _, hc1⟩ := hA i hlt
      obtain ⟨a2, rfl, _, hc2⟩ := hB i hlt
      have hii : (i : Int) < ls.length := by omega
      generalize ls[i] = y at hc1 hc2
      have e1 : ((bs y).toList == (bs y).toList) = true := beq_self_eq_true _
      clear hA hB hv hv2 H1 H2
      go_upto_region 6 with fail
      go_cut [25] (fun v wx => v = .bool false ∧ ∃ n, wx = wr.drewN n)
      case first =>
        as_aux_lemma =>
          go_quiet (fail)
          go_wp2_with fail
          go_meet
          exact ⟨rfl, _, rfl⟩
      case rest =>
        obtain ⟨wx, rfl⟩ : ∃ wx : World, wx = wc := ⟨wc, rfl⟩
        obtain ⟨rfl, n, rfl⟩ := hcut
        clear hc1 hc2 e1
        go_wp2_with fail
        exact ⟨⟨i + 1, by go_num, by omega, hide (below_drewN hb.out n)⟩, by simp [intOf]; omega⟩
    · have hil : i = ls.length := by omega
      subst hil
      go_wp2_with fail
      go_ret
      exact ⟨rfl, hb.out⟩
end
end Go.Proofs.YtcjafkanckcfbaaGreatDoor
