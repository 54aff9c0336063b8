/-
  The contracts of slices.Clone of grants and of numbers. Conditions: at most 1,000,000 of them.
-/
import Derived.Test.YtjaipdenahlheaaDoorKCfN
set_option linter.unusedVariables false
set_option linter.unusedSimpArgs false
namespace Go.Proofs.YtjaipdenahlheaaDoor
open Go.RowKit Go.ChangeShapes Go.WideShapes Go.Sort
/-- Grants, cell for cell. -/
def flatG (gs : List (List UInt8 × Int)) : List Value := gs.flatMap fun g => [.string (bs g.1), .int .i64 g.2]
theorem flatG_len (gs : List (List UInt8 × Int)) : (flatG gs).length = gs.length * 2 := by
  induction gs with
  | nil => rfl
  | cons g r ih =>
    show (flatG r).length + 2 = _
    rw [ih, List.length_cons]
    omega
theorem flatG_get : ∀ (gs : List (List UInt8 × Int)) (k : Nat), (hk : k < gs.length) → (flatG gs)[k * 2]? = some (.string (bs gs[k].1)) ∧ (flatG gs)[k * 2 + 1]? = some (.int .i64 gs[k].2)
  | g :: r, 0, _ => ⟨rfl, rfl⟩
  | g :: r, k + 1, hk => by
    have h := flatG_get r k (by simpa using hk)
    have e1 : (flatG (g :: r))[(k + 1) * 2]? = (flatG r)[k * 2]? := by
      show (Value.string (bs g.1) :: Value.int .i64 g.2 :: flatG r)[(k + 1) * 2]? = _
      rw [show (k + 1) * 2 = k * 2 + 1 + 1 by omega, List.getElem?_cons_succ, List.getElem?_cons_succ]
    have e2 : (flatG (g :: r))[(k + 1) * 2 + 1]? = (flatG r)[k * 2 + 1]? := by
      show (Value.string (bs g.1) :: Value.int .i64 g.2 :: flatG r)[(k + 1) * 2 + 1]? = _
      rw [show (k + 1) * 2 + 1 = k * 2 + 1 + 1 + 1 by omega, List.getElem?_cons_succ, List.getElem?_cons_succ]
    rw [e1, e2]
    exact h
theorem flatG_one (gs : List (List UInt8 × Int)) : ∀ u ∈ flatG gs, u.oneCell' = true := by
  intro u hu
  unfold flatG at hu
  obtain ⟨g, _, hg⟩ := List.mem_flatMap.1 hu
  simp only [List.mem_cons, List.mem_nil_iff, or_false] at hg
  rcases hg with rfl | rfl <;> rfl
theorem add_odd {ad : Addr} {k : Nat} : ad.add (k * 2 + 1) = ⟨(ad.add (k * 2)).block, (ad.add (k * 2)).off + 1, none⟩ := by
  rw [add_succ_]
  cases k with
  | zero => simp [Addr.add]
  | succ m => simp [Addr.add]; omega
theorem GrC.reads {w : World} {A : Option Addr} {gs : List (List UInt8 × Int)} (h : GrC w A gs) : Reads w w.heap.size 2 A gs.length (flatG gs) := by
  refine ⟨flatG_len gs, fun hn => ?_⟩
  obtain ⟨ad, e, hlt, _⟩ := h 0 hn
  refine ⟨ad, e, hlt, fun j u hu => ?_⟩
  have hj : j < gs.length * 2 := by rw [← flatG_len]; exact (List.getElem?_eq_some_iff.1 hu).1
  have hk : j / 2 < gs.length := by omega
  obtain ⟨ad2, e2, _, c0, c1⟩ := h (j / 2) hk
  obtain rfl : ad = ad2 := by rw [e] at e2; exact Option.some.inj e2
  obtain ⟨g0, g1⟩ := flatG_get gs (j / 2) hk
  rcases Nat.mod_two_eq_zero_or_one j with hm | hm
  · have ej : j = j / 2 * 2 := by omega
    generalize j / 2 = m at *
    subst ej
    rw [g0] at hu
    cases hu
    exact c0
  · have ej : j = j / 2 * 2 + 1 := by omega
    generalize j / 2 = m at *
    subst ej
    rw [g1] at hu
    cases hu
    rw [add_odd]
    exact c1
theorem InC.reads {w : World} {A : Option Addr} {ks : List Int} (h : InC w A ks) : Reads w w.heap.size 1 A ks.length (ks.map (Value.int .i64)) := by
  refine ⟨by simp, fun hn => ?_⟩
  obtain ⟨ad, e, hlt, _⟩ := h 0 hn
  refine ⟨ad, e, hlt, fun j u hu => ?_⟩
  rw [List.getElem?_map, Option.map_eq_some_iff] at hu
  obtain ⟨x, hx, rfl⟩ := hu
  obtain ⟨hj, rfl⟩ := List.getElem?_eq_some_iff.1 hx
  obtain ⟨ad2, e2, _, c0⟩ := h j hj
  obtain rfl : ad = ad2 := by rw [e] at e2; exact Option.some.inj e2
  exact c0
set_option maxHeartbeats 400000 in
theorem clone_gr {A : Option Addr} {n c : Nat} {xs : List Value} {w : World} (hr : Reads w w.heap.size 2 A n xs) (hone : ∀ u ∈ xs, u.oneCell' = true) (hb : n ≤ 1000000) :
    Calls Tryd.prog 19 #[.slice A n c] w fun e w' => ∃ v', e = .returned v' ∧ w'.ownsRow w.heap.size 36 2 v' n xs ∧ Below w.heap.size w w' := by
  obtain ⟨i0, hi, hz0, hz1, hz2⟩ := info_partsN (show (Tryd.prog.info? 36).map (fun i => (i.zero, i.size, i.bytes)) = some (some (.agg #[.string ByteArray.empty, .int .i64 0]), 2, 24) from by kernel_rfl)
  have q : ∀ (w : World) (a : Option Addr) (n c n' c' : Nat), (binOp .eql 25 (.slice a n c) (.slice none n' c')).run Tryd.prog w = .ok (.bool a.isNone) w := fun w a n c n' c' => Lib.run_eql_slice_nil w _ _ a n c n' c' Tryd.underlying25
  cases A with
  | none =>
    have h0 : n = 0 := by
      rcases Nat.eq_zero_or_pos n with h0 | h0
      · exact h0
      · obtain ⟨ad, h, _⟩ := hr.2 h0
        cases h
    subst h0
    have hx : xs = [] := List.eq_nil_of_length_eq_zero (by have := hr.1; omega)
    subst hx
    clear hr hone
    go_enter Tryd.func19, Tryd.ntmps19
    go_wp2
    go_ret
    exact ⟨_, rfl, World.ownsRow_nil _ _ _ _, Below.refl _ _⟩
  | some ad =>
    have hr' := hr.alloc (Nat.le_refl _) (.cells #[] 36)
    have Hone := hide hone
    have Hr := hide (hr'.more (Nat.le_succ _))
    clear hone hr' hr
    go_enter Tryd.func19, Tryd.ntmps19
    go_wp2_with (at_builtin; refine wpList_append_any _ rfl (.tmp 5) (.tmp 6) _ rfl w.heap.size 36 i0 (.agg #[.string ByteArray.empty, .int .i64 0]) 2 24 Tryd.underlying25 hi hz0 hz1 hz2 rfl (by decide) _ 0 [] rfl (World.ownsRow_made w #[] 0 (Nat.le_refl _) (Nat.zero_le _) (by simp)) (w.heap.size + 1) (some ad) n c xs rfl (by simpa using Hr.out) Hone.out (by unfold maxLen; omega) (by omega) (by simp) ?_; intro v' w1 hown hgrow _)
    rw [Nat.zero_add, List.nil_append] at hown
    go_wp2
    go_ret
    refine ⟨v', rfl, hown, ?_⟩
    exact ((Below.refl _ w).alloc (Nat.le_refl _) _).grown hgrow (by simp) (by rintro k ⟨⟩; exact Nat.le_refl _)
set_option maxHeartbeats 400000 in
theorem clone_in {A : Option Addr} {n c : Nat} {xs : List Value} {w : World} (hr : Reads w w.heap.size 1 A n xs) (hone : ∀ u ∈ xs, u.oneCell' = true) (hb : n ≤ 1000000) :
    Calls Tryd.prog 20 #[.slice A n c] w fun e w' => ∃ v', e = .returned v' ∧ w'.ownsRow w.heap.size 3 1 v' n xs ∧ Below w.heap.size w w' := by
  obtain ⟨i0, hi, hz0, hz1, hz2⟩ := info_partsN (show (Tryd.prog.info? 3).map (fun i => (i.zero, i.size, i.bytes)) = some (some (.int .i64 0), 1, 8) from by kernel_rfl)
  have q : ∀ (w : World) (a : Option Addr) (n c n' c' : Nat), (binOp .eql 26 (.slice a n c) (.slice none n' c')).run Tryd.prog w = .ok (.bool a.isNone) w := fun w a n c n' c' => Lib.run_eql_slice_nil w _ _ a n c n' c' Tryd.underlying26
  cases A with
  | none =>
    have h0 : n = 0 := by
      rcases Nat.eq_zero_or_pos n with h0 | h0
      · exact h0
      · obtain ⟨ad, h, _⟩ := hr.2 h0
        cases h
    subst h0
    have hx : xs = [] := List.eq_nil_of_length_eq_zero (by have := hr.1; omega)
    subst hx
    clear hr hone
    go_enter Tryd.func20, Tryd.ntmps20
    go_wp2
    go_ret
    exact ⟨_, rfl, World.ownsRow_nil _ _ _ _, Below.refl _ _⟩
  | some ad =>
    have hr' := hr.alloc (Nat.le_refl _) (.cells #[] 3)
    have Hone := hide hone
    have Hr := hide (hr'.more (Nat.le_succ _))
    clear hone hr' hr
    go_enter Tryd.func20, Tryd.ntmps20
    go_wp2_with (at_builtin; refine wpList_append_any _ rfl (.tmp 5) (.tmp 6) _ rfl w.heap.size 3 i0 (.int .i64 0) 1 8 Tryd.underlying26 hi hz0 hz1 hz2 rfl (by decide) _ 0 [] rfl (World.ownsRow_made w #[] 0 (Nat.le_refl _) (Nat.zero_le _) (by simp)) (w.heap.size + 1) (some ad) n c xs rfl (by simpa using Hr.out) Hone.out (by unfold maxLen; omega) (by omega) (by simp) ?_; intro v' w1 hown hgrow _)
    rw [Nat.zero_add, List.nil_append] at hown
    go_wp2
    go_ret
    refine ⟨v', rfl, hown, ?_⟩
    exact ((Below.refl _ w).alloc (Nat.le_refl _) _).grown hgrow (by simp) (by rintro k ⟨⟩; exact Nat.le_refl _)
end Go.Proofs.YtjaipdenahlheaaDoor
