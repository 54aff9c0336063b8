/-
  The contracts of package msg's counts, plain, list and put. Conditions: texts and lists that fit.
-/
import Derived.Test.YtjaipdenahlheaaGreatDoorKMsgG
import Derived.Test.YtjaipdenahlheaaGreatDoorKCardSG
import Derived.Test.YtjaipdenahlheaaGreatDoorKWholeA
set_option linter.unusedVariables false
set_option linter.unusedSimpArgs false
namespace Go.Proofs.YtjaipdenahlheaaGreatDoor
open Go.RowKit Go.ChangeShapes Go.WideShapes Go.Sort
/-- A value's cells. -/
def fldV (x : Fld) (lv : Value) : Value := .agg #[.int .u8 x.k, .int .i64 x.n, .string (bs x.s), lv]
/-- Its texts are no longer than that. -/
structure SzF (x : Fld) : Prop where
  s : x.s.length ≤ 100000
  n : x.l.length ≤ 1000
  l : ∀ y ∈ x.l, y.length ≤ 100000
section
variable {w : World}
theorem wByte_any (n : Nat) (w : World) (h1 : n < 256) : Calls Tryz.prog 91 #[.int .u8 n] w (Says [UInt8.ofNat n] w) := by
  go_enter Tryz.func91, Tryz.ntmps91
  go_wp2
  go_ret
  exact ⟨rfl, by (repeat (first | exact Below.refl _ _ | refine below_drewN ?_ _ | refine Below.drew ?_ | refine Below.alloc ?_ (by first | omega | (simp; done) | (simp; omega)) _ | refine Below.setCell ?_ (by first | omega | (simp; done) | (simp; omega)) _ | refine bel_alloc ?_ _ | refine bel_trans ?_ (by assumption) | refine Below.trans ?_ (Below.mono (by assumption) (by first | omega | (simp; done) | (simp; omega)))))⟩
theorem wBool_any (b : Bool) (w : World) : Calls Tryz.prog 127 #[.bool b] w (Says [if b = true then 1 else 0] w) := by
  cases b with
  | true =>
    have H := hide (wByte_any 1 w (by decide))
    go_enter Tryz.func127, Tryz.ntmps127
    go_wp2_with (go_at_call 91; refine H.out.mono ?_; rintro e w1 ⟨rfl, hb1⟩)
    go_ret
    exact ⟨rfl, hb1⟩
  | false =>
    have H := hide (wByte_any 0 w (by decide))
    go_enter Tryz.func127, Tryz.ntmps127
    go_wp2_with (go_at_call 91; refine H.out.mono ?_; rintro e w1 ⟨rfl, hb1⟩)
    go_ret
    exact ⟨rfl, hb1⟩
theorem i_ne {k : Nat} {n : Nat} (h : ¬ k = n) : ((k : Int) == (n : Int)) = false := by rw [beq_eq_false_iff_ne]; omega
theorem i_eq {k : Nat} {n : Nat} (h : k = n) : ((k : Int) == (n : Int)) = true := by rw [h]; simp
theorem counts_any (k : Nat) (w : World) : Calls Tryz.prog 126 #[.int .u8 k] w (fun e w' => e = .returned (.int .i64 (cntF k)) ∧ w' = w) := by
  by_cases h1 : k = 98
  · subst h1
    go_enter Tryz.func126, Tryz.ntmps126
    go_wp2
    go_ret
    exact ⟨rfl, rfl⟩
  · by_cases h2 : k = 117
    · subst h2
      go_enter Tryz.func126, Tryz.ntmps126
      go_wp2
      go_ret
      exact ⟨rfl, rfl⟩
    · by_cases h3 : k = 110
      · subst h3
        go_enter Tryz.func126, Tryz.ntmps126
        go_wp2
        go_ret
        exact ⟨rfl, rfl⟩
      · by_cases h4 : k = 101
        · subst h4
          go_enter Tryz.func126, Tryz.ntmps126
          go_wp2
          go_ret
          exact ⟨rfl, rfl⟩
        · have E := hide (show cntF k = 1 from by unfold cntF; rw [if_neg (by omega), if_neg (by omega)])
          have e1 : ((k : Int) == 98) = false := i_ne h1
          have e2 : ((k : Int) == 117) = false := i_ne h2
          have e3 : ((k : Int) == 110) = false := i_ne h3
          have e4 : ((k : Int) == 101) = false := i_ne h4
          go_enter Tryz.func126, Tryz.ntmps126
          go_wp2
          go_ret
          exact ⟨by rw [E.out]; rfl, rfl⟩
theorem plain_core (k : Nat) (n : Int) (s : ByteArray) (A : Option Addr) (m c cn : Nat) (hcn : cn = 0 ∨ cn = 1 ∨ cn = 2) (HC : Hid (∀ W, Calls Tryz.prog 126 #[.int .u8 k] W (fun e w' => e = .returned (.int .i64 cn) ∧ w' = W))) (bn b2 b3 : Bool)
    (hn : (n == 0) = bn) (hs : (s.toList == []) = b2) (hl : ((m : Int) == 0) = b3) :
    Calls Tryz.prog 92 #[.agg #[.int .u8 k, .int .i64 n, .string s, .slice A m c]] w (fun e w' => e = .returned (.bool ((decide (cn = 0) || bn) && ((decide (cn = 1) || b2) && (decide (cn = 2) || b3)))) ∧ Below w.heap.size w w') := by
  rcases hcn with rfl | rfl | rfl <;> cases bn <;> cases b2 <;> cases b3
  all_goals
    go_enter Tryz.func92, Tryz.ntmps92
    go_wp2_with (first | (go_at_call 126; refine (HC.out _).mono ?_; rintro e w1 ⟨rfl, rfl⟩) | fail)
    go_ret
    exact ⟨rfl, by (repeat (first | exact Below.refl _ _ | refine below_drewN ?_ _ | refine Below.drew ?_ | refine Below.alloc ?_ (by first | omega | (simp; done) | (simp; omega)) _ | refine Below.setCell ?_ (by first | omega | (simp; done) | (simp; omega)) _ | refine bel_alloc ?_ _ | refine bel_trans ?_ (by assumption) | refine Below.trans ?_ (Below.mono (by assumption) (by first | omega | (simp; done) | (simp; omega)))))⟩
theorem cnt_cases (k : Nat) : cntF k = 0 ∨ cntF k = 1 ∨ cntF k = 2 := by
  unfold cntF
  split
  · exact .inl rfl
  · split
    · exact .inr (.inr rfl)
    · exact .inr (.inl rfl)
theorem plain_any (x : Fld) {A : Option Addr} {c : Nat} (w : World) : Calls Tryz.prog 92 #[fldV x (.slice A x.l.length c)] w (fun e w' => e = .returned (.bool (plainF x)) ∧ Below w.heap.size w w') := by
  have h := plain_core (w := w) x.k x.n (bs x.s) A x.l.length c (cntF x.k) (cnt_cases _) (hide (fun W => counts_any x.k W)) (decide (x.n = 0)) x.s.isEmpty x.l.isEmpty (by
    rw [Bool.eq_iff_iff]; simp) (by rw [bs_toList]; cases x.s <;> rfl) (by
    cases x.l with
    | nil => rfl
    | cons a b => rw [List.isEmpty_cons, beq_eq_false_iff_ne, List.length_cons]; omega)
  exact h
/-- The first texts on the wire. -/
def prefT (l : List (List UInt8)) (i : Nat) : List UInt8 := ((l.take i).map textL).flatten
theorem flat_succ {l : List (List UInt8)} {i : Nat} (h : i < l.length) : prefT l (i + 1) = prefT l i ++ textL l[i] := by
  unfold prefT
  rw [List.take_succ_eq_append_getElem h, List.map_append, List.flatten_append, List.map_singleton, List.flatten_singleton]
theorem flat_len {l : List (List UInt8)} (h : ∀ y ∈ l, y.length ≤ 100000) : (l.map textL).flatten.length ≤ l.length * 100004 := by
  induction l with
  | nil => simp
  | cons x l ih =>
    have h1 := h x (by simp)
    have h2 := ih (fun y hy => h y (by simp [hy]))
    simp only [List.map_cons, List.flatten_cons, List.length_append, List.length_cons, textL, q4_len]
    omega
set_option maxHeartbeats 1000000 in
theorem list_any (l : List (List UInt8)) {A : Option Addr} {c : Nat} (ht : Txs w (.slice A l.length c) l) (hn : l.length ≤ 1000) (hy : ∀ y ∈ l, y.length ≤ 100000) :
    Calls Tryz.prog 132 #[.slice A l.length c] w (fun e w' => e = .returned (.tuple #[.string (bs (putF ⟨101, 0, [], l⟩).2), .int .i64 (putF ⟨101, 0, [], l⟩).1]) ∧ Below w.heap.size w w') := by
  by_cases h1 : l.length % 2 = 1
  · have E := hide (show putF ⟨101, 0, [], l⟩ = (3, []) from by simp [putF, h1])
    have e1 : ((Int.tmod (l.length : Int) 2) == 0) = false := by
      rw [beq_eq_false_iff_ne, Int.tmod_eq_emod_of_nonneg (by omega)]
      omega
    go_enter Tryz.func132, Tryz.ntmps132
    go_wp2_with fail
    go_ret2
    exact ⟨by rw [E.out]; rfl, by (repeat (first | exact Below.refl _ _ | refine below_drewN ?_ _ | refine Below.drew ?_ | refine Below.alloc ?_ (by first | omega | (simp; done) | (simp; omega)) _ | refine Below.setCell ?_ (by first | omega | (simp; done) | (simp; omega)) _ | refine bel_alloc ?_ _ | refine bel_trans ?_ (by assumption) | refine Below.trans ?_ (Below.mono (by assumption) (by first | omega | (simp; done) | (simp; omega)))))⟩
  · have e1 : ((Int.tmod (l.length : Int) 2) == 0) = true := by
      rw [beq_iff_eq, Int.tmod_eq_emod_of_nonneg (by omega)]
      omega
    by_cases h2 : 16 < l.length
    · have E := hide (show putF ⟨101, 0, [], l⟩ = (2, []) from by simp [putF, h1, h2])
      have e2 : (16 : Int) < l.length := by omega
      go_enter Tryz.func132, Tryz.ntmps132
      go_wp2_with fail
      go_ret2
      exact ⟨by rw [E.out]; rfl, by (repeat (first | exact Below.refl _ _ | refine below_drewN ?_ _ | refine Below.drew ?_ | refine Below.alloc ?_ (by first | omega | (simp; done) | (simp; omega)) _ | refine Below.setCell ?_ (by first | omega | (simp; done) | (simp; omega)) _ | refine bel_alloc ?_ _ | refine bel_trans ?_ (by assumption) | refine Below.trans ?_ (Below.mono (by assumption) (by first | omega | (simp; done) | (simp; omega)))))⟩
    · have E := hide (show putF ⟨101, 0, [], l⟩ = (0, extsL l) from by simp [putF, h1, h2])
      have e2 : ¬ (16 : Int) < l.length := by omega
      have e3 : Int.tdiv (l.length : Int) 2 = ((l.length / 2 : Nat) : Int) := by
        rw [Int.tdiv_eq_ediv_of_nonneg (by omega)]
        omega
      have e4 : IntKind.u32.wrap ((l.length / 2 : Nat) : Int) = ((l.length / 2 : Nat) : Int) := by
        simp only [IntKind.wrap, IntKind.bits, IntKind.signed]
        simp
        omega
      have HU := hide (fun W => wNum_any (l.length / 2) W (by omega))
      have HT := hide (fun W (i : Nat) (hi : i < l.length) => wText_bs l[i] W (by have := hy _ (List.getElem_mem hi); omega))
      have HS := hide (fun (i : Nat) => show (prefT l i).length ≤ 1000 * 100004 from Nat.le_trans (flat_len (l := l.take i) (fun y h => hy y (List.mem_of_mem_take h))) (Nat.mul_le_mul_right 100004 (Nat.le_trans (by rw [List.length_take]; omega : (l.take i).length ≤ l.length) hn)))
      have HX := hide ht
      have HY := hide hy
      clear ht hy
      go_enter Tryz.func132, Tryz.ntmps132
      go_wp2_with (first | (go_at_call 128; refine (HU.out _).mono ?_; rintro e w1 ⟨rfl, hb1⟩) | fail)
      go_loopw [4, 23] (fun v vi wr => ∃ i : Nat, v = .string (bs (q4 (l.length / 2) ++ prefT l i)) ∧ vi = .int .i64 i ∧ i ≤ l.length ∧ Below w.heap.size w wr) (fun _ vi _ => l.length - (intOf vi).toNat)
      case atStart => exact ⟨0, by rw [show prefT l 0 = [] from rfl, List.append_nil], rfl, Nat.zero_le _, hb1⟩
      case round =>
        obtain ⟨i, rfl, rfl, hi, hb⟩ := hrel
        by_cases hlt : i < l.length
        · have hii : (i : Int) < l.length := by omega
          obtain ⟨A', c', hv, hA⟩ := (HX.out.below hb).open_
          obtain ⟨rfl, rfl⟩ : A' = A ∧ c' = c := by injection hv with e1 _ e2; exact ⟨e1.symm, e2.symm⟩
          obtain ⟨ad, rfl, had, hc0⟩ := hA i hlt
          have hfl := hide (flat_succ hlt)
          have hT := hide (HT.out wr i hlt)
          have hs1 := HS.out i
          have hs2 := HY.out _ (List.getElem_mem hlt)
          have hsz : (q4 (l.length / 2)).length + (prefT l i).length ≤ 200000000 := by rw [q4_len]; omega
          generalize hQ : q4 (l.length / 2) = Q at hsz
          generalize l[i] = y at hc0 hfl hT hs2
          clear hv hA hQ hs1
          go_wp2_with (first | (go_at_call 131; refine hT.out.mono ?_; rintro e w2 ⟨rfl, hb2⟩) | fail)
          refine ⟨⟨i + 1, ?_, by go_num, by omega, hb.trans (hb2.mono hb.size)⟩, by simp [intOf]; omega⟩
          rw [hfl.out]
          rfl
        · have hil : i = l.length := by omega
          subst hil
          clear HS HT HU
          have hE : q4 (l.length / 2) ++ prefT l l.length = extsL l := by unfold prefT; rw [List.take_length]; rfl
          rw [hE]
          go_wp2_with fail
          go_ret2
          exact ⟨by rw [E.out]; rfl, hb⟩
end
end Go.Proofs.YtjaipdenahlheaaGreatDoor
