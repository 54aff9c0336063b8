/-
  The law SchemaWords: the number of any word, or that it is none's. Conditions: none.
-/
import Derived.Test.YtcblomlmabhgeaaSchemaApart
import Derived.Test.YtcblomlmabhgeaaRef06c
namespace Go.Proofs.Ytcblomlmabhgeaa
open Go.ChangeShapes Go.WideShapes Go.ChangeAt Go.RowKit
open Go.ChangeMaps (open_string shut_string)

@[go_sem] theorem row_g0 (a b c : Value) (w : World) : (Instr.field 39 (.agg #[a, b, c]) 0).run Try.prog w = .ok a w := by kernel_rfl
/-- The number of a word: 0 if it is none's. -/
def numOf (s : ByteArray) : Int := if s = ⟨#[100, 105, 115, 99, 111, 110, 110, 101, 99, 116]⟩ then 1 else if s = ⟨#[105, 103, 110, 111, 114, 101]⟩ then 2 else if s = ⟨#[117, 110, 105, 109, 112, 108, 101, 109, 101, 110, 116, 101, 100]⟩ then 3 else if s = ⟨#[100, 101, 98, 117, 103]⟩ then 4 else if s = ⟨#[115, 101, 114, 118, 105, 99, 101, 45, 114, 101, 113, 117, 101, 115, 116]⟩ then 5 else if s = ⟨#[115, 101, 114, 118, 105, 99, 101, 45, 97, 99, 99, 101, 112, 116]⟩ then 6 else if s = ⟨#[101, 120, 116, 45, 105, 110, 102, 111]⟩ then 7 else if s = ⟨#[107, 101, 120, 105, 110, 105, 116]⟩ then 20 else if s = ⟨#[110, 101, 119, 107, 101, 121, 115]⟩ then 21 else if s = ⟨#[101, 99, 100, 104, 45, 105, 110, 105, 116]⟩ then 30 else if s = ⟨#[114, 101, 112, 108, 121, 45, 111, 114, 45, 103, 114, 111, 117, 112]⟩ then 31 else if s = ⟨#[103, 101, 120, 45, 105, 110, 105, 116]⟩ then 32 else if s = ⟨#[103, 101, 120, 45, 114, 101, 112, 108, 121]⟩ then 33 else if s = ⟨#[103, 101, 120, 45, 114, 101, 113, 117, 101, 115, 116]⟩ then 34 else if s = ⟨#[117, 115, 101, 114, 97, 117, 116, 104, 45, 114, 101, 113, 117, 101, 115, 116]⟩ then 50 else if s = ⟨#[117, 115, 101, 114, 97, 117, 116, 104, 45, 102, 97, 105, 108, 117, 114, 101]⟩ then 51 else if s = ⟨#[117, 115, 101, 114, 97, 117, 116, 104, 45, 115, 117, 99, 99, 101, 115, 115]⟩ then 52 else if s = ⟨#[117, 115, 101, 114, 97, 117, 116, 104, 45, 98, 97, 110, 110, 101, 114]⟩ then 53 else if s = ⟨#[117, 115, 101, 114, 97, 117, 116, 104, 45, 112, 107, 45, 111, 107]⟩ then 60 else 0
theorem word_cases (P : ByteArray → Prop) (h1 : P ⟨#[100, 105, 115, 99, 111, 110, 110, 101, 99, 116]⟩) (h2 : P ⟨#[105, 103, 110, 111, 114, 101]⟩) (h3 : P ⟨#[117, 110, 105, 109, 112, 108, 101, 109, 101, 110, 116, 101, 100]⟩) (h4 : P ⟨#[100, 101, 98, 117, 103]⟩) (h5 : P ⟨#[115, 101, 114, 118, 105, 99, 101, 45, 114, 101, 113, 117, 101, 115, 116]⟩) (h6 : P ⟨#[115, 101, 114, 118, 105, 99, 101, 45, 97, 99, 99, 101, 112, 116]⟩) (h7 : P ⟨#[101, 120, 116, 45, 105, 110, 102, 111]⟩) (h20 : P ⟨#[107, 101, 120, 105, 110, 105, 116]⟩) (h21 : P ⟨#[110, 101, 119, 107, 101, 121, 115]⟩) (h30 : P ⟨#[101, 99, 100, 104, 45, 105, 110, 105, 116]⟩) (h31 : P ⟨#[114, 101, 112, 108, 121, 45, 111, 114, 45, 103, 114, 111, 117, 112]⟩) (h32 : P ⟨#[103, 101, 120, 45, 105, 110, 105, 116]⟩) (h33 : P ⟨#[103, 101, 120, 45, 114, 101, 112, 108, 121]⟩) (h34 : P ⟨#[103, 101, 120, 45, 114, 101, 113, 117, 101, 115, 116]⟩) (h50 : P ⟨#[117, 115, 101, 114, 97, 117, 116, 104, 45, 114, 101, 113, 117, 101, 115, 116]⟩) (h51 : P ⟨#[117, 115, 101, 114, 97, 117, 116, 104, 45, 102, 97, 105, 108, 117, 114, 101]⟩) (h52 : P ⟨#[117, 115, 101, 114, 97, 117, 116, 104, 45, 115, 117, 99, 99, 101, 115, 115]⟩) (h53 : P ⟨#[117, 115, 101, 114, 97, 117, 116, 104, 45, 98, 97, 110, 110, 101, 114]⟩) (h60 : P ⟨#[117, 115, 101, 114, 97, 117, 116, 104, 45, 112, 107, 45, 111, 107]⟩) (ho : ∀ s, s ≠ ⟨#[100, 105, 115, 99, 111, 110, 110, 101, 99, 116]⟩ → s ≠ ⟨#[105, 103, 110, 111, 114, 101]⟩ → s ≠ ⟨#[117, 110, 105, 109, 112, 108, 101, 109, 101, 110, 116, 101, 100]⟩ → s ≠ ⟨#[100, 101, 98, 117, 103]⟩ → s ≠ ⟨#[115, 101, 114, 118, 105, 99, 101, 45, 114, 101, 113, 117, 101, 115, 116]⟩ → s ≠ ⟨#[115, 101, 114, 118, 105, 99, 101, 45, 97, 99, 99, 101, 112, 116]⟩ → s ≠ ⟨#[101, 120, 116, 45, 105, 110, 102, 111]⟩ → s ≠ ⟨#[107, 101, 120, 105, 110, 105, 116]⟩ → s ≠ ⟨#[110, 101, 119, 107, 101, 121, 115]⟩ → s ≠ ⟨#[101, 99, 100, 104, 45, 105, 110, 105, 116]⟩ → s ≠ ⟨#[114, 101, 112, 108, 121, 45, 111, 114, 45, 103, 114, 111, 117, 112]⟩ → s ≠ ⟨#[103, 101, 120, 45, 105, 110, 105, 116]⟩ → s ≠ ⟨#[103, 101, 120, 45, 114, 101, 112, 108, 121]⟩ → s ≠ ⟨#[103, 101, 120, 45, 114, 101, 113, 117, 101, 115, 116]⟩ → s ≠ ⟨#[117, 115, 101, 114, 97, 117, 116, 104, 45, 114, 101, 113, 117, 101, 115, 116]⟩ → s ≠ ⟨#[117, 115, 101, 114, 97, 117, 116, 104, 45, 102, 97, 105, 108, 117, 114, 101]⟩ → s ≠ ⟨#[117, 115, 101, 114, 97, 117, 116, 104, 45, 115, 117, 99, 99, 101, 115, 115]⟩ → s ≠ ⟨#[117, 115, 101, 114, 97, 117, 116, 104, 45, 98, 97, 110, 110, 101, 114]⟩ → s ≠ ⟨#[117, 115, 101, 114, 97, 117, 116, 104, 45, 112, 107, 45, 111, 107]⟩ → P s) (s : ByteArray) : P s := by
  by_cases c1 : s = ⟨#[100, 105, 115, 99, 111, 110, 110, 101, 99, 116]⟩
  · subst c1; exact h1
  by_cases c2 : s = ⟨#[105, 103, 110, 111, 114, 101]⟩
  · subst c2; exact h2
  by_cases c3 : s = ⟨#[117, 110, 105, 109, 112, 108, 101, 109, 101, 110, 116, 101, 100]⟩
  · subst c3; exact h3
  by_cases c4 : s = ⟨#[100, 101, 98, 117, 103]⟩
  · subst c4; exact h4
  by_cases c5 : s = ⟨#[115, 101, 114, 118, 105, 99, 101, 45, 114, 101, 113, 117, 101, 115, 116]⟩
  · subst c5; exact h5
  by_cases c6 : s = ⟨#[115, 101, 114, 118, 105, 99, 101, 45, 97, 99, 99, 101, 112, 116]⟩
  · subst c6; exact h6
  by_cases c7 : s = ⟨#[101, 120, 116, 45, 105, 110, 102, 111]⟩
  · subst c7; exact h7
  by_cases c20 : s = ⟨#[107, 101, 120, 105, 110, 105, 116]⟩
  · subst c20; exact h20
  by_cases c21 : s = ⟨#[110, 101, 119, 107, 101, 121, 115]⟩
  · subst c21; exact h21
  by_cases c30 : s = ⟨#[101, 99, 100, 104, 45, 105, 110, 105, 116]⟩
  · subst c30; exact h30
  by_cases c31 : s = ⟨#[114, 101, 112, 108, 121, 45, 111, 114, 45, 103, 114, 111, 117, 112]⟩
  · subst c31; exact h31
  by_cases c32 : s = ⟨#[103, 101, 120, 45, 105, 110, 105, 116]⟩
  · subst c32; exact h32
  by_cases c33 : s = ⟨#[103, 101, 120, 45, 114, 101, 112, 108, 121]⟩
  · subst c33; exact h33
  by_cases c34 : s = ⟨#[103, 101, 120, 45, 114, 101, 113, 117, 101, 115, 116]⟩
  · subst c34; exact h34
  by_cases c50 : s = ⟨#[117, 115, 101, 114, 97, 117, 116, 104, 45, 114, 101, 113, 117, 101, 115, 116]⟩
  · subst c50; exact h50
  by_cases c51 : s = ⟨#[117, 115, 101, 114, 97, 117, 116, 104, 45, 102, 97, 105, 108, 117, 114, 101]⟩
  · subst c51; exact h51
  by_cases c52 : s = ⟨#[117, 115, 101, 114, 97, 117, 116, 104, 45, 115, 117, 99, 99, 101, 115, 115]⟩
  · subst c52; exact h52
  by_cases c53 : s = ⟨#[117, 115, 101, 114, 97, 117, 116, 104, 45, 98, 97, 110, 110, 101, 114]⟩
  · subst c53; exact h53
  by_cases c60 : s = ⟨#[117, 115, 101, 114, 97, 117, 116, 104, 45, 112, 107, 45, 111, 107]⟩
  · subst c60; exact h60
  exact ho s c1 c2 c3 c4 c5 c6 c7 c20 c21 c30 c31 c32 c33 c34 c50 c51 c52 c53 c60
theorem word_in : ∀ n, word n = ⟨#[]⟩ ∨ numOf (word n) = n := by
  refine num_cases _ (by decide +kernel) (by decide +kernel) (by decide +kernel) (by decide +kernel) (by decide +kernel) (by decide +kernel) (by decide +kernel) (by decide +kernel) (by decide +kernel) (by decide +kernel) (by decide +kernel) (by decide +kernel) (by decide +kernel) (by decide +kernel) (by decide +kernel) (by decide +kernel) (by decide +kernel) (by decide +kernel) (by decide +kernel) ?_
  intro n h1 h2 h3 h4 h5 h6 h7 h20 h21 h30 h31 h32 h33 h34 h50 h51 h52 h53 h60
  left
  simp [word, letw, *]
/-- Does the number n hit the word s? -/
def hits (s : ByteArray) (n : Int) : Bool := decide (word n ≠ ⟨#[]⟩) && decide (word n = s)
theorem hits_num : ∀ (s : ByteArray) (k : Nat), k < 60 → hits s ((k : Int) + 1) = decide (numOf s = (k : Int) + 1) := by
  refine word_cases _ (by decide +kernel) (by decide +kernel) (by decide +kernel) (by decide +kernel) (by decide +kernel) (by decide +kernel) (by decide +kernel) (by decide +kernel) (by decide +kernel) (by decide +kernel) (by decide +kernel) (by decide +kernel) (by decide +kernel) (by decide +kernel) (by decide +kernel) (by decide +kernel) (by decide +kernel) (by decide +kernel) (by decide +kernel) ?_
  intro s h1 h2 h3 h4 h5 h6 h7 h20 h21 h30 h31 h32 h33 h34 h50 h51 h52 h53 h60 n _
  have h0 : numOf s = 0 := by simp [numOf, *]
  rw [h0]
  have hn : hits s ((n : Int) + 1) = false := by
    unfold hits
    rcases word_in ((n : Int) + 1) with h | h
    · simp [h]
    · have : word ((n : Int) + 1) ≠ s := by
        intro e
        rw [e, h0] at h
        omega
      simp [this]
  rw [hn]
  simp
  omega
theorem numOf_range : ∀ s, numOf s = 0 ∨ (1 ≤ numOf s ∧ numOf s ≤ 60) := by
  refine word_cases _ (by decide +kernel) (by decide +kernel) (by decide +kernel) (by decide +kernel) (by decide +kernel) (by decide +kernel) (by decide +kernel) (by decide +kernel) (by decide +kernel) (by decide +kernel) (by decide +kernel) (by decide +kernel) (by decide +kernel) (by decide +kernel) (by decide +kernel) (by decide +kernel) (by decide +kernel) (by decide +kernel) (by decide +kernel) ?_
  intro s h1 h2 h3 h4 h5 h6 h7 h20 h21 h30 h31 h32 h33 h34 h50 h51 h52 h53 h60
  left
  simp [numOf, *]
set_option maxHeartbeats 400000 in
theorem num_any (s : ByteArray) (w : World) : Calls Try.prog 16 #[.string s] w fun e w' => e = .returned (.tuple #[.int .i64 (numOf s), .bool (decide (numOf s ≠ 0))]) ∧ w = w' := by
  have Hr := hide (numOf_range s)
  go_enter Try.func16, Try.ntmps16
  go_wp2
  go_loop [4] (fun i => ∃ k : Nat, k ≤ 60 ∧ i = .int .i64 ((k : Int) + 1) ∧ ∀ j : Nat, j < k → numOf s ≠ (j : Int) + 1) (fun i => 61 - (intOf i).toNat)
  case atStart => exact ⟨0, Nat.zero_le _, rfl, by simp⟩
  case round =>
    obtain ⟨k, hk, rfl, hno⟩ := hrel
    by_cases hlt : k < 60
    · have hh := hits_num s k hlt
      unfold hits at hh
      by_cases hm : numOf s = (k : Int) + 1
      · rw [decide_eq_true hm] at hh
        simp only [Bool.and_eq_true, decide_eq_true_eq] at hh
        have e1 := bytes_some hh.1
        have e2 := bytes_eq hh.2
        have Hm := hide hm
        clear hm hh hno
        go_wp2_with (go_at_call 22; refine (word_any _ _).mono ?_; rintro e w1 ⟨rfl, rfl⟩)
        go_ret2
        exact ⟨by rw [Hm.out]; simp; omega, rfl⟩
      · have hno' : ∀ j : Nat, j < k + 1 → numOf s ≠ (j : Int) + 1 := by
          intro j hj
          by_cases hjk : j = k
          · subst hjk; exact hm
          · exact hno j (by omega)
        have Hno := hide hno'
        rw [decide_eq_false hm] at hh
        have Hh := hide hh
        clear hm hno hno' hh
        go_wp2_with (go_at_call 22; refine (word_any _ _).mono ?_; rintro e w1 ⟨rfl, rfl⟩)
        all_goals first
          | (exfalso; have h1 := Hh.out; rw [decide_eq_true (bytes_isS (by assumption)), decide_eq_true (bytes_of (by assumption))] at h1; simp at h1; done)
          | (go_round
             case rel => exact ⟨k + 1, hlt, by go_num, Hno.out⟩
             case measure => simp [intOf]; omega)
    · have h0 : numOf s = 0 := by
        rcases Hr.out with h | h
        · exact h
        · exact absurd (by omega) (hno (numOf s - 1).toNat (by omega))
      have H0 := hide h0
      clear h0 hno
      go_wp2
      go_ret2
      exact ⟨by rw [H0.out]; simp, rfl⟩
def wantOf (l : List (Int × ByteArray × List ByteArray)) (s : ByteArray) : Int := l.foldl (fun a r => if r.2.1 = s then r.1 else a) 0
theorem wantOf_num : ∀ s, wantOf table s = numOf s := by
  refine word_cases _ (by decide +kernel) (by decide +kernel) (by decide +kernel) (by decide +kernel) (by decide +kernel) (by decide +kernel) (by decide +kernel) (by decide +kernel) (by decide +kernel) (by decide +kernel) (by decide +kernel) (by decide +kernel) (by decide +kernel) (by decide +kernel) (by decide +kernel) (by decide +kernel) (by decide +kernel) (by decide +kernel) (by decide +kernel) ?_
  intro s h1 h2 h3 h4 h5 h6 h7 h20 h21 h30 h31 h32 h33 h34 h50 h51 h52 h53 h60
  have h0 : numOf s = 0 := by simp [numOf, *]
  rw [h0]
  simp [wantOf, table, Ne.symm, *]
set_option maxHeartbeats 1000000 in
theorem schemaWords_any (s : ByteArray) (w : World) (hs : s.size ≤ maxLen) :
    Calls Try.prog 7 #[.string s] w fun e w' => e = .returned (.bool true) ∧ Below w.heap.size w w' := by
  have Hl : Hid (table.length = 19) := hide rfl
  have Hw := hide (wantOf_num s)
  unfold maxLen at hs
  by_cases h60 : 60 < s.size
  · go_enter Try.func7, Try.ntmps7
    go_wp2_with (go_at_call 12; refine (awake06 _).mono ?_; rintro e w1 ⟨rfl, hb1⟩)
    go_ret
    refine ⟨rfl, ?_⟩
    (repeat (first | exact Below.refl _ _ | refine below_drewN ?_ _ | refine Below.drew ?_ | refine Below.alloc ?_ (by first | omega | (simp; done) | (simp; omega)) _ | refine Below.setCell ?_ (by first | omega | (simp; done) | (simp; omega)) _ | refine bel_trans ?_ (by assumption) | refine Below.trans ?_ (Below.mono (by assumption) (by first | omega | (simp; done) | (simp; omega)))))
  go_enter Try.func7, Try.ntmps7
  go_wp2_with (first
    | (go_at_call 16; refine (num_any _ _).mono ?_; rintro e w1 ⟨rfl, rfl⟩)
    | (go_at_call 17; refine (table_any _).mono ?_; rintro e w1 ⟨v, rfl, ⟨A, c, rfl, hr⟩, hb⟩; rw [Hl.out]))
  go_loop [5, 7] (fun v i => ∃ k : Nat, k ≤ 19 ∧ i = .int .i64 k ∧ v = .int .i64 (wantOf (table.take k) s)) (fun _ i => 19 - (intOf i).toNat)
  case atStart => exact ⟨0, Nat.zero_le _, rfl, rfl⟩
  case round =>
    obtain ⟨k, hk, rfl, rfl⟩ := hrel
    by_cases hlt : k < 19
    · have hkl : k < table.length := by rw [Hl.out]; exact hlt
      obtain ⟨ad, fv, rfl, _, _, h1, h2, _, _⟩ := hr k hkl
      have Hst : Hid (wantOf (table.take (k + 1)) s = if (table[k]'hkl).2.1 = s then (table[k]'hkl).1 else wantOf (table.take k) s) := by
        refine hide ?_
        rw [List.take_succ_eq_append_getElem hkl, wantOf, List.foldl_append]
        rfl
      generalize table[k]'hkl = r at h1 h2 Hst
      generalize wantOf (table.take k) s = y at Hst
      have h2' := cell_off (j := 0) h2
      by_cases he : r.2.1 = s
      · have e1 := bytes_eq he
        have He := hide he
        clear he
        go_wp2
        go_round
        case rel => exact ⟨k + 1, hlt, by go_num, by rw [Hst.out, if_pos He.out]⟩
        case measure => simp [intOf]; omega
      · have e1 := bytes_ne he
        have He := hide he
        clear he
        go_wp2
        go_round
        case rel => exact ⟨k + 1, hlt, by go_num, by rw [Hst.out, if_neg He.out]⟩
        case measure => simp [intOf]; omega
    · have hw : wantOf (table.take k) s = numOf s := by
        rw [List.take_of_length_le (by rw [Hl.out]; omega)]
        exact Hw.out
      rw [hw]
      go_wp2_with (go_at_call 12; refine (awake06 _).mono ?_; rintro e w2 ⟨rfl, hb2⟩)
      go_ret
      refine ⟨ret_bool (by by_cases h : numOf s = 0 <;> simp [h]), ?_⟩
      (repeat (first | exact Below.refl _ _ | refine below_drewN ?_ _ | refine Below.drew ?_ | refine Below.alloc ?_ (by first | omega | (simp; done) | (simp; omega)) _ | refine Below.setCell ?_ (by first | omega | (simp; done) | (simp; omega)) _ | refine bel_trans ?_ (by assumption) | refine Below.trans ?_ (Below.mono (by assumption) (by first | omega | (simp; done) | (simp; omega)))))

set_option maxRecDepth 100000 in
theorem lifted_SchemaWords (os : Os) (started : os.Started) (H : Type) (enc : TypeId × Value → H) :
    ReturnsInHanded {} Try.checked os 7 .any (Rows.schemaWordsSpec.pre6 enc Try.prog Try.f7 Rows.schemaWordsRow.domain false) (Rows.schemaWordsSpec.post enc Try.prog Try.f7 false true false false) := by
  refine returnsInHanded_of_change_shaped (C := Try.checked) own started (by kernel_rfl) Try.func7
    (ChangeSpec.witness6 (enc := enc) (C := Try.checked) false ⟨#[], #[.string ByteArray.empty], []⟩ 8 (by kernel_rfl) (by kernel_rfl) (by kernel_rfl) (by kernel_rfl)) ?_
  intro W base args ds gs before hval0 hW hcnd hsz hsh _
  have hval : ∀ (j : Nat) t v, Try.f7.params[j]? = some t → args[j]? = some v → Value.okWide Try.prog W .any base t v := hval0
  have hW' := hW
  obtain ⟨p, q, hA0, hV, rfl, hfz, hnd⟩ := hW
  have hA : DataW.TrodAll enc Try.prog W 0 (fun _ => true) true Try.f7.params.toList args.toList ds p := hA0
  rw [Try.params7] at hA hval
  obtain ⟨v0, vs0, d0, ds0, p0, q0, hargs, rfl, rfl, h0, r0⟩ := trodAll_cons hA
  obtain ⟨rfl, rfl, rfl⟩ := trodAll_nil r0
  obtain rfl : args = #[v0] := by cases args; simp_all
  obtain ⟨s, rfl, _, _, w0⟩ := open_string Try.underlying9 (hval 0 9 v0 rfl rfl) h0
  refine (schemaWords_any s W w0).mono fun e W' ⟨he, bel⟩ => ?_
  subst he
  exact ⟨_, rfl, law_post 4 laidOut (by kernel_rfl) rfl Try.underlying4 rfl hW' (fun ds' hl _ => by match ds', hl with | [x0], _ => rfl) bel⟩

theorem over_SchemaWords : Rows.schemaWordsRow.holds Try.pinned (OpenSpec.ofChange Rows.schemaWordsSpec) :=
  OpenClaim.holds_of_wide 7 Try.f7 rfl rfl rfl rfl rfl rfl rfl ⟨rfl, rfl, rfl, rfl, rfl⟩ rfl rfl rfl rfl rfl (by kernel_rfl) Try.func7 (by kernel_rfl)
    (of_decide_eq_true (by kernel_rfl)) (by unfold Func.isWrapper; first | (rw [if_pos (by decide +kernel)]; kernel_rfl) | (rw [if_neg (by decide +kernel)]; exact ⟨rfl, rfl⟩))
    (fun os started H enc _ => lifted_SchemaWords os started H enc)

/-- The given statement. -/
theorem schemaWords_holds : Rows.SchemaWordsSaid := over_SchemaWords

#print axioms schemaWords_holds
end Go.Proofs.Ytcblomlmabhgeaa
