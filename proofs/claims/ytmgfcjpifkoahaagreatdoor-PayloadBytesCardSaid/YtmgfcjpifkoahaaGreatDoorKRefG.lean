/-
  Several of my texts in one: Ref06, Ref06b, Ref06c, RDec.
-/
import Derived.Test.YtmgfcjpifkoahaaGreatDoorKGetsG
import Derived.Test.YtmgfcjpifkoahaaGreatDoorKBaseG
import Derived.Test.YtmgfcjpifkoahaaGreatDoorKRRead
set_option linter.unusedVariables false
set_option linter.unusedSimpArgs false
/-
  The contracts of the reference for package schema. Conditions: none.
-/
namespace Go.Proofs.YtmgfcjpifkoahaaGreatDoor
open Go.RowKit

def table : List (Int × ByteArray × List ByteArray) := [
 (1, ⟨#[100, 105, 115, 99, 111, 110, 110, 101, 99, 116]⟩, [⟨#[117, 115, 115]⟩]),
 (2, ⟨#[105, 103, 110, 111, 114, 101]⟩, [⟨#[115]⟩]),
 (3, ⟨#[117, 110, 105, 109, 112, 108, 101, 109, 101, 110, 116, 101, 100]⟩, [⟨#[117]⟩]),
 (4, ⟨#[100, 101, 98, 117, 103]⟩, [⟨#[98, 115, 115]⟩]),
 (5, ⟨#[115, 101, 114, 118, 105, 99, 101, 45, 114, 101, 113, 117, 101, 115, 116]⟩, [⟨#[115]⟩]),
 (6, ⟨#[115, 101, 114, 118, 105, 99, 101, 45, 97, 99, 99, 101, 112, 116]⟩, [⟨#[115]⟩]),
 (7, ⟨#[101, 120, 116, 45, 105, 110, 102, 111]⟩, [⟨#[101]⟩]),
 (20, ⟨#[107, 101, 120, 105, 110, 105, 116]⟩, [⟨#[99, 110, 110, 110, 110, 110, 110, 110, 110, 110, 110, 98, 117]⟩]),
 (21, ⟨#[110, 101, 119, 107, 101, 121, 115]⟩, [⟨#[]⟩]),
 (30, ⟨#[101, 99, 100, 104, 45, 105, 110, 105, 116]⟩, [⟨#[116]⟩]),
 (31, ⟨#[114, 101, 112, 108, 121, 45, 111, 114, 45, 103, 114, 111, 117, 112]⟩, [⟨#[116, 116, 116]⟩, ⟨#[109, 109]⟩]),
 (32, ⟨#[103, 101, 120, 45, 105, 110, 105, 116]⟩, [⟨#[116]⟩]),
 (33, ⟨#[103, 101, 120, 45, 114, 101, 112, 108, 121]⟩, [⟨#[116, 116, 116]⟩]),
 (34, ⟨#[103, 101, 120, 45, 114, 101, 113, 117, 101, 115, 116]⟩, [⟨#[117, 117, 117]⟩]),
 (50, ⟨#[117, 115, 101, 114, 97, 117, 116, 104, 45, 114, 101, 113, 117, 101, 115, 116]⟩, [⟨#[115, 115, 115]⟩, ⟨#[115, 115, 115, 98, 115, 116]⟩, ⟨#[115, 115, 115, 98, 115, 116, 116]⟩]),
 (51, ⟨#[117, 115, 101, 114, 97, 117, 116, 104, 45, 102, 97, 105, 108, 117, 114, 101]⟩, [⟨#[110, 98]⟩]),
 (52, ⟨#[117, 115, 101, 114, 97, 117, 116, 104, 45, 115, 117, 99, 99, 101, 115, 115]⟩, [⟨#[]⟩]),
 (53, ⟨#[117, 115, 101, 114, 97, 117, 116, 104, 45, 98, 97, 110, 110, 101, 114]⟩, [⟨#[115, 115]⟩]),
 (60, ⟨#[117, 115, 101, 114, 97, 117, 116, 104, 45, 112, 107, 45, 111, 107]⟩, [⟨#[115, 116]⟩])]

def RowsAt (lo : Nat) (w : World) (v : Value) (l : List (Int × ByteArray × List ByteArray)) : Prop :=
 ∃ A c, v = .slice A l.length c ∧ ∀ i (h : i < l.length), ∃ ad fv, A = some ad ∧ lo ≤ ad.block ∧ ad.block < w.heap.size ∧ w.cell? (ad.add (i * 3)) = some (.int .i64 l[i].1) ∧ w.cell? (ad.add (i * 3 + 1)) = some (.string l[i].2.1) ∧ w.cell? (ad.add (i * 3 + 2)) = some fv ∧ Strs lo w fv l[i].2.2
def rowCells : Nat → List (Int × ByteArray × List ByteArray) → List Value
 | _, [] => []
 | B, r :: l => .int .i64 r.1 :: .string r.2.1 :: .slice (some ⟨B, 0, none⟩) r.2.2.length r.2.2.length :: rowCells (B + 1) l
theorem rowCells_at (B : Nat) (l : List (Int × ByteArray × List ByteArray)) (i : Nat) (h : i < l.length) : (rowCells B l)[i * 3]? = some (.int .i64 l[i].1) ∧ (rowCells B l)[i * 3 + 1]? = some (.string l[i].2.1) ∧
  (rowCells B l)[i * 3 + 2]? = some (.slice (some ⟨B + i, 0, none⟩) l[i].2.2.length l[i].2.2.length) := by
 induction l generalizing B i with
 | nil => simp at h
 | cons r l ih =>
  cases i with
  | zero => simp [rowCells]
  | succ i =>
   have := ih (B + 1) i (by simpa using h)
   simp only [Nat.add_mul, Nat.one_mul, rowCells, List.getElem_cons_succ]
   refine ⟨this.1, this.2.1, ?_⟩
   rw [show B + (i + 1) = B + 1 + i from by omega]
   exact this.2.2
def rowObjs (l : List (Int × ByteArray × List ByteArray)) : List Obj := l.map fun r => Obj.cells (r.2.2.map Value.string).toArray 9
def tableObjs (B : Nat) : List Obj := rowObjs table ++ [Obj.cells (rowCells B table).toArray 115]
theorem table_fin (w : World) : RowsAt w.heap.size (allocs w (tableObjs w.heap.size)) (.slice (some ⟨w.heap.size + 19, 0, none⟩) 19 19) table ∧ Below w.heap.size w (allocs w (tableObjs w.heap.size)) := by
 refine ⟨⟨_, _, rfl, fun i h => ?_⟩, allocs_below _ _⟩
 have h19 : i < 19 := h
 have hb : Blk (allocs w (tableObjs w.heap.size)) (w.heap.size + 19) 115 (rowCells w.heap.size table).toArray := allocs_at w (tableObjs w.heap.size) (k := 19) rfl
 obtain ⟨h1, h2, h3⟩ := rowCells_at w.heap.size table i h
 have hs : Blk (allocs w (tableObjs w.heap.size)) (w.heap.size + i) 9 (table[i].2.2.map Value.string).toArray := by
  refine allocs_at w (tableObjs w.heap.size) (k := i) ?_
  rw [tableObjs, List.getElem?_append_left (by simpa [rowObjs] using h), rowObjs, List.getElem?_map, List.getElem?_eq_getElem h]
  rfl
 refine ⟨_, _, rfl, Nat.le_add_right _ _, hb.lt, ?_, ?_, ?_, hs.strs (Nat.le_add_right _ _) table[i].2.2.length⟩
 ·rw [add_zero_, hb.cell, List.getElem?_toArray]; exact h1
 ·rw [add_zero_, hb.cell, List.getElem?_toArray]; exact h2
 ·rw [add_zero_, hb.cell, List.getElem?_toArray]; exact h3
set_option maxHeartbeats 4000000 in
theorem table_any (w : World) : Calls Tryz.prog 123 #[] w fun e w' => ∃ v, e = .returned v ∧ RowsAt w.heap.size w' v table ∧ Below w.heap.size w w' := by
 go_enter Tryz.func123, Tryz.ntmps123
 go_wp2
 go_ret
 exact ⟨_, rfl, table_fin w⟩
end Go.Proofs.YtmgfcjpifkoahaaGreatDoor

/-
  The contracts of the reference for package schema: Of, Fit, Class. Conditions: none.
-/
namespace Go.Proofs.YtmgfcjpifkoahaaGreatDoor
open Go.RowKit

def rowOf (n : Int) : Int × ByteArray × List ByteArray := (table.find? (fun r => r.1 == n)).getD (0, ⟨#[]⟩, [])
set_option maxHeartbeats 400000 in
theorem of_any (n : Int) (w : World) : Calls Tryz.prog 61 #[.int .i64 n] w fun e w' => ∃ fv, e = .returned (.agg #[.int .i64 (rowOf n).1, .string (rowOf n).2.1, fv]) ∧ Strs w.heap.size w' fv (rowOf n).2.2 ∧ Below w.heap.size w w' := by
 have hl : table.length = 19 := rfl
 have Hl := hide hl
 clear hl
 go_enter Tryz.func61, Tryz.ntmps61
 go_wp2_with (go_at_call 123; refine (table_any _).mono ?_; rintro e w1 ⟨v, rfl, ⟨A, c, rfl, hr⟩, hb⟩; rw [Hl.out])
 obtain ⟨hbc, hbf⟩ := bcell hb
 have hbz := hb.size
 simp only [World.size_alloc] at hbz hr
 have hb0 : Below w.heap.size w w1 := ((Below.refl _ _).alloc (Nat.le_refl _) _).trans (hb.mono (by simp))
 go_loop [4] (fun i => ∃ k : Nat, k ≤ 19 ∧ i = .int .i64 k ∧ ∀ j (h : j < table.length), j < k → table[j].1 ≠ n) (fun i => 19 - (intOf i).toNat)
 case atStart => exact ⟨0, Nat.zero_le _, rfl, by simp⟩
 case round =>
  obtain ⟨k, hk, rfl, hno⟩ := hrel
  by_cases hlt : k < 19
  ·obtain ⟨ad, fv, rfl, _, hlo, h1, h2, h3, hs⟩ := hr k (by rw [Hl.out]; exact hlt)
   generalize hk' : table[k]'(by rw [Hl.out]; exact hlt) = r at h1 h2 h3 hs
   have h2' := cell_off (j := 0) h2
   have h3' := cell_off (j := 1) h3
   by_cases hm : r.1 = n
   ·have hro : rowOf n = r := by
     have : table.find? (fun r => r.1 == n) = some r := by
      rw [List.find?_eq_some_iff_getElem]
      exact ⟨by simpa using hm, k, by rw [Hl.out]; exact hlt, hk', fun j hj => by simpa using hno j _ hj⟩
     simp [rowOf, this]
    have Hro := hide hro
    have Hk := hide hk'
    clear hro hk' hno
    obtain ⟨A', c', rfl, hr'⟩ := hs
    go_wp2
    refine bodyPost_ret (v := .agg #[.int .i64 n, .string r.2.1, .slice A' r.2.2.length c']) (by simp [results, Tryz.results61, go_sem, hbc]) rfl ⟨.slice A' r.2.2.length c', ?_, ?_, ?_⟩
    ·rw [Hro.out, hm]
    ·rw [Hro.out]
     exact ⟨_, _, rfl, (((hr'.setCell (Nat.lt_succ_self _) _).setCell (Nat.lt_succ_self _) _).setCell (Nat.lt_succ_self _) _).mono (Nat.le_succ _)⟩
    ·exact (((hb0.setCell (Nat.le_refl _) _).setCell (Nat.le_refl _) _).setCell (Nat.le_refl _) _)
   ·have hno' : ∀ j (h : j < table.length), j < k + 1 → table[j].1 ≠ n := by
     intro j h hj
     by_cases hjk : j = k
     ·subst hjk
      rw [hk']
      exact hm
     ·exact hno j h (by omega)
    have Hno := hide hno'
    clear hk' hno hno'
    go_wp2
    go_round
    case rel => exact ⟨k + 1, hlt, by go_num, Hno.out⟩
    case measure => simp [intOf]; omega
  ·have hro : rowOf n = (0, ⟨#[]⟩, []) := by
    have : table.find? (fun r => r.1 == n) = none := by
     rw [List.find?_eq_none]
     intro s hs
     obtain ⟨j, hj, rfl⟩ := List.getElem_of_mem hs
     have h19 := Hl.out
     simpa using hno j hj (by omega)
    simp [rowOf, this]
   have Hro := hide hro
   clear hro hno
   go_wp2
   refine bodyPost_ret (v := .agg #[.int .i64 0, .string ⟨#[]⟩, .slice none 0 0]) (by simp [results, Tryz.results61, go_sem, hbc]) rfl ⟨.slice none 0 0, ?_, ?_, ?_⟩
   ·rw [Hro.out]
   ·rw [Hro.out]
    exact ⟨none, 0, rfl, Sl.nil_⟩
   ·exact (((hb0.setCell (Nat.le_refl _) _).setCell (Nat.le_refl _) _).setCell (Nat.le_refl _) _)
end Go.Proofs.YtmgfcjpifkoahaaGreatDoor

/-
  The rest of the reference for package schema: Fit, Class; and how it stands to the program's. Conditions: none.
-/
namespace Go.Proofs.YtmgfcjpifkoahaaGreatDoor
open Go.RowKit

theorem num_cases (P : Int → Prop) (h1 : P 1) (h2 : P 2) (h3 : P 3) (h4 : P 4) (h5 : P 5) (h6 : P 6) (h7 : P 7) (h20 : P 20) (h21 : P 21) (h30 : P 30) (h31 : P 31) (h32 : P 32) (h33 : P 33) (h34 : P 34) (h50 : P 50) (h51 : P 51) (h52 : P 52) (h53 : P 53) (h60 : P 60) (ho : ∀ n, n ≠ 1 → n ≠ 2 → n ≠ 3 → n ≠ 4 → n ≠ 5 → n ≠ 6 → n ≠ 7 → n ≠ 20 → n ≠ 21 → n ≠ 30 → n ≠ 31 → n ≠ 32 → n ≠ 33 → n ≠ 34 → n ≠ 50 → n ≠ 51 → n ≠ 52 → n ≠ 53 → n ≠ 60 → P n) (n : Int) : P n := by
 by_cases c1 : n = 1
 ·subst c1; exact h1
 by_cases c2 : n = 2
 ·subst c2; exact h2
 by_cases c3 : n = 3
 ·subst c3; exact h3
 by_cases c4 : n = 4
 ·subst c4; exact h4
 by_cases c5 : n = 5
 ·subst c5; exact h5
 by_cases c6 : n = 6
 ·subst c6; exact h6
 by_cases c7 : n = 7
 ·subst c7; exact h7
 by_cases c20 : n = 20
 ·subst c20; exact h20
 by_cases c21 : n = 21
 ·subst c21; exact h21
 by_cases c30 : n = 30
 ·subst c30; exact h30
 by_cases c31 : n = 31
 ·subst c31; exact h31
 by_cases c32 : n = 32
 ·subst c32; exact h32
 by_cases c33 : n = 33
 ·subst c33; exact h33
 by_cases c34 : n = 34
 ·subst c34; exact h34
 by_cases c50 : n = 50
 ·subst c50; exact h50
 by_cases c51 : n = 51
 ·subst c51; exact h51
 by_cases c52 : n = 52
 ·subst c52; exact h52
 by_cases c53 : n = 53
 ·subst c53; exact h53
 by_cases c60 : n = 60
 ·subst c60; exact h60
 exact ho n c1 c2 c3 c4 c5 c6 c7 c20 c21 c30 c31 c32 c33 c34 c50 c51 c52 c53 c60
theorem rowOf_forms : ∀ n, (rowOf n).2.2 = forms n := by
 refine num_cases _ (by decide +kernel) (by decide +kernel) (by decide +kernel) (by decide +kernel) (by decide +kernel) (by decide +kernel) (by decide +kernel) (by decide +kernel) (by decide +kernel) (by decide +kernel) (by decide +kernel) (by decide +kernel) (by decide +kernel) (by decide +kernel) (by decide +kernel) (by decide +kernel) (by decide +kernel) (by decide +kernel) (by decide +kernel) ?_
 intro n h1 h2 h3 h4 h5 h6 h7 h20 h21 h30 h31 h32 h33 h34 h50 h51 h52 h53 h60
 have h : table.find? (fun r => r.1 == n) = none := by
  simp [table]
  omega
 unfold rowOf
 rw [h]
 simp [forms, *]
theorem rowOf_word : ∀ n, (rowOf n).2.1 = word n := by
 refine num_cases _ (by decide +kernel) (by decide +kernel) (by decide +kernel) (by decide +kernel) (by decide +kernel) (by decide +kernel) (by decide +kernel) (by decide +kernel) (by decide +kernel) (by decide +kernel) (by decide +kernel) (by decide +kernel) (by decide +kernel) (by decide +kernel) (by decide +kernel) (by decide +kernel) (by decide +kernel) (by decide +kernel) (by decide +kernel) ?_
 intro n h1 h2 h3 h4 h5 h6 h7 h20 h21 h30 h31 h32 h33 h34 h50 h51 h52 h53 h60
 have h : table.find? (fun r => r.1 == n) = none := by
  simp [table]
  omega
 unfold rowOf
 rw [h]
 simp [word, letw, *]
@[go_sem] theorem row_field1 (a b c : Value) (w : World) : (Instr.field 115 (.agg #[a, b, c]) 1).run Tryz.prog w = .ok b w := by kernel_rfl
@[go_sem] theorem row_field2 (a b c : Value) (w : World) : (Instr.field 115 (.agg #[a, b, c]) 2).run Tryz.prog w = .ok c w := by kernel_rfl
set_option maxHeartbeats 400000 in
theorem rfit_any (n m : Int) (w : World) :
  Calls Tryz.prog 89 #[.int .i64 n, .int .i64 m] w fun e w' => e = .returned (.tuple #[.string (fit n m).1, .bool (fit n m).2]) ∧ Below w.heap.size w w' := by
 have hl := forms_len n
 have Hr := hide (rowOf_forms n)
 go_enter Tryz.func89, Tryz.ntmps89
 go_wp2_with fail
 refine (of_any _ _).mono ?_
 rw [Hr.out]
 rintro e w1 ⟨v, rfl, ⟨A, c, rfl, hr⟩, hb⟩
 go_wp2
 go_loop [7] (fun i => ∃ k : Nat, k ≤ (forms n).length ∧ i = .int .i64 k ∧ ∀ j s, j < k → (forms n)[j]? = some s → (s.size : Int) ≠ m) (fun i => (forms n).length - (intOf i).toNat)
 case atStart => exact ⟨0, Nat.zero_le _, rfl, by simp⟩
 case round =>
  obtain ⟨k, hk, rfl, hno⟩ := hrel
  by_cases hlt : k < (forms n).length
  ·obtain ⟨ad, rfl, _, hc⟩ := hr.str hlt
   generalize hs : (forms n)[k] = s at hc
   have hs' : (forms n)[k]? = some s := by rw [List.getElem?_eq_getElem hlt, hs]
   by_cases hm : (s.size : Int) = m
   ·have hf : fit n m = (s, true) := by
     have : (forms n).find? (fun s => (s.size : Int) == m) = some s := by
      rw [List.find?_eq_some_iff_getElem]
      exact ⟨by simpa using hm, k, hlt, hs, fun j hj => by simpa using hno j _ hj (List.getElem?_eq_getElem (by omega))⟩
     simp [fit, this]
    have Hf := hide hf
    clear hf hs hs' hno
    go_wp2
    go_ret2
    exact ⟨by rw [Hf.out]; rfl, hb⟩
   ·have hno' : ∀ j s, j < k + 1 → (forms n)[j]? = some s → (s.size : Int) ≠ m := by
     intro j s' hj hs2
     by_cases hjk : j = k
     ·subst hjk
      rw [hs'] at hs2
      cases hs2
      exact hm
     ·exact hno j s' (by omega) hs2
    have Hno := hide hno'
    clear hs hs' hno hno'
    go_wp2
    go_round
    case rel => exact ⟨k + 1, hlt, by go_num, Hno.out⟩
    case measure => simp [intOf]; omega
  ·have hf : fit n m = (⟨#[]⟩, false) := by
    have : (forms n).find? (fun s => (s.size : Int) == m) = none := by
     rw [List.find?_eq_none]
     intro s hs
     obtain ⟨j, hj, rfl⟩ := List.getElem_of_mem hs
     simpa using hno j _ (by omega) (List.getElem?_eq_getElem hj)
    simp [fit, this]
   have Hf := hide hf
   clear hf hno
   go_wp2
   go_ret2
   exact ⟨by rw [Hf.out]; rfl, hb⟩
end Go.Proofs.YtmgfcjpifkoahaaGreatDoor

/-
  The contract of the reference's Decode. Conditions: payloads of at most 1,000,000 bytes.
-/
namespace Go.Proofs.YtmgfcjpifkoahaaGreatDoor
open Go.RowKit Go.ChangeShapes Go.WideShapes Go.Sort
theorem rowOf_num {n : Int} (h : (rowOf n).2.2 ≠ []) : (rowOf n).1 = n := by
 unfold rowOf at h ⊢
 cases hf : table.find? (fun r => r.1 == n) with
 | none =>
  rw [hf] at h
  exact absurd rfl h
 | some r =>
  have := List.find?_some hf
  simpa using this
theorem word_len (n : Int) : (word n).size ≤ 60 := by
 unfold word letw
 repeat' refine ite_ok (P := fun b : ByteArray => b.size ≤ 60) ?_ ?_
 all_goals decide
def RDecM (D : DecR) (w : World) (e : Ending) (w' : World) : Prop :=
 Below w.heap.size w w' ∧ ((∃ num l A c, D = .ok num l ∧ e = .returned (.tuple #[.agg #[.int .i64 (num : Nat), .slice A l.length c], .agg #[.int .i64 0, .string ⟨#[]⟩]]) ∧ Flds w' A l) ∨
  (∃ ps, ∃ k : Nat, decErr D = some (ps, k) ∧ k ≠ 0 ∧ e = .returned (.tuple #[.agg #[.int .i64 0, .slice none 0 0], .agg #[.int .i64 k, .string (bs (atL ps))]])))
def RDecN (D : DecR) (w : World) (e : Ending) (w' : World) : Prop :=
 Below w.heap.size w w' ∧ ((∃ num l A c, D = .ok num l ∧ e = .returned (.tuple #[.agg #[.int .i64 (num : Nat), .slice A l.length c], .agg #[.int .i64 0, .string ⟨#[]⟩]]) ∧ FldsN w.heap.size w' A l) ∨
  (∃ ps, ∃ k : Nat, decErr D = some (ps, k) ∧ k ≠ 0 ∧ e = .returned (.tuple #[.agg #[.int .i64 0, .slice none 0 0], .agg #[.int .i64 k, .string (bs (atL ps))]])))
theorem atL_cons (p : List UInt8) (ps : List (List UInt8)) : atL (p :: ps) = p ++ [32] ++ atL ps := rfl
theorem atL_msg : atL [msgB] = [109, 101, 115, 115, 97, 103, 101, 32] := by decide
structure TwoB (w : World) (h : Nat) (a b c d : Value) : Prop where
 m : Blk w h 60 #[a, b]
 e : Blk w (h + 1) 81 #[c, d]
theorem TwoB.below {w w' : World} {h : Nat} {a b c d : Value} (t : TwoB w h a b c d) (hb : Below w.heap.size w w') : TwoB w' h a b c d := ⟨t.m.below hb t.m.lt, t.e.below hb t.e.lt⟩
theorem TwoB.set {w : World} {h : Nat} {a b c d : Value} (t : TwoB w h a b c d) (v0 v1 u0 u1 : Value) : TwoB ((((w.setCell ⟨h, 0, none⟩ v0).setCell ⟨h, 1, none⟩ v1).setCell ⟨h + 1, 0, none⟩ u0).setCell ⟨h + 1, 1, none⟩ u1) h v0 v1 u0 u1 := by
 have h1 := two_fin t.m v0 v1
 have h2 := (t.e.far (p := ⟨h, 0, none⟩) (by simp) v0).far (p := ⟨h, 1, none⟩) (by simp) v1
 exact ⟨(h1.far (p := ⟨h + 1, 0, none⟩) (by simp) u0).far (p := ⟨h + 1, 1, none⟩) (by simp) u1, two_fin h2 u0 u1⟩
theorem TwoB.bel {B : Nat} {w0 w : World} {h : Nat} (hb : Below B w0 w) (hh : B ≤ h) (v0 v1 u0 u1 : Value) : Below B w0 ((((w.setCell ⟨h, 0, none⟩ v0).setCell ⟨h, 1, none⟩ v1).setCell ⟨h + 1, 0, none⟩ u0).setCell ⟨h + 1, 1, none⟩ u1) :=
 (((hb.setCell (p := ⟨h, 0, none⟩) hh v0).setCell (p := ⟨h, 1, none⟩) hh v1).setCell (p := ⟨h + 1, 0, none⟩) (Nat.le_succ_of_le hh) u0).setCell (p := ⟨h + 1, 1, none⟩) (Nat.le_succ_of_le hh) u1
theorem TwoB.flds {lo : Nat} {w : World} {A : Option Addr} {l : List Fld} {h : Nat} (hf : FldsN lo w A l) (hh : h + 1 < lo) (v0 v1 u0 u1 : Value) : FldsN lo ((((w.setCell ⟨h, 0, none⟩ v0).setCell ⟨h, 1, none⟩ v1).setCell ⟨h + 1, 0, none⟩ u0).setCell ⟨h + 1, 1, none⟩ u1) A l :=
 (((hf.setCell (p := ⟨h, 0, none⟩) (by show h < lo; omega) v0).setCell (p := ⟨h, 1, none⟩) (by show h < lo; omega) v1).setCell (p := ⟨h + 1, 0, none⟩) hh u0).setCell (p := ⟨h + 1, 1, none⟩) hh u1
structure RDecI (w : World) (p : List UInt8) (fs : List ByteArray) (num : Nat) (fv : Value) (b4 j : Nat) (wr : World) : Prop where
 bel : Below w.heap.size w wr
 two : TwoB wr w.heap.size (.int .i64 0) (.slice none 0 0) (.int .i64 0) (.string ⟨#[]⟩)
 row : Blk wr b4 115 #[.int .i64 num, .string (word (num : Nat)), fv]
 rest : firstF fs (p.drop 1) = firstF (fs.drop j) (p.drop 1)
section
variable {w : World}
set_option maxHeartbeats 16000000 in
set_option maxRecDepth 100000 in
theorem rdecode_anyN (pl : ByteArray) (hpl : pl.size ≤ 1000000) : Calls Tryz.prog 31 #[.string pl] w (RDecN (decS pl.data.toList) w) := by
 have hX0 : TwoB ((w.alloc (.cells #[.int .i64 0, .slice none 0 0] 60)).alloc (.cells #[.int .i64 0, .string ⟨#[]⟩] 81)) w.heap.size (.int .i64 0) (.slice none 0 0) (.int .i64 0) (.string ⟨#[]⟩) := ⟨(Blk.new w _ _).alloc _, blk_new2 w _ _ _⟩
 have hb0 : Below w.heap.size w ((w.alloc (.cells #[.int .i64 0, .slice none 0 0] 60)).alloc (.cells #[.int .i64 0, .string ⟨#[]⟩] 81)) := by exact bel_by
 by_cases hnil : pl = ⟨#[]⟩
 ·subst hnil
  have HE := hide (show decErr (decS (⟨#[]⟩ : ByteArray).data.toList) = some ([msgB], 4) from by rfl)
  have HM := hide (show bs (atL [msgB]) = (⟨#[109, 101, 115, 115, 97, 103, 101, 32]⟩ : ByteArray) from by rw [atL_msg]; rfl)
  clear hX0 hb0
  go_enter Tryz.func31, Tryz.ntmps31
  go_wp2_with fail
  exact bodyPost_ret (v := .tuple #[.agg #[.int .i64 0, .slice none 0 0], .agg #[.int .i64 4, .string ⟨#[109, 101, 115, 115, 97, 103, 101, 32]⟩]]) (by simp [results, Tryz.results31, go_sem]) rfl ⟨by exact bel_by, .inr ⟨[msgB], 4, HE.out, by decide, by rw [HM.out]; rfl⟩⟩
 ·have hz : 0 < pl.size := Nat.pos_of_ne_zero (fun e => hnil (by
   have : pl.data.size = 0 := e
   have h2 : pl.data = #[] := Array.eq_empty_of_size_eq_zero this
   cases pl
   simp_all))
  have hzl : pl.data.toList.length = pl.size := rfl
  obtain ⟨c, r, hcr⟩ := List.exists_cons_of_ne_nil (show pl.data.toList ≠ [] from fun e => by rw [e] at hzl; simp at hzl; omega)
  have hg0 : pl[0] = c := by
   have h2 : pl.data.toList[0]'(by rw [hzl]; exact hz) = c := by simp only [hcr, List.getElem_cons_zero]
   exact h2
  have hz0 : ((pl.size : Int) == 0) = false := by rw [beq_eq_false_iff_ne]; omega
  have hw64 : wrap64 ((pl[0].toNat : Nat) : Int) = (pl[0].toNat : Nat) := by
   have := pl[0].toNat_lt
   unfold wrap64
   omega
  rw [hcr] at hzl ⊢
  by_cases hlong : 32768 < pl.size
  ·have hlong' : (32768 : Int) < pl.size := by omega
   have HE := hide (show decErr (decS (c :: r)) = some ([msgB], 2) from by rw [decS_long (by omega)]; rfl)
   have HM := hide (show bs (atL [msgB]) = (⟨#[109, 101, 115, 115, 97, 103, 101, 32]⟩ : ByteArray) from by rw [atL_msg]; rfl)
   clear hX0 hb0 hg0 hlong hnil hw64
   go_enter Tryz.func31, Tryz.ntmps31
   go_wp2_with fail
   exact bodyPost_ret (v := .tuple #[.agg #[.int .i64 0, .slice none 0 0], .agg #[.int .i64 2, .string ⟨#[109, 101, 115, 115, 97, 103, 101, 32]⟩]]) (by simp [results, Tryz.results31, go_sem]) rfl ⟨by exact bel_by, .inr ⟨[msgB], 2, HE.out, by decide, by rw [HM.out]; rfl⟩⟩
  ·have hlong' : ¬ (32768 : Int) < pl.size := by omega
   have hl2 : ¬ 32768 < (c :: r).length := by omega
   have HOf := hide (fun W => of_any (c.toNat : Nat) W)
   have Hg0 := hide hg0
   cases hfs : forms c.toNat with
   | nil =>
    rw [rowOf_forms, hfs] at HOf
    have HE := hide (show decErr (decS (c :: r)) = some ([msgB], 6) from by rw [decS_none hl2 hfs]; rfl)
    have HM := hide (show bs (atL [msgB]) = (⟨#[109, 101, 115, 115, 97, 103, 101, 32]⟩ : ByteArray) from by rw [atL_msg]; rfl)
    have HX := hide (And.intro hX0 hb0)
    generalize (rowOf (c.toNat : Nat)).1 = rn at HOf
    generalize (rowOf (c.toNat : Nat)).2.1 = rw' at HOf
    clear hX0 hb0 hg0 hlong hl2 hfs hcr hnil
    go_enter Tryz.func31, Tryz.ntmps31
    go_upto_region 6 with (first
     | (rw [Hg0.out]; go_at_call 61; refine (HOf.out _).mono ?_; rintro e w1 ⟨fv, rfl, ⟨fA, fc, rfl, hS1⟩, hb1⟩)
     | fail)
    try rw [show ([] : List ByteArray).length = 0 from rfl]
    have hT := (HX.out.1.below hb1).below ((Below.refl _ _).alloc (Nat.le_refl _) (.cells #[.int .i64 rn, .string rw', .slice fA 0 fc] 115))
    have hbT : Below w.heap.size w (w1.alloc (.cells #[.int .i64 rn, .string rw', .slice fA 0 fc] 115)) := ((HX.out.2.trans (hb1.mono HX.out.2.size)).alloc (Nat.le_trans HX.out.2.size hb1.size) _)
    have hRw := Blk.new w1 115 #[.int .i64 rn, .string rw', .slice fA 0 fc]
    generalize w1.alloc (.cells #[.int .i64 rn, .string rw', .slice fA 0 fc] 115) = w3 at hT hbT hRw ⊢
    generalize w1.heap.size = b4 at hRw ⊢
    have z2 := hRw.cell 2
    simp at z2
    clear hS1 hb1 HX
    have x0 := hT.m.cell 0
    have x1 := hT.m.cell 1
    have t0 := hT.m.frozen 0
    have t1 := hT.m.frozen 1
    have y0 := hT.e.cell 0
    have y1 := hT.e.cell 1
    have s0 := hT.e.frozen 0
    have s1 := hT.e.frozen 1
    simp at x0 x1 y0 y1
    go_wp2_with fail
    have hF := hT.set (.int .i64 0) (.slice none 0 0) (.int .i64 6) (.string ⟨#[109, 101, 115, 115, 97, 103, 101, 32]⟩)
    have hbF := TwoB.bel (h := w.heap.size) hbT (Nat.le_refl _) (.int .i64 0) (.slice none 0 0) (.int .i64 6) (.string ⟨#[109, 101, 115, 115, 97, 103, 101, 32]⟩)
    generalize ((((w3.setCell ⟨w.heap.size, 0, none⟩ (.int .i64 0)).setCell ⟨w.heap.size, 1, none⟩ (.slice none 0 0)).setCell ⟨w.heap.size + 1, 0, none⟩ (.int .i64 6)).setCell ⟨w.heap.size + 1, 1, none⟩ (.string ⟨#[109, 101, 115, 115, 97, 103, 101, 32]⟩)) = wF at hF hbF ⊢
    have q0 := hF.m.cell 0
    have q1 := hF.m.cell 1
    have q2 := hF.e.cell 0
    have q3 := hF.e.cell 1
    simp at q0 q1 q2 q3
    exact bodyPost_ret (v := .tuple #[.agg #[.int .i64 0, .slice none 0 0], .agg #[.int .i64 6, .string ⟨#[109, 101, 115, 115, 97, 103, 101, 32]⟩]]) (by simp [results, Tryz.results31, go_sem, q0, q1, q2, q3]) rfl ⟨hbF, .inr ⟨[msgB], 6, HE.out, by decide, by rw [HM.out]; rfl⟩⟩
   | cons f0 fs0 =>
    have hnum := rowOf_num (n := (c.toNat : Nat)) (by rw [rowOf_forms, hfs]; simp)
    rw [rowOf_forms, rowOf_word, hnum, hfs] at HOf
    have hmem : ∀ f ∈ f0 :: fs0, f.size ≤ 13 := fun f hf => (form_ascii (n := (c.toNat : Nat)) (by rw [hfs]; exact hf)).1
    have HOk := hide (fun l (h : firstF (f0 :: fs0) r = some l) => decS_of (c := c) (r := r) (l := l) (by omega) (by rw [hfs]; exact h))
    have HBad := hide (fun (h : firstF (f0 :: fs0) r = none) => decS_bad (c := c) (r := r) (f := f0) (fs := fs0) hl2 hfs (by rw [hfs]; exact h))
    generalize hD : decS (c :: r) = D at HOk HBad ⊢
    have HRd := hide (fun (W : World) (f : ByteArray) (hf : f ∈ f0 :: fs0) => rread_anyM (w := W) pl f hpl hz (hmem f hf))
    rw [hcr] at HRd
    rw [show List.drop 1 (c :: r) = r from rfl] at HRd
    have HX := hide (And.intro hX0 hb0)
    have hfl : (f0 :: fs0).length ≤ 3 := by rw [← hfs]; exact forms_len _
    obtain ⟨fs, hfs1⟩ : ∃ fs, fs = f0 :: fs0 := ⟨_, rfl⟩
    have Hfs1 := hide hfs1
    have hfp : 0 < fs.length := by rw [hfs1]; simp
    have hf0 : fs[0] = f0 := by simp [hfs1]
    rw [← hfs1] at hfl HOf HRd HOk HBad
    have hfz : ((fs.length : Int) == 0) = false := by rw [beq_eq_false_iff_ne]; omega
    clear hD hmem hnum hfs1 hfs hg0 hX0 hb0 hlong hl2 hzl hcr hnil
    go_enter Tryz.func31, Tryz.ntmps31
    go_upto_region 6 with (first
     | (rw [Hg0.out]; go_at_call 61; refine (HOf.out _).mono ?_; rintro e w1 ⟨fv, rfl, ⟨fA, fc, rfl, hS1⟩, hb1⟩)
     | fail)
    have hwc : True := trivial
    have hT := (HX.out.1.below hb1).below ((Below.refl _ _).alloc (Nat.le_refl _) (.cells #[.int .i64 (c.toNat : Nat), .string (word (c.toNat : Nat)), .slice fA fs.length fc] 115))
    have hbT : Below w.heap.size w (w1.alloc (.cells #[.int .i64 (c.toNat : Nat), .string (word (c.toNat : Nat)), .slice fA fs.length fc] 115)) := ((HX.out.2.trans (hb1.mono HX.out.2.size)).alloc (Nat.le_trans HX.out.2.size hb1.size) _)
    have hRw := Blk.new w1 115 #[.int .i64 (c.toNat : Nat), .string (word (c.toNat : Nat)), .slice fA fs.length fc]
    have hSl := hS1.alloc (.cells #[.int .i64 (c.toNat : Nat), .string (word (c.toNat : Nat)), .slice fA fs.length fc] 115)
    have hb4 : w.heap.size + 2 ≤ w1.heap.size := by have := hb1.size; simp at this; omega
    clear hS1 hb1 HX HOf
    generalize w1.alloc (.cells #[.int .i64 (c.toNat : Nat), .string (word (c.toNat : Nat)), .slice fA fs.length fc] 115) = w3 at hT hbT hRw hSl ⊢
    generalize w1.heap.size = b4 at hRw hb4 ⊢
    have z2 := hRw.cell 2
    simp at z2
    have HI0 := hide (show RDecI w (c :: r) fs c.toNat (.slice fA fs.length fc) b4 0 w3 ∧ Sl 0 w3 1 fA fs.length (fs.map Value.string) from ⟨⟨hbT, hT, hRw, rfl⟩, hSl.mono (Nat.zero_le _)⟩)
    clear hT hbT hRw hSl
    go_wp2_with fail
    clear z2
    go_loopw [5] (fun vi wr => ∃ j : Nat, vi = .int .i64 j ∧ j ≤ fs.length ∧ Hid (RDecI w (c :: r) fs c.toNat (.slice fA fs.length fc) b4 j wr ∧ Sl 0 wr 1 fA fs.length (fs.map Value.string))) (fun vi _ => fs.length - (intOf vi).toNat)
    case atStart => exact ⟨0, rfl, Nat.zero_le _, HI0⟩
    case round =>
     obtain ⟨j, rfl, hj, HI⟩ := hrel
     have hbr := HI.out.1.bel
     have hT0 := HI.out.1.two
     have hRw := HI.out.1.row
     have hrest := HI.out.1.rest
     have hSl := HI.out.2
     have z0 := hRw.cell 0
     have z1 := hRw.cell 1
     have z2 := hRw.cell 2
     simp at z0 z1 z2
     by_cases hlt : j < fs.length
     ·obtain ⟨ad, rfl, had, hc⟩ := hSl.str hlt
      have hmj := List.getElem_mem hlt
      have hjj : (j : Int) < fs.length := by omega
      rw [List.drop_eq_getElem_cons hlt] at hrest
      have HR := hide (HRd.out wr fs[j] hmj)
      have hnext := hide (fun (h : ∀ l, readFs fs[j].data.toList r 0 ≠ .ok l) => hrest.trans (firstF_no h))
      have hyes := hide (fun l (h : readFs fs[j].data.toList r 0 = .ok l) => HOk.out l (hrest.trans (firstF_of h)))
      have HS := hide (And.intro hT0 (And.intro hbr (And.intro hSl hRw)))
      have hzr : w.heap.size + 1 < wr.heap.size := hT0.e.lt
      generalize fs[j] = f at hc HR hnext hyes
      generalize readFs f.data.toList r 0 = R at HR hnext hyes
      clear hbr hT0 hRw hSl hrest HI hmj HRd HOk HBad HI0
      go_wp2_with fail
      refine HR.out.mono ?_
      rintro e w2 ⟨hb2, (⟨l, A2, c2, hR2, rfl, hF2⟩ | ⟨ps, k, hR2, hn2, hk0, hal, rfl⟩)⟩
      ·have HY := hide (hyes.out _ hR2)
       clear hR2 hyes hnext HR z0 z1 z2 hc
       go_upto_region 12 with fail
       have hbx : Below wr.heap.size wr (w2.alloc (.cells #[.int .i64 0, .string ⟨#[]⟩] 81)) := hb2.alloc hb2.size _
       have hT := HS.out.1.below hbx
       have hbT := HS.out.2.1.trans (hbx.mono (by omega))
       have hRw := HS.out.2.2.2.below hbx HS.out.2.2.2.lt
       have hE7 := Blk.new w2 81 #[.int .i64 0, .string ⟨#[]⟩]
       have hF3 := hF2.below ((Below.refl _ _).alloc (Nat.le_refl _) (.cells #[.int .i64 0, .string ⟨#[]⟩] 81))
       generalize w2.alloc (.cells #[.int .i64 0, .string ⟨#[]⟩] 81) = w3 at hT hbT hRw hE7 hF3 ⊢
       generalize w2.heap.size = b7 at hE7 ⊢
       have z0 := hRw.cell 0
       have z7 := hE7.cell 0
       simp at z0 z7
       clear HS hbx hb2 hF2
       have x0 := hT.m.cell 0
       have x1 := hT.m.cell 1
       have t0 := hT.m.frozen 0
       have t1 := hT.m.frozen 1
       have y0 := hT.e.cell 0
       have y1 := hT.e.cell 1
       have s0 := hT.e.frozen 0
       have s1 := hT.e.frozen 1
       simp at x0 x1 y0 y1
       go_wp2_with fail
       have hF := hT.set (.int .i64 (c.toNat : Nat)) (.slice A2 l.length c2) (.int .i64 0) (.string ⟨#[]⟩)
       have hbF := TwoB.bel (h := w.heap.size) hbT (Nat.le_refl _) (.int .i64 (c.toNat : Nat)) (.slice A2 l.length c2) (.int .i64 0) (.string ⟨#[]⟩)
       have hFF := TwoB.flds hF3 hzr (.int .i64 (c.toNat : Nat)) (.slice A2 l.length c2) (.int .i64 0) (.string ⟨#[]⟩)
       generalize ((((w3.setCell ⟨w.heap.size, 0, none⟩ (.int .i64 (c.toNat : Nat))).setCell ⟨w.heap.size, 1, none⟩ (.slice A2 l.length c2)).setCell ⟨w.heap.size + 1, 0, none⟩ (.int .i64 0)).setCell ⟨w.heap.size + 1, 1, none⟩ (.string ⟨#[]⟩)) = wF at hF hbF hFF ⊢
       have q0 := hF.m.cell 0
       have q1 := hF.m.cell 1
       have q2 := hF.e.cell 0
       have q3 := hF.e.cell 1
       simp at q0 q1 q2 q3
       exact bodyPost_ret (v := .tuple #[.agg #[.int .i64 (c.toNat : Nat), .slice A2 l.length c2], .agg #[.int .i64 0, .string ⟨#[]⟩]]) (by simp [results, Tryz.results31, go_sem, q0, q1, q2, q3]) rfl ⟨hbF, .inl ⟨c.toNat, l, A2, c2, HY.out, rfl, hFF.mono (by omega)⟩⟩
      ·have HN := hide (hnext.out hn2)
       have hk1 : ((k : Int) == 0) = false := by rw [beq_eq_false_iff_ne]; omega
       clear hR2 hn2 hyes hnext HR z0 z1 z2 hc hk0
       go_upto_region 12 with fail
       have hbx : Below wr.heap.size wr (w2.alloc (.cells #[.int .i64 k, .string (bs (atL ps))] 81)) := hb2.alloc hb2.size _
       have HFN := hide (show RDecI w (c :: r) fs c.toNat (.slice (some ad) fs.length fc) b4 (j + 1) (w2.alloc (.cells #[.int .i64 k, .string (bs (atL ps))] 81)) ∧ Sl 0 (w2.alloc (.cells #[.int .i64 k, .string (bs (atL ps))] 81)) 1 (some ad) fs.length (fs.map Value.string) from ⟨⟨HS.out.2.1.trans (hbx.mono (by omega)), HS.out.1.below hbx, HS.out.2.2.2.below hbx HS.out.2.2.2.lt, HN.out⟩, HS.out.2.2.1.below hbx⟩)
       have hE7 := Blk.new w2 81 #[.int .i64 k, .string (bs (atL ps))]
       clear hbx
       generalize w2.alloc (.cells #[.int .i64 k, .string (bs (atL ps))] 81) = w3 at HFN hE7 ⊢
       generalize w2.heap.size = b7 at hE7 ⊢
       have z7 := hE7.cell 0
       simp at z7
       clear HS hb2
       go_wp2_with fail
       exact ⟨⟨j + 1, by go_num, by omega, HFN⟩, by simp [intOf]; omega⟩
     ·have hjl : j = fs.length := by omega
      subst hjl
      have hjj : ¬ (fs.length : Int) < fs.length := by omega
      have hnone : firstF fs r = none := hrest.trans (by rw [List.drop_length]; rfl)
      obtain ⟨ad, rfl, had, hc⟩ := hSl.str hfp
      rw [hf0] at hc
      have had0 : ad.add 0 = ad := by
       obtain ⟨ab, ao, an⟩ := ad
       rfl
      rw [had0] at hc
      have HR := hide (HRd.out wr f0 (by rw [Hfs1.out]; simp))
      have hno := hide (fun l (h : readFs f0.data.toList r 0 = .ok l) => show False from by
       have h2 := hnone
       rw [Hfs1.out, firstF_of h] at h2
       cases h2)
      have hD := hide (HBad.out hnone)
      have HS := hide (And.intro hT0 (And.intro hbr hRw))
      have hzr : w.heap.size + 1 < wr.heap.size := hT0.e.lt
      generalize readFs f0.data.toList r 0 = R at HR hno hD
      clear hbr hT0 hRw hSl hrest HI HRd HOk HBad HI0 hnone
      go_wp2_with fail
      refine HR.out.mono ?_
      rintro e w2 ⟨hb2, (⟨l, A2, c2, hR2, rfl, hF2⟩ | ⟨ps, k, hR2, hn2, hk0, hal, rfl⟩)⟩
      ·exact (hno.out _ hR2).elim
      ·have HE := hide (show decErr D = some ((word (c.toNat : Nat)).data.toList :: ps, k) from by
        rw [hD.out]
        show Option.map _ (readErr R) = _
        rw [hR2]
        rfl)
       have hwl := word_len (c.toNat : Nat)
       generalize word (c.toNat : Nat) = wd at HE HS z1 hwl
       have HWd := hide (show wd ++ (⟨#[32]⟩ : ByteArray) ++ bs (atL ps) = bs (atL (wd.data.toList :: ps)) from bs_eq (by rw [data_append, data_append, atL_cons, bs_data]))
       have Hk0 := hide hk0
       clear hR2 hn2 HR z0 z1 z2 hc hk0 hno hD
       go_upto_region 15 with fail
       have hbx : Below wr.heap.size wr (w2.alloc (.cells #[.int .i64 k, .string (bs (atL ps))] 81)) := hb2.alloc hb2.size _
       have hT := HS.out.1.below hbx
       have hbT := HS.out.2.1.trans (hbx.mono (by omega))
       have hRw := HS.out.2.2.below hbx HS.out.2.2.lt
       have hE7 := Blk.new w2 81 #[.int .i64 k, .string (bs (atL ps))]
       generalize w2.alloc (.cells #[.int .i64 k, .string (bs (atL ps))] 81) = w3 at hT hbT hRw hE7 ⊢
       have hb7 : w.heap.size + 2 ≤ w2.heap.size := by have := hb2.size; omega
       generalize w2.heap.size = b7 at hE7 hb7 ⊢
       have z1 := hRw.cell 1
       have z7 := hE7.cell 0
       have z8 := hE7.cell 1
       simp at z1 z7 z8
       clear HS hbx hb2
       have hapl : (bs (atL ps)).size ≤ 10 := hal
       generalize bs (atL ps) = ap at HWd z8 hE7 hapl
       have x0 := hT.m.cell 0
       have x1 := hT.m.cell 1
       have t0 := hT.m.frozen 0
       have t1 := hT.m.frozen 1
       have y0 := hT.e.cell 0
       have y1 := hT.e.cell 1
       have s0 := hT.e.frozen 0
       have s1 := hT.e.frozen 1
       simp at x0 x1 y0 y1
       have hn1 : ¬ b7 = w.heap.size := by omega
       have hn2 : ¬ b7 = w.heap.size + 1 := by omega
       have hn3 : ¬ b4 = w.heap.size := by omega
       have hn4 : ¬ b4 = w.heap.size + 1 := by omega
       have hm1 : ¬ w.heap.size = b7 := by omega
       have hm2 : ¬ w.heap.size + 1 = b7 := by omega
       have hm3 : ¬ w.heap.size = b4 := by omega
       have hm4 : ¬ w.heap.size + 1 = b4 := by omega
       go_region
       go_wp2_with fail
       have hF := hT.set (.int .i64 0) (.slice none 0 0) (.int .i64 (k : Nat)) (.string (wd ++ (⟨#[32]⟩ : ByteArray) ++ ap))
       have hbF := TwoB.bel (h := w.heap.size) hbT (Nat.le_refl _) (.int .i64 0) (.slice none 0 0) (.int .i64 (k : Nat)) (.string (wd ++ (⟨#[32]⟩ : ByteArray) ++ ap))
       generalize ((((w3.setCell ⟨w.heap.size, 0, none⟩ (.int .i64 0)).setCell ⟨w.heap.size, 1, none⟩ (.slice none 0 0)).setCell ⟨w.heap.size + 1, 0, none⟩ (.int .i64 (k : Nat))).setCell ⟨w.heap.size + 1, 1, none⟩ (.string (wd ++ (⟨#[32]⟩ : ByteArray) ++ ap))) = wF at hF hbF ⊢
       have q0 := hF.m.cell 0
       have q1 := hF.m.cell 1
       have q2 := hF.e.cell 0
       have q3 := hF.e.cell 1
       simp at q0 q1 q2 q3
       exact bodyPost_ret (v := .tuple #[.agg #[.int .i64 0, .slice none 0 0], .agg #[.int .i64 (k : Nat), .string (wd ++ (⟨#[32]⟩ : ByteArray) ++ ap)]]) (by simp [results, Tryz.results31, go_sem, q0, q1, q2, q3]) rfl ⟨Below.drew hbF, .inr ⟨_, k, HE.out, Hk0.out, by rw [HWd.out]⟩⟩
theorem rdecode_anyM (pl : ByteArray) (hpl : pl.size ≤ 1000000) : Calls Tryz.prog 31 #[.string pl] w (RDecM (decS pl.data.toList) w) :=
 (rdecode_anyN pl hpl).mono fun _ _ ⟨hb, h⟩ => ⟨hb, h.imp (fun ⟨n, l, A, c, h1, h2, h3⟩ => ⟨n, l, A, c, h1, h2, h3.flds⟩) id⟩
end
end Go.Proofs.YtmgfcjpifkoahaaGreatDoor
