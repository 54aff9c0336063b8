/-
  The contracts of the reference for package schema. Conditions: none.
-/
import Derived.Test.YtcjafkanckcfbaaGreatDoorSchemaW
set_option linter.unusedVariables false
set_option linter.unusedSimpArgs false
namespace Go.Proofs.YtcjafkanckcfbaaGreatDoor
open Go.RowKit

def table : List (Int × ByteArray × List ByteArray) := [
  (1, ⟨#[100, 105, 115, 99, 111, 110, 110, 101, 99, 116]⟩, [⟨#[117, 115, 115]⟩]),
  (2, ⟨#[105, 103, 110, 111, 114, 101]⟩, [⟨#[115]⟩]),
  (3, ⟨#[117, 110, 105, 109, 112, 108, 101, 109, 101, 110, 116, 101, 100]⟩, [⟨#[117]⟩]),
  (4, ⟨#[100, 101, 98, 117, 103]⟩, [⟨#[98, 115, 115]⟩]),
  (5, ⟨#[115, 101, 114, 118, 105, 99, 101, 45, 114, 101, 113, 117, 101, 115, 116]⟩, [⟨#[115]⟩]),
  (6, ⟨#[115, 101, 114, 118, 105, 99, 101, 45, 97, 99, 99, 101, 112, 116]⟩, [⟨#[115]⟩]),
  (7, ⟨#[101, 120, 116, 45, 105, 110, 102, 111]⟩, [⟨#[101]⟩]),
  (20, ⟨#[107, 101, 120, 105, 110, 105, 116]⟩, [⟨#[99, 110, 110, 110, 110, 110, 110, 110, 110, 110, 110, 98, 117]⟩]),
  (21, ⟨#[110, 101, 119, 107, 101, 121, 115]⟩, [⟨#[]⟩]),
  (30, ⟨#[101, 99, 100, 104, 45, 105, 110, 105, 116]⟩, [⟨#[116]⟩]),
  (31, ⟨#[114, 101, 112, 108, 121, 45, 111, 114, 45, 103, 114, 111, 117, 112]⟩, [⟨#[116, 116, 116]⟩, ⟨#[109, 109]⟩]),
  (32, ⟨#[103, 101, 120, 45, 105, 110, 105, 116]⟩, [⟨#[116]⟩]),
  (33, ⟨#[103, 101, 120, 45, 114, 101, 112, 108, 121]⟩, [⟨#[116, 116, 116]⟩]),
  (34, ⟨#[103, 101, 120, 45, 114, 101, 113, 117, 101, 115, 116]⟩, [⟨#[117, 117, 117]⟩]),
  (50, ⟨#[117, 115, 101, 114, 97, 117, 116, 104, 45, 114, 101, 113, 117, 101, 115, 116]⟩, [⟨#[115, 115, 115]⟩, ⟨#[115, 115, 115, 98, 115, 116]⟩, ⟨#[115, 115, 115, 98, 115, 116, 116]⟩]),
  (51, ⟨#[117, 115, 101, 114, 97, 117, 116, 104, 45, 102, 97, 105, 108, 117, 114, 101]⟩, [⟨#[110, 98]⟩]),
  (52, ⟨#[117, 115, 101, 114, 97, 117, 116, 104, 45, 115, 117, 99, 99, 101, 115, 115]⟩, [⟨#[]⟩]),
  (53, ⟨#[117, 115, 101, 114, 97, 117, 116, 104, 45, 98, 97, 110, 110, 101, 114]⟩, [⟨#[115, 115]⟩]),
  (60, ⟨#[117, 115, 101, 114, 97, 117, 116, 104, 45, 112, 107, 45, 111, 107]⟩, [⟨#[115, 116]⟩])]

/-- The row number i of a table: its number, its word, and its forms. -/
def RowsAt (lo : Nat) (w : World) (v : Value) (l : List (Int × ByteArray × List ByteArray)) : Prop :=
  ∃ A c, v = .slice A l.length c ∧ ∀ i (h : i < l.length), ∃ ad fv, A = some ad ∧ lo ≤ ad.block ∧ ad.block < w.heap.size ∧ w.cell? (ad.add (i * 3)) = some (.int .i64 l[i].1) ∧ w.cell? (ad.add (i * 3 + 1)) = some (.string l[i].2.1) ∧ w.cell? (ad.add (i * 3 + 2)) = some fv ∧ Strs lo w fv l[i].2.2
def rowCells : Nat → List (Int × ByteArray × List ByteArray) → List Value
  | _, [] => []
  | B, r :: l => .int .i64 r.1 :: .string r.2.1 :: .slice (some ⟨B, 0, none⟩) r.2.2.length r.2.2.length :: rowCells (B + 1) l
theorem rowCells_at (B : Nat) (l : List (Int × ByteArray × List ByteArray)) (i : Nat) (h : i < l.length) : (rowCells B l)[i * 3]? = some (.int .i64 l[i].1) ∧ (rowCells B l)[i * 3 + 1]? = some (.string l[i].2.1) ∧
    (rowCells B l)[i * 3 + 2]? = some (.slice (some ⟨B + i, 0, none⟩) l[i].2.2.length l[i].2.2.length) := by
  induction l generalizing B i with
  | nil => simp at h
  | cons r l ih =>
    cases i with
    | zero => simp [rowCells]
    | succ i =>
      have := ih (B + 1) i (by simpa using h)
      simp only [Nat.add_mul, Nat.one_mul, rowCells, List.getElem_cons_succ]
      refine ⟨this.1, this.2.1, ?_⟩
      rw [show B + (i + 1) = B + 1 + i from by omega]
      exact this.2.2
def rowObjs (l : List (Int × ByteArray × List ByteArray)) : List Obj := l.map fun r => Obj.cells (r.2.2.map Value.string).toArray 9
def tableObjs (B : Nat) : List Obj := rowObjs table ++ [Obj.cells (rowCells B table).toArray 72]
theorem table_fin (w : World) : RowsAt w.heap.size (allocs w (tableObjs w.heap.size)) (.slice (some ⟨w.heap.size + 19, 0, none⟩) 19 19) table ∧ Below w.heap.size w (allocs w (tableObjs w.heap.size)) := by
  refine ⟨⟨_, _, rfl, fun i h => ?_⟩, allocs_below _ _⟩
  have h19 : i < 19 := h
  have hb : Blk (allocs w (tableObjs w.heap.size)) (w.heap.size + 19) 72 (rowCells w.heap.size table).toArray := allocs_at w (tableObjs w.heap.size) (k := 19) rfl
  obtain ⟨h1, h2, h3⟩ := rowCells_at w.heap.size table i h
  have hs : Blk (allocs w (tableObjs w.heap.size)) (w.heap.size + i) 9 (table[i].2.2.map Value.string).toArray := by
    refine allocs_at w (tableObjs w.heap.size) (k := i) ?_
    rw [tableObjs, List.getElem?_append_left (by simpa [rowObjs] using h), rowObjs, List.getElem?_map, List.getElem?_eq_getElem h]
    rfl
  refine ⟨_, _, rfl, Nat.le_add_right _ _, hb.lt, ?_, ?_, ?_, hs.strs (Nat.le_add_right _ _) table[i].2.2.length⟩
  · rw [add_zero_, hb.cell, List.getElem?_toArray]; exact h1
  · rw [add_zero_, hb.cell, List.getElem?_toArray]; exact h2
  · rw [add_zero_, hb.cell, List.getElem?_toArray]; exact h3
set_option maxHeartbeats 4000000 in
theorem table_any (w : World) : Calls Tryz.prog 68 #[] w fun e w' => ∃ v, e = .returned v ∧ RowsAt w.heap.size w' v table ∧ Below w.heap.size w w' := by
  go_enter Tryz.func68, Tryz.ntmps68
  go_wp2
  go_ret
  exact ⟨_, rfl, table_fin w⟩
end Go.Proofs.YtcjafkanckcfbaaGreatDoor
