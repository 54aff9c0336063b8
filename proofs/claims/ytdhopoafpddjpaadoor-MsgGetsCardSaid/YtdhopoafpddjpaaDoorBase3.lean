/-
  Lemmas on bytes: a new slice of bytes turned into a string; worlds in which one block alone has turned. Conditions: none.
-/
import Derived.Test.YtdhopoafpddjpaaDoorBase2
import Derived.Laws.BytesArg
import Derived.Laws.BitsAllLaws
set_option linter.unusedVariables false
set_option linter.unusedSimpArgs false
namespace Go.Proofs.YtdhopoafpddjpaaDoor
open Go.RowKit

theorem conv_new (w : World) (xs : List Int) (n b : Nat) (hn : xs.length = n) (hb : b = w.heap.size) (C : Array Value) (hC : C = (xs.map (Value.int .u8)).toArray) (t : TypeId) :
    (convert 62 9 (.slice (some ⟨b, 0, none⟩) n n)).run Tryd.prog (w.alloc (.cells C t)) = .ok (.string (strOfNums xs)) (w.alloc (.cells C t)) := by
  subst hb hC
  refine run_convert_bytes_arg _ 62 5 Tryd.underlying62 Tryd.underlying5 _ 0 n n xs hn (fun i hi => ?_) 9 Tryd.underlying9
  have h := (Blk.new w t (xs.map (Value.int .u8)).toArray).cell i
  rw [Nat.zero_add, h]
  have hi' : i < xs.length := by omega
  simp [List.getElem?_map, List.getElem?_eq_getElem hi', List.getD]
@[go_sem] theorem conv1 (w : World) (b : Nat) (a0 : Int) (t : TypeId) (hb : b = w.heap.size) :
    (convert 62 9 (.slice (some ⟨b, 0, none⟩) 1 1)).run Tryd.prog (w.alloc (.cells #[.int .u8 a0] t)) = .ok (.string (strOfNums [a0])) (w.alloc (.cells #[.int .u8 a0] t)) :=
  conv_new w [a0] 1 b rfl hb _ rfl t
@[go_sem] theorem conv4 (w : World) (b : Nat) (a0 a1 a2 a3 : Int) (t : TypeId) (hb : b = w.heap.size) :
    (convert 62 9 (.slice (some ⟨b, 0, none⟩) 4 4)).run Tryd.prog (w.alloc (.cells #[.int .u8 a0, .int .u8 a1, .int .u8 a2, .int .u8 a3] t)) = .ok (.string (strOfNums [a0, a1, a2, a3])) (w.alloc (.cells #[.int .u8 a0, .int .u8 a1, .int .u8 a2, .int .u8 a3] t)) :=
  conv_new w [a0, a1, a2, a3] 4 b rfl hb _ rfl t
/-- .. in whatever world in which the block stands. -/
theorem conv_top (W : World) (xs : List Int) (n b c : Nat) (hn : xs.length = n) (C : Array Value) (hC : C = (xs.map (Value.int .u8)).toArray) (t : TypeId) (hb : Blk W b t C) :
    (convert 62 9 (.slice (some ⟨b, 0, none⟩) n c)).run Tryd.prog W = .ok (.string (strOfNums xs)) W := by
  subst hC
  refine run_convert_bytes_arg _ 62 5 Tryd.underlying62 Tryd.underlying5 _ 0 n c xs hn (fun i hi => ?_) 9 Tryd.underlying9
  rw [Nat.zero_add, hb.cell i]
  have hi' : i < xs.length := by omega
  simp [List.getElem?_map, List.getElem?_eq_getElem hi', List.getD]
@[go_sem] theorem conv1d (w : World) (b : Nat) (a0 : Int) (t : TypeId) (hb : b = w.heap.size) :
    (convert 62 9 (.slice (some ⟨b, 0, none⟩) 1 1)).run Tryd.prog (w.alloc (.cells #[.int .u8 a0] t)).drew = .ok (.string (strOfNums [a0])) (w.alloc (.cells #[.int .u8 a0] t)).drew := by
  subst hb
  exact conv_top _ [a0] 1 _ 1 rfl _ rfl t (Blk.drew (Blk.new w t _))
@[go_sem] theorem conv4d (w : World) (b : Nat) (a0 a1 a2 a3 : Int) (t : TypeId) (hb : b = w.heap.size) :
    (convert 62 9 (.slice (some ⟨b, 0, none⟩) 4 4)).run Tryd.prog (w.alloc (.cells #[.int .u8 a0, .int .u8 a1, .int .u8 a2, .int .u8 a3] t)).drew = .ok (.string (strOfNums [a0, a1, a2, a3])) (w.alloc (.cells #[.int .u8 a0, .int .u8 a1, .int .u8 a2, .int .u8 a3] t)).drew := by
  subst hb
  exact conv_top _ [a0, a1, a2, a3] 4 _ 4 rfl _ rfl t (Blk.drew (Blk.new w t _))
@[go_sem] theorem sizeNums1 (a : Int) : (strOfNums [a]).size = 1 := strOfNums_size _
@[go_sem] theorem sizeNums4 (a b c d : Int) : (strOfNums [a, b, c, d]).size = 4 := strOfNums_size _
@[go_sem] theorem sizeApp (a b : ByteArray) : (a ++ b).size = a.size + b.size := ByteArray.size_append
theorem conv1_below {w w2 : World} {a0 : Int} {t : TypeId} (hb : Below (w.alloc (.cells #[.int .u8 a0] t)).drew.heap.size (w.alloc (.cells #[.int .u8 a0] t)).drew w2) :
    (convert 62 9 (.slice (some ⟨w.heap.size, 0, none⟩) 1 1)).run Tryd.prog w2 = .ok (.string (strOfNums [a0])) w2 :=
  conv_top _ [a0] 1 _ 1 rfl _ rfl t ((Blk.drew (Blk.new w t _)).below hb (by simp))
theorem only_drewN {a w : World} {row : Option Nat} (h : a.grownBy w row) (n : Nat) : a.grownBy (w.drewN n) row := ⟨h.os, h.tape, h.output, h.size, h.block⟩
theorem only_drew {a w : World} {row : Option Nat} (h : a.grownBy w row) : a.grownBy w.drew row := ⟨h.os, h.tape, h.output, h.size, h.block⟩
theorem only_alloc {a w : World} {row : Option Nat} (h : a.grownBy w row) (o : Obj) : a.grownBy (w.alloc o) row :=
  ⟨h.os, h.tape, h.output, Nat.le_trans h.size (by simp), fun i hi hne => (Below.heap_alloc w o i (Nat.lt_of_lt_of_le hi h.size)).trans (h.block i hi hne)⟩
theorem only_setCell {a w : World} {g : Nat} (h : a.grownBy w (some g)) {p : Addr} (hp : p.block = g ∨ a.heap.size ≤ p.block) (u : Value) : a.grownBy (w.setCell p u) (some g) :=
  ⟨h.os, h.tape, h.output, by simpa [World.setCell] using h.size, fun i hi hne => (Below.heap_setCell w p u i (by
    rintro rfl
    rcases hp with hp | hp
    · exact hne (by rw [hp])
    · omega)).trans (h.block i hi hne)⟩
theorem only_of_below {a w : World} (h : Below a.heap.size a w) (row : Option Nat) : a.grownBy w row := ⟨h.os, h.tape, h.output, h.size, fun i hi _ => h.block i hi⟩
theorem only_refl (w : World) (row : Option Nat) : w.grownBy w row := only_of_below (Below.refl _ _) row
theorem only_trans {a b c : World} {row : Option Nat} (h : a.grownBy b row) (k : b.grownBy c row) : a.grownBy c row :=
  ⟨k.os.trans h.os, k.tape.trans h.tape, k.output.trans h.output, Nat.le_trans h.size k.size, fun i hi hn => (k.block i (Nat.lt_of_lt_of_le hi h.size) hn).trans (h.block i hi hn)⟩
theorem bel_alloc {a b : World} (h : Below a.heap.size a b) (o : Obj) : Below a.heap.size a (b.alloc o) := h.alloc h.size o
theorem data_append (a b : ByteArray) : (a ++ b).data.toList = a.data.toList ++ b.data.toList := by simp
theorem size_le_of {r : ByteArray} {l : List UInt8} (h : r.data.toList = l) : r.size ≤ l.length := by rw [← h]; exact Nat.le_refl _
/-- Only a block of the call's own has turned: below it all is as it was. -/
theorem below_only {B g : Nat} {a b c : World} (h : Below B a b) (k : b.grownBy c (some g)) (hB : B ≤ g) (hb : B ≤ b.heap.size) : Below B a c :=
  h.trans ⟨k.os, k.tape, k.output, k.size, fun i hi => k.block i (by omega) (by simp; omega)⟩
theorem Blk.only {w w' : World} {g g' : Nat} {t : TypeId} {cs : Array Value} (h : Blk w g t cs) (k : w.grownBy w' (some g')) (hne : g ≠ g') : Blk w' g t cs :=
  h.grown k (by simpa using hne)
end Go.Proofs.YtdhopoafpddjpaaDoor
