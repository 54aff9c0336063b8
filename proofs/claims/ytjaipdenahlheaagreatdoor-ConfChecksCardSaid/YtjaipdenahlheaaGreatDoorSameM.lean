/-
  The contract of law07's Same of equal messages. Conditions: at most 1,000 values; lists of at most 1,000,000,000 texts.
-/
import Derived.Test.YtjaipdenahlheaaGreatDoorEncG
import Derived.Test.YtjaipdenahlheaaGreatDoorReadW
set_option linter.unusedVariables false
set_option linter.unusedSimpArgs false
namespace Go.Proofs.YtjaipdenahlheaaGreatDoor
open Go.RowKit Go.ChangeShapes Go.WideShapes Go.Sort
theorem blk_two1 (w : World) (cs : Array Value) (t : TypeId) (o : Obj) : Blk ((w.alloc (.cells cs t)).alloc o).drew w.heap.size t cs := (Blk.new w t cs).alloc o
theorem blk_two2 (w : World) (cs : Array Value) (t : TypeId) (o : Obj) : Blk ((w.alloc o).alloc (.cells cs t)).drew (w.heap.size + 1) t cs := blk_new2 w o t cs
theorem below_two (w : World) (o o2 : Obj) : Below w.heap.size w ((w.alloc o).alloc o2).drew := by (repeat (first | exact Below.refl _ _ | refine below_drewN ?_ _ | refine Below.drew ?_ | refine Below.alloc ?_ (by first | omega | (simp; done) | (simp; omega)) _ | refine Below.setCell ?_ (by first | omega | (simp; done) | (simp; omega)) _ | refine bel_alloc ?_ _ | refine bel_trans ?_ (by assumption) | refine Below.trans ?_ (Below.mono (by assumption) (by first | omega | (simp; done) | (simp; omega)))))
theorem cell_spot {w : World} {b o : Nat} {s : Option Nat} {v : Value} (h : w.cell? ⟨b, o, s⟩ = some v) : s = none := by
  unfold World.cell? at h
  cases s with
  | none => rfl
  | some x =>
    simp only at h
    split at h
    · simp at h
    · cases h
section
variable {w : World}
end
end Go.Proofs.YtjaipdenahlheaaGreatDoor
