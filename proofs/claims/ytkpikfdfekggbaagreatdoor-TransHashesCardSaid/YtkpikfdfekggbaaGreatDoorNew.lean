/-
  The contract of term.New. Conditions: none.
-/
import Derived.Test.YtkpikfdfekggbaaGreatDoorMake
namespace Go.Proofs.YtkpikfdfekggbaaGreatDoor
open Go.RowKit Go.ChangeShapes Go.WideShapes

/-- What New answers: an arena without terms, all of it new. -/
def Newed (w : World) (e : Ending) (w' : World) : Prop := ∃ g S, e = .returned (.pointer (some ⟨g, 0, none⟩)) ∧ Ar w.heap.size w' g [] S ∧ Below w.heap.size w w'
theorem newed (w : World) : Newed w (.returned (.pointer (some ⟨w.heap.size + 1, 0, none⟩))) ((w.alloc (.map #[] 0)).alloc (.cells #[.slice none 0 0, .slice none 0 0, .map (some w.heap.size)] 103)) := by
  refine ⟨_, fun i => i = w.heap.size ∨ i = w.heap.size + 1, rfl, ⟨.slice none 0 0, .slice none 0 0, w.heap.size, [], .map [], ?_⟩, (bel_new _).alloc (by simp) _⟩
  have hb := Blk.new (w.alloc (.map #[] 0)) 103 #[.slice none 0 0, .slice none 0 0, .map (some w.heap.size)]
  simp only [World.size_alloc] at hb
  have hm := (World.ownsMap_made (H := Unit) w Tryz.prog 169 (plainElem Tryz.prog 34)).alloc (.cells #[.slice none 0 0, .slice none 0 0, .map (some w.heap.size)] 103)
  refine ⟨aok_nil, hb, World.ownsRow_nil _ _ _ _, rfl, fun i t us hi => by simp at hi, World.ownsRow_nil _ _ _ _, hm, idx_nil, .inr rfl, .inl rfl, fun i hi => by simp [Value.ownBlock] at hi, fun i hi => by simp [Value.ownBlock] at hi, ?_, ?_⟩
  · rintro i (rfl | rfl) <;> omega
  · rintro i (rfl | rfl) <;> first | (simp; done) | (simp; omega)
set_option maxHeartbeats 400000 in
theorem new_any (w : World) : Calls Tryz.prog 13 #[] w (Newed w) := by
  have hmm := @run_makeMap Tryz.prog
  go_enter Tryz.func13, Tryz.ntmps13
  go_wp2
  go_ret
  exact newed w
end Go.Proofs.YtkpikfdfekggbaaGreatDoor
