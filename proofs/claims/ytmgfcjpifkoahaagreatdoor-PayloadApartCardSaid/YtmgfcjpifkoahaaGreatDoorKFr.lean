/-
  What stands beside an arena while a call goes on: blocks of the call's own that no arena has. Conditions: none.
-/
import Derived.Test.YtmgfcjpifkoahaaGreatDoorKMakesA
set_option linter.unusedVariables false
set_option linter.unusedSimpArgs false
namespace Go.Proofs.YtmgfcjpifkoahaaGreatDoor
open Go.RowKit Go.ChangeShapes Go.WideShapes Go.Sort

structure Fr (B g : Nat) (w : World) (T : List Tm) (S : Nat → Prop) (bs : List (Nat × TypeId × Array Value)) (W : World) : Prop where
 bel : Below w.heap.size w W
 use : Use B W g T S
 wB : w.heap.size ≤ B
 blks : ∀ x ∈ bs, Blk W x.1 x.2.1 x.2.2 ∧ ¬ S x.1
section
variable {B g : Nat} {w W W' : World} {T T' : List Tm} {S S' : Nat → Prop} {bs : List (Nat × TypeId × Array Value)}
theorem Grown.notin2 (h : Grown S W S' W') {b : Nat} (hb : ¬ S b) (hlt : b < W.heap.size) : ¬ S' b := fun h2 => by
 rcases h.new b h2 with h3 | h3
 ·exact hb h3
 ·omega
theorem Fr.below (h : Fr B g w T S bs W) (hb : Below W.heap.size W W') : Fr B g w T S bs W' :=
 ⟨h.bel.trans (hb.mono h.bel.size), h.use.below hb, h.wB, fun x hx => ⟨(h.blks x hx).1.below hb (h.blks x hx).1.lt, (h.blks x hx).2⟩⟩
theorem Fr.grown (h : Fr B g w T S bs W) (hG : Grown S W S' W') (hA : Ar B W' g T' S') (hf : T'.length ≤ 1000000000) : Fr B g w T' S' bs W' :=
 ⟨h.bel.trans ((hG.below h.use.base h.use.ar.sB).mono h.wB), h.use.grown hG hA hf, h.wB, fun x hx => ⟨hG.outs.blk (h.blks x hx).1 (h.blks x hx).2, hG.notin2 (h.blks x hx).2 (h.blks x hx).1.lt⟩⟩
theorem Fr.new (h : Fr B g w T S bs W) (t : TypeId) (cs : Array Value) : Fr B g w T S ((W.heap.size, t, cs) :: bs) (W.alloc (.cells cs t)) := by
 have h2 := h.below (bel_new (.cells cs t))
 refine ⟨h2.bel, h2.use, h2.wB, fun x hx => ?_⟩
 rcases List.mem_cons.1 hx with rfl | hx
 ·exact ⟨Blk.new _ _ _, fun hc => by have := h.use.ar.sL _ hc; simp at this⟩
 ·exact h2.blks x hx
theorem Fr.drop (h : Fr B g w T S bs W) {bs' : List (Nat × TypeId × Array Value)} (hs : ∀ x ∈ bs', x ∈ bs) : Fr B g w T S bs' W := ⟨h.bel, h.use, h.wB, fun x hx => h.blks x (hs x hx)⟩
theorem Fr.blk {b : Nat} {t : TypeId} {cs : Array Value} (h : Fr B g w T S bs W) (hx : (b, t, cs) ∈ bs) : Blk W b t cs := (h.blks _ hx).1
end
end Go.Proofs.YtmgfcjpifkoahaaGreatDoor
