/-
  CodeApart's walk. Conditions: few makes, fitting numbers and texts.
-/
import Derived.Test.YtephdodkijanmaaGreatDoorEnc02
set_option linter.unusedVariables false
set_option linter.unusedSimpArgs false
namespace Go.Proofs.YtephdodkijanmaaGreatDoor
open Go.RowKit Go.ChangeShapes Go.WideShapes Go.Sort
/-- Bytes with others behind them are no term's. -/
theorem enc_more {t : Tm} (ht : good t) {r : List UInt8} (hr : r ≠ []) : ∀ u, good u → enc t ++ r ≠ enc u := fun u hu e => by
  have := (enc_inj t u r [] ht hu (by rw [e, List.append_nil])).2
  exact hr this
theorem enc_less {t : Tm} (ht : good t) : ∀ u, good u → (enc t).dropLast ≠ enc u := fun u hu e => by
  have h1 : enc t = enc u ++ [(enc t).getLast (enc_ne t)] := by
    rw [← e, List.dropLast_concat_getLast]
  have := (enc_inj u t [(enc t).getLast (enc_ne t)] [] hu ht (by rw [← h1, List.append_nil])).2
  cases this
theorem enc_pre {t u : Tm} (ht : good t) (hu : good u) (hlt : (enc t).length < (enc u).length) : (enc u).take (enc t).length ≠ enc t := fun e => by
  have h1 : enc u = enc t ++ (enc u).drop (enc t).length := by
    have h2 := List.take_append_drop (enc t).length (enc u)
    rw [e] at h2
    exact h2.symm
  have h3 := congrArg List.length (enc_inj t u _ [] ht hu (by rw [← h1, List.append_nil])).2
  rw [List.length_drop] at h3
  simp at h3
  omega
section
variable {w : World}
end
theorem bs_more (l : List UInt8) (s : ByteArray) : bs l ++ s = bs (l ++ s.data.toList) := by
  apply toList_inj
  rw [bs_data, ByteArray.data_append, Array.toList_append, bs_data]
section
variable {B g : Nat} {T : List Tm} {S : Nat → Prop} {w : World}
end
/-- An arena, what was made, and its box. -/
structure ApS (w : World) (B0 B g : Nat) (T : List Tm) (S : Nat → Prop) (ms : List (Option Tm)) (v1 v2 : Value) (b7 : Nat) (W : World) : Prop where
  fr : Fr B g w T S [(b7, 34, #[v1, v2])] W
  mdo : MdO B0 W T ms v1 v2 S
section
variable {B0 B g b7 : Nat} {w W W' : World} {T T' : List Tm} {S S' : Nat → Prop} {ms : List (Option Tm)} {v1 v2 : Value}
theorem ApS.below (h : ApS w B0 B g T S ms v1 v2 b7 W) (hb : Below W.heap.size W W') : ApS w B0 B g T S ms v1 v2 b7 W' :=
  ⟨h.fr.below hb, h.mdo.grown (Grown.of_below hb) (List.prefix_refl _)⟩
theorem ApS.grown (h : ApS w B0 B g T S ms v1 v2 b7 W) (hG : Grown S W S' W') (hA : Ar B W' g T' S') (hp : T <+: T') (hf : T'.length ≤ 1000000000) : ApS w B0 B g T' S' ms v1 v2 b7 W' :=
  ⟨h.fr.grown hG hA hf, h.mdo.grown hG hp⟩
theorem ApS.nb (h : ApS w B0 B g T S ms v1 v2 b7 W) : ¬ S b7 := (h.fr.blks (b7, 34, #[v1, v2]) List.mem_cons_self).2
theorem ApS.blk (h : ApS w B0 B g T S ms v1 v2 b7 W) : Blk W b7 34 #[v1, v2] := h.fr.blk (by simp)
end
theorem aps_new {w w3 w4 : World} {g : Nat} {S S4 : Nat → Prop} {T4 : List Tm} {l : List Mk} {v1 v2 : Value} (hU : Use w.heap.size w3 g [] S) (hb3 : Below w.heap.size w w3) (hmd : MdO w3.heap.size w4 T4 (makes l) v1 v2 S4) (hA4 : Ar w.heap.size w4 g T4 S4) (hG4 : Grown S w3 S4 w4) (hf : T4.length ≤ 1000000000) :
    ApS w w3.heap.size w.heap.size g T4 S4 (makes l) v1 v2 w4.heap.size (w4.alloc (.cells #[v1, v2] 34)) := by
  have h0 : Fr w.heap.size g w [] S [] w3 := ⟨hb3, hU, Nat.le_refl _, fun x hx => by simp at hx⟩
  exact ⟨(h0.grown hG4 hA4 hf).new _ _, hmd.grown (Grown.of_below (bel_new _)) (List.prefix_refl _)⟩
section
variable {w : World}
end
end Go.Proofs.YtephdodkijanmaaGreatDoor
