/-
  CodeEncodes' walk. Conditions: few makes, fitting numbers.
-/
import Derived.Test.YtmgfcjpifkoahaaGreatDoorKOpqG
import Derived.Test.YtmgfcjpifkoahaaGreatDoorKFewL
set_option linter.unusedVariables false
set_option linter.unusedSimpArgs false
namespace Go.Proofs.YtmgfcjpifkoahaaGreatDoor
open Go.RowKit Go.ChangeShapes Go.WideShapes Go.Sort
section
variable {B0 n c1 c2 : Nat} {w w' : World} {T T' : List Tm} {ms : List (Option Tm)} {A1 A2 : Option Addr} {S S' : Nat → Prop}
theorem mdo_at (h : MdO B0 w T ms (.slice A1 n c1) (.slice A2 n c2) S) (hn : ms.length = n) {i : Nat} {o : Option Tm} (hi : ms[i]? = some o) :
  ∃ g1 g2 m, A1 = some ⟨g1, 0, none⟩ ∧ A2 = some ⟨g2, 0, none⟩ ∧ ¬ S g1 ∧ ¬ S g2 ∧ g1 < w.heap.size ∧ g2 < w.heap.size ∧ w.cell? ⟨g1, i, none⟩ = some (.int .i64 m) ∧ w.cell? ⟨g2, i, none⟩ = some (.string (bs (txt o))) ∧ Idn T o m := by
 obtain ⟨⟨ns, h1, h2⟩, h3, h4, h5⟩ := h
 have hlt := (List.getElem?_eq_some_iff.1 hi).1
 obtain ⟨g1, cap1, hv1, _, hl1⟩ := h1.form (by omega)
 obtain ⟨g2, cap2, hv2, _, hl2⟩ := h3.form (by omega)
 have e1 : A1 = some ⟨g1, 0, none⟩ := by injection hv1
 have e2 : A2 = some ⟨g2, 0, none⟩ := by injection hv2
 subst e1 e2
 have hns : i < ns.length := by rw [h2.1]; exact hlt
 have k1 := h1.cells (g := g1) rfl i (.int .i64 ns[i]) (by rw [List.getElem?_map, List.getElem?_eq_getElem hns]; rfl)
 have k2 := h3.cells (g := g2) rfl i (.string (bs (txt o))) (by rw [List.getElem?_map, List.getElem?_map, List.getElem?_map, hi]; rfl)
 rw [add_zero_] at k1 k2
 exact ⟨g1, g2, ns[i], rfl, rfl, h4 g1 rfl, h5 g2 rfl, hl1, hl2, k1, k2, h2.2 i o _ hi (List.getElem?_eq_getElem hns)⟩
end
structure EnS (w : World) (B0 Ba ga : Nat) (Ta : List Tm) (Sa : Nat → Prop) (Bb gb : Nat) (Tb : List Tm) (Sb : Nat → Prop) (ms : List (Option Tm)) (v1 v2 : Value) (b7 : Nat) (W : World) : Prop where
 two : Duo w Ba ga Ta Sa Bb gb Tb Sb W
 mdo : MdO B0 W Ta ms v1 v2 (SU Sa Sb)
 blk : Blk W b7 37 #[v1, v2]
 nb : ¬ SU Sa Sb b7
section
variable {B0 Ba ga Bb gb b7 : Nat} {w W W' : World} {Ta Ta' Tb Tb' : List Tm} {Sa Sa' Sb Sb' : Nat → Prop} {ms : List (Option Tm)} {v1 v2 : Value}
theorem EnS.below (h : EnS w B0 Ba ga Ta Sa Bb gb Tb Sb ms v1 v2 b7 W) (hb : Below W.heap.size W W') : EnS w B0 Ba ga Ta Sa Bb gb Tb Sb ms v1 v2 b7 W' :=
 ⟨h.two.below hb, h.mdo.grown (Grown.of_below hb) (List.prefix_refl _), h.blk.below hb h.blk.lt, h.nb⟩
end
theorem enc_toList_ne (t : Tm) : ((bs (enc t)).toList == []) = false := by
 rw [bs_toList]
 simp [enc_ne]
end Go.Proofs.YtmgfcjpifkoahaaGreatDoor
