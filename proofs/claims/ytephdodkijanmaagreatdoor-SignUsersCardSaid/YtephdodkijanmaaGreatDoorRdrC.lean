/-
  The contracts of code's counted, of the five makers that term hands to with, and of with for each of them. Conditions: at most MaxTerm bytes.
-/
import Derived.Test.YtephdodkijanmaaGreatDoorRdrB
import Derived.Test.YtephdodkijanmaaGreatDoorFr
set_option linter.unusedVariables false
set_option linter.unusedSimpArgs false
namespace Go.Proofs.YtephdodkijanmaaGreatDoor
open Go.RowKit Go.ChangeShapes Go.WideShapes Go.Sort
section
variable {B b g p N : Nat} {s : ByteArray} {T : List Tm} {S : Nat → Prop} {w w1 : World}
/-- The numbers of a row that some made. -/
theorem ido_cells {B0 n : Nat} {A : Option Addr} {c : Nat} {l : List Tm} (h : IdO B0 w T (l.map some) (.slice A n c) S) (hn : l.length = n) (h0 : 0 < n) : ∃ gb, A = some ⟨gb, 0, none⟩ ∧ gb < w.heap.size ∧ ∀ (k : Nat) (t : Tm), l[k]? = some t → ∃ m : Int, w.cell? ⟨gb, k, none⟩ = some (.int .i64 m) ∧ Idn T (some t) m := by
  obtain ⟨⟨ns, h1, h2⟩, h3⟩ := h
  have hl : (l.map some).length = n := by simpa using hn
  rw [hl] at h1
  obtain ⟨gb, cap, hv, _, hlt⟩ := h1.form h0
  have hA : A = some ⟨gb, 0, none⟩ := by injection hv
  refine ⟨gb, hA, hlt, fun k t hk => ?_⟩
  have hkl := (List.getElem?_eq_some_iff.1 hk).1
  have hns : k < ns.length := by rw [h2.1]; simpa using hkl
  have hc := h1.cells (g := gb) (by rw [hv]; rfl) k (.int .i64 ns[k]) (by rw [List.getElem?_map, List.getElem?_eq_getElem hns]; rfl)
  rw [add_zero_] at hc
  exact ⟨ns[k], hc, h2.2 k (some t) _ (by rw [List.getElem?_map, hk]; rfl) (List.getElem?_eq_getElem hns)⟩
theorem arg_of {n : Int} {t : Tm} (h : Idn T (some t) n) : arg T n = some t := h.1

end
end Go.Proofs.YtephdodkijanmaaGreatDoor
