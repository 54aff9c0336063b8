/-
  The contracts of package msg's pairs, and of get at whatever letter. Conditions: texts of at most 1,000,000 bytes; the library's own number is there.
-/
import Derived.Test.YtjaipdenahlheaaDoorKGetW
set_option linter.unusedVariables false
set_option linter.unusedSimpArgs false
namespace Go.Proofs.YtjaipdenahlheaaDoor
open Go.RowKit Go.ChangeShapes Go.WideShapes Go.Sort
section
variable {w : World} {g p : Nat} {s : ByteArray}

theorem newC_own {w : World} {B n c : Nat} {A : Option Addr} {e : TypeId} {ls : List (List UInt8)} (h : w.ownsRow B e 1 (.slice A n c) n ((ls.map bs).map Value.string)) (hn : n = ls.length) : NewC B w (.slice A n c) ls := by
  subst hn
  have hc : ls.length ≤ c := by
    rcases h.2 with ⟨e1, e2⟩ | ⟨g, cap, cur, e1, _, _, hnc, _⟩
    · injection e1 with _ e3 e4
      omega
    · injection e1 with _ _ e4
      omega
  refine ⟨A, c, rfl, hc, by rw [List.length_map, List.length_map, Nat.mul_one], fun hp => ?_⟩
  obtain ⟨g, cap, hv, _, hlt⟩ := h.form hp
  have hA : A = some ⟨g, 0, none⟩ := by injection hv
  subst hA
  exact ⟨_, rfl, (h.lt g rfl).1, hlt, h.cells (g := g) rfl⟩
end
end Go.Proofs.YtjaipdenahlheaaDoor
