/-
  The contracts of package msg's truth, pairs and get. Conditions: texts of at most 1,000,000 bytes; the library's own number is there.
-/
import Derived.Test.YtjaipdenahlheaaDoorKMsgG
import Derived.Test.YtjaipdenahlheaaDoorKRefA
import Derived.Test.YtjaipdenahlheaaDoorKPureA
import Derived.Test.YtjaipdenahlheaaDoorKShelf
import Derived.Test.YtjaipdenahlheaaDoorKNam
import Derived.Test.YtjaipdenahlheaaDoorKPutM
import Derived.Test.YtjaipdenahlheaaDoorKChn
import Derived.Deep.RegionHeld3
import Derived.Deep.DeepCutAuto
set_option linter.unusedVariables false
set_option linter.unusedSimpArgs false
namespace Go.Proofs.YtjaipdenahlheaaDoor
open Go.RowKit Go.ChangeShapes Go.WideShapes Go.Sort
theorem NewC.txc {lo : Nat} {w' : World} {v : Value} {ls : List (List UInt8)} (h : NewC lo w' v ls) : Txc w' v ls := by
  obtain ⟨A, c, rfl, hc, hS⟩ := h
  exact ⟨⟨A, c, by rw [List.length_map], by rw [List.length_map]; exact hS.mono (Nat.zero_le _)⟩, A, c, rfl, hc⟩
theorem NewC.keep {lo : Nat} {w w' : World} {v : Value} {ls : List (List UInt8)} {g : Nat} (h : NewC lo w v ls) (ho : w.grownBy w' (some g)) (hg : g < lo) : NewC lo w' v ls := by
  obtain ⟨A, c, rfl, hc, hS⟩ := h
  refine ⟨A, c, rfl, hc, hS.1, fun hn => ?_⟩
  obtain ⟨ad, e, h1, h2, h3⟩ := hS.2 hn
  exact ⟨ad, e, h1, Nat.lt_of_lt_of_le h2 ho.size, fun j u hu => (World.cell?_of_block (ho.block _ (by rw [block_of_add]; exact h2) (fun e2 => by have := Option.some.inj e2; rw [block_of_add] at this; omega))).trans (h3 j u hu)⟩
end Go.Proofs.YtjaipdenahlheaaDoor
