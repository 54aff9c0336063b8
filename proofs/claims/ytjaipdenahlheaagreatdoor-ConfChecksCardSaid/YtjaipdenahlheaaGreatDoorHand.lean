/-
  From what is listed of the library's handle to its cell; a world that meets the list. Conditions: none.
-/
import Derived.Test.YtjaipdenahlheaaGreatDoorCard
import Derived.Test.YtjaipdenahlheaaGreatDoorAs
set_option linter.unusedVariables false
set_option linter.unusedSimpArgs false
namespace Go.Proofs.YtjaipdenahlheaaGreatDoor
open Go.ChangeShapes Go.WideShapes Go.ChangeAt Go.RowKit
def dataL : List (String × DataW Unit) := [("shibboleth/prefs.methods", Rows.laid_shibboleth_prefs_methods), ("shibboleth/prefs.words", Rows.laid_shibboleth_prefs_words)]
def handL : List (String × DataW Unit) := [("errors.errorType", Rows.laid_errors_errorType)]
def allHL : List (String × DataW Unit) := [("errors.errorType", Rows.laid_errors_errorType), ("shibboleth/prefs.methods", Rows.laid_shibboleth_prefs_methods), ("shibboleth/prefs.words", Rows.laid_shibboleth_prefs_words)]
theorem hd_et : Tryz.prog.globalNamed "errors.errorType" = some 1 := by kernel_rfl
theorem hd_rt : (Tryz.prog.cutTypes.find? (·.1 == "internal/reflectlite.rtype")).map (·.2) = some 184 := by kernel_rfl
theorem hd_size : Tryz.prog.types.size = 283 := by kernel_rfl
theorem hd_oneRow : ((List.range 283).filter fun t => Tryz.prog.rowNamed t [101, 114, 114, 111, 114]) = [34] := by kernel_rfl
theorem hand_split {W : World} (h : laidMetH Tryz.prog allHL W) : laidMet Tryz.prog dataL W ∧ handlesMet Tryz.prog handL W := h
theorem hand_of_met {W : World} (h : handlesMet Tryz.prog handL W) : Hand W := by
  obtain ⟨name, u, ty, e1, e2, e3, e4, e5⟩ := h _ (List.mem_singleton.2 rfl)
  have en : name = [101, 114, 114, 111, 114] := (Option.some.inj e1).symm
  subst en
  obtain rfl := Option.some.inj (hd_rt.symm.trans e2)
  have hm : ty ∈ (List.range 283).filter fun t => Tryz.prog.rowNamed t [101, 114, 114, 111, 114] := List.mem_filter.2 ⟨List.mem_range.2 (by rw [← hd_size]; exact e3), e4⟩
  rw [hd_oneRow] at hm
  obtain rfl := List.mem_singleton.1 hm
  have hh : typeHandle Tryz.prog 34 = .pointer (some ⟨9, 34, none⟩) := by kernel_rfl
  rw [hh] at e5
  unfold Hand
  simpa using World.var?_cell hd_et e5 0
/-- A world that meets the list. -/
noncomputable def baseW (os : Os) : World :=
  let w0 := World.holding Tryz.prog os ⟨#[], #[], []⟩
  { w0 with heap := w0.heap.modify 1 fun
      | .cells _ t frozen => .cells #[.iface 184 (.agg #[.pointer (some ⟨9, 34, none⟩)])] t frozen
      | o => o }
noncomputable def handWorld (os : Os) : World := (baseW os).layVars Tryz.prog dataL
theorem handWorld_os (os : Os) : (handWorld os).os = os := (World.layVars_os _ _ _).trans rfl
theorem handWorld_shaped (os : Os) : (handWorld os).Shaped Tryz.prog := World.shaped_of_ZipB (by kernel_rfl) (by kernel_rfl)
theorem dataL_met (os : Os) : laidMet Tryz.prog dataL (handWorld os) := by
  have e1 : (dataL.filter fun x => (dataL.map (·.1)).contains x.1) = dataL := List.filter_eq_self.2 fun x hx => List.contains_iff_mem.2 (List.mem_map.2 ⟨x, hx, rfl⟩)
  have e2 : (dataL.filter fun x => !(dataL.map (·.1)).contains x.1) = [] := List.filter_eq_nil_iff.2 fun x hx => by rw [List.contains_iff_mem.2 (List.mem_map.2 ⟨x, hx, rfl⟩)]; simp
  exact laidMet_layVars (w0 := baseW os) (dataL.map (·.1)) [] (by rw [e1]; rfl) (by rw [e1]; kernel_rfl) (by rw [e1]; kernel_rfl) (by rw [e2]; exact LaidIn.none)
theorem laidMetH_hand (os : Os) (args : Array Value) : laidMetH Tryz.prog allHL ((handWorld os).forCall (fun _ _ => 0) ⟨#[], args, []⟩).memory :=
  laidMetH_of_parts ((dataL_met os).of_heap (by simp [World.memory, World.forCall, Input.heap])) (by kernel_rfl)
end Go.Proofs.YtjaipdenahlheaaGreatDoor
