/-
  The last step of a law, once for all laws of this seat: a call that returns true and leaves what was there as it was meets the given specification; and arguments that are arrays of integers or bools. Conditions: none.
-/
import Derived.Test.YtdhopoafpddjpaaDoorBase
import Derived.ProofKit
import Derived.OpenShut
import Derived.ChangeOld
import Derived.HandedShaped
set_option linter.unusedVariables false
set_option linter.unusedSimpArgs false
namespace Go.Proofs.YtdhopoafpddjpaaDoor
open Go.ChangeShapes Go.WideShapes Go.ChangeAt Go.RowKit
open Go.ChangeMaps (open_string shut_string)

theorem own : ownKnob Tryd.prog.godebug = none := by kernel_rfl
theorem laidOut : laidOutB Tryd.prog = true := by kernel_rfl

section
variable {H : Type} {enc : TypeId × Value → H} {P : Program}
theorem trodAll_below {W W' : World} (hl : laidOutB P = true) (hb : Below W.heap.size W W') : ∀ (ts : List TypeId) (vs : List Value) (ds : List (DataW H)) (ps : List MemPlace),
    ts.all (fun t => P.readableRec t && decide (t < P.types.size)) = true → DataW.TrodAll enc P W 0 (fun _ => true) true ts vs ds ps →
    DataW.TrodAll enc P W' 0 (fun b => decide (b < W.heap.size)) true ts vs ds ps := by
  intro ts
  induction ts with
  | nil =>
    intro vs ds ps _ h
    obtain ⟨rfl, rfl, rfl⟩ := trodAll_nil h
    exact trodAll_mk0
  | cons t ts ih =>
    intro vs ds ps hr h
    obtain ⟨v, vs', d, ds', p, q, rfl, rfl, rfl, h0, h1⟩ := trodAll_cons h
    simp only [List.all_cons, Bool.and_eq_true, decide_eq_true_eq] at hr
    have hlt : ∀ x ∈ p, x.block < W.heap.size := by
      obtain ⟨m, hm⟩ := h0
      exact DataW.trod_lt m _ _ _ hm
    exact trodAll_cons_mk (Below.trod hl hr.1.1 hr.1.2 h0 hb hlt) (ih _ _ _ hr.2 h1)

theorem law_post {f : Func} {s : ChangeSpec} {W W' : World} {args : Array Value} {ds gs : List (DataW H)} {before : List MemPlace} (tb : TypeId) (hl : laidOutB P = true)
    (hr : f.params.toList.all (fun t => P.readableRec t && decide (t < P.types.size)) = true) (hres : f.resultTypes = #[tb]) (htb : P.underlying tb = some .bool) (hv : s.vars = [])
    (hW : DataW.Whole enc P f.params.toList s.vars false W args.toList ds gs before)
    (hs : ∀ ds' : List (DataW H), ds'.length = ds.length → ds' = ds → s.fn H ds' = { results := [.lit (.bool true)], args := ds' })
    (bel : Below W.heap.size W W') : s.post enc P f false true false false W args (.bool true) W' := by
  have hW' := hW
  obtain ⟨p, q, hA, hV, rfl, hfz, hnd⟩ := hW
  have hgs : gs = [] ∧ q = [] := by
    rw [hv] at hV
    exact trodVars_none hV
  obtain ⟨rfl, rfl⟩ := hgs
  have e := hs ds rfl rfl
  refine ⟨ds, [], _, [], p, [], hW', ?_, ?_, ?_, bel.frame _, fun h => by cases h⟩
  · rw [List.append_nil, e, hres]
    exact trodAll_mk1 (shut_bool htb _)
  · rw [List.append_nil, e]
    exact trodAll_below hl bel _ _ _ _ hr hA
  · rw [List.append_nil, e, hv]
    rfl

theorem okWide_array {W : World} {r : Reach} {b0 : Nat} {t e : TypeId} {n : Nat} {v : Value} (ht : P.underlying t = some (.array n e)) (hv : Value.okWide P W r b0 t v) : ∃ cs, v = .agg cs ∧ cs.size = P.cellsOf t := by
  simp only [Value.okWide, ht] at hv
  obtain ⟨cs, h1, h2, _⟩ := hv
  exact ⟨cs, h1, h2⟩
theorem one_at {α : Type} (cs : List α) (i : Nat) (h : i < cs.length) : (cs.drop (i * 1)).take 1 = [cs[i]] := by
  rw [Nat.mul_one, List.drop_eq_getElem_cons h]; rfl
/-- An array of integers that came in. -/
theorem open_arr_int {W : World} {r : Reach} {b0 base : Nat} {sp : Nat → Bool} {hd : Bool} {t e : TypeId} {n : Nat} {k : IntKind} {v : Value} {d : DataW H} {ps : List MemPlace} (ht : P.underlying t = some (.array n e)) (he : P.underlying e = some (.int k)) (hC : P.cellsOf t = n) (h1 : P.cellsOf e = 1)
    (hv : Value.okWide P W r b0 t v) (h : DataW.Trod enc P W base sp hd t v d ps) : ∃ l : List Int, l.length = n ∧ v = .agg (l.map (Value.int k)).toArray ∧ ∀ x ∈ l, (Lit.int k x).wf = true := by
  obtain ⟨cs, rfl, hsz⟩ := okWide_array ht hv
  obtain ⟨fuel, hf⟩ := h
  obtain ⟨xs, m, _, _, hl, hxl, hg⟩ := Go.DataW.trod_array ht hf
  obtain ⟨cs⟩ := cs
  have hcl : cs.length = n := hsz.trans hC
  have hall : ∀ i (hi : i < cs.length), ∃ x, cs[i] = .int k x ∧ (Lit.int k x).wf = true := by
    intro i hi
    have hi' : i < n := by omega
    have h2 := hg i hi'
    rw [h1] at h2
    have h3 := one_at cs i hi
    simp only [Value.cells] at h2
    rw [h3, List.getElem?_eq_getElem (by omega)] at h2
    obtain ⟨x, hx, _, hw⟩ := DataW.trod_int he h2
    exact ⟨x, by simpa using hx, hw⟩
  refine ⟨cs.map (fun c => match c with | .int _ x => x | _ => 0), by simpa using hcl, ?_, ?_⟩
  · congr 1
    rw [List.map_map]
    refine Array.ext' (List.ext_getElem (by simp) fun i h2 h3 => ?_)
    simp only [List.getElem_map, Function.comp_apply]
    obtain ⟨x, hx, _⟩ := hall i (by simpa using h2)
    rw [hx]
  · intro x hx
    obtain ⟨c, hc, rfl⟩ := List.mem_map.1 hx
    obtain ⟨i, hi, rfl⟩ := List.getElem_of_mem hc
    obtain ⟨y, hy, hw⟩ := hall i hi
    rw [hy]
    exact hw
/-- An array of bools that came in. -/
theorem open_arr_bool {W : World} {r : Reach} {b0 base : Nat} {sp : Nat → Bool} {hd : Bool} {t e : TypeId} {n : Nat} {v : Value} {d : DataW H} {ps : List MemPlace} (ht : P.underlying t = some (.array n e)) (he : P.underlying e = some .bool) (hC : P.cellsOf t = n) (h1 : P.cellsOf e = 1)
    (hv : Value.okWide P W r b0 t v) (h : DataW.Trod enc P W base sp hd t v d ps) : ∃ l : List Bool, l.length = n ∧ v = .agg (l.map Value.bool).toArray := by
  obtain ⟨cs, rfl, hsz⟩ := okWide_array ht hv
  obtain ⟨fuel, hf⟩ := h
  obtain ⟨xs, m, _, _, hl, hxl, hg⟩ := Go.DataW.trod_array ht hf
  obtain ⟨cs⟩ := cs
  have hcl : cs.length = n := hsz.trans hC
  have hall : ∀ i (hi : i < cs.length), ∃ x, cs[i] = .bool x := by
    intro i hi
    have hi' : i < n := by omega
    have h2 := hg i hi'
    rw [h1] at h2
    have h3 := one_at cs i hi
    simp only [Value.cells] at h2
    rw [h3, List.getElem?_eq_getElem (by omega)] at h2
    obtain ⟨x, hx, _⟩ := DataW.trod_bool he h2
    exact ⟨x, by simpa using hx⟩
  refine ⟨cs.map (fun c => match c with | .bool x => x | _ => false), by simpa using hcl, ?_⟩
  congr 1
  rw [List.map_map]
  refine Array.ext' (List.ext_getElem (by simp) fun i h2 h3 => ?_)
  simp only [List.getElem_map, Function.comp_apply]
  obtain ⟨x, hx⟩ := hall i (by simpa using h2)
  rw [hx]
end
end Go.Proofs.YtdhopoafpddjpaaDoor
