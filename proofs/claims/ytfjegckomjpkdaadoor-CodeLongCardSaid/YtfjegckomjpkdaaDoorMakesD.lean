/-
  What MkS and MakesA hold of rows of numbers of terms, for a seat without law01's makes. Conditions: none.
-/
import Derived.Test.YtfjegckomjpkdaaDoorRefA
import Derived.Test.YtfjegckomjpkdaaDoorMakeA
set_option linter.unusedVariables false
set_option linter.unusedSimpArgs false
namespace Go.Proofs.YtfjegckomjpkdaaDoor
open Go.RowKit Go.ChangeShapes Go.WideShapes Go.Sort
def Idns (T : List Tm) (ms : List (Option Tm)) (ns : List Int) : Prop := ns.length = ms.length ∧ ∀ (i : Nat) (o : Option Tm) (n : Int), ms[i]? = some o → ns[i]? = some n → Idn T o n
theorem idns_nil (T : List Tm) : Idns T [] [] := ⟨rfl, fun i o n h => by simp at h⟩
theorem Idns.pre {T T' : List Tm} {ms : List (Option Tm)} {ns : List Int} (h : Idns T ms ns) (hp : T <+: T') : Idns T' ms ns := ⟨h.1, fun i o n h1 h2 => (h.2 i o n h1 h2).pre hp⟩
theorem Idns.snoc {T : List Tm} {ms : List (Option Tm)} {ns : List Int} {o : Option Tm} {n : Int} (h : Idns T ms ns) (hn : Idn T o n) : Idns T (ms ++ [o]) (ns ++ [n]) := by
  refine ⟨by simp [h.1], fun i o' n' h1 h2 => ?_⟩
  rcases Nat.lt_or_ge i ms.length with hlt | hge
  · rw [List.getElem?_append_left hlt] at h1
    rw [List.getElem?_append_left (by rw [h.1]; exact hlt)] at h2
    exact h.2 i o' n' h1 h2
  · have h3 := (List.getElem?_eq_some_iff.1 h1).1
    simp only [List.length_append, List.length_cons, List.length_nil] at h3
    obtain rfl : i = ms.length := by omega
    rw [List.getElem?_append_right (Nat.le_refl _), Nat.sub_self] at h1
    rw [← h.1, List.getElem?_append_right (Nat.le_refl _), Nat.sub_self] at h2
    simp only [List.getElem?_cons_zero, Option.some.injEq] at h1 h2
    subst h1 h2
    exact hn
theorem Idns.args {T : List Tm} {ms : List (Option Tm)} {ns : List Int} (h : Idns T ms ns) : ns.map (arg T) = ms := by
  refine List.ext_getElem? fun i => ?_
  rw [List.getElem?_map]
  by_cases hi : i < ms.length
  · have h1 := List.getElem?_eq_getElem hi
    have h2 := List.getElem?_eq_getElem (l := ns) (i := i) (by rw [h.1]; exact hi)
    rw [h1, h2]
    show some _ = _
    rw [(h.2 i _ _ h1 h2).1]
  · rw [List.getElem?_eq_none (l := ns) (by rw [h.1]; omega), List.getElem?_eq_none (by omega)]
    rfl
theorem infoIDr : (Tryd.prog.info? 25).map (fun i => (i.zero, i.size, i.bytes)) = some (some (.int .i64 0), 1, 8) := by kernel_rfl
theorem Grown.outs {S S' : Nat → Prop} {w w' : World} (h : Grown S w S' w') : Outs S w w' := ⟨h.os, h.tape, h.output, h.size, h.block⟩
theorem Grown.keepNew {S S2 : Nat → Prop} {w wx wz : World} {row : Option Nat} (h : Grown S w S2 wx) (k : wx.grownBy wz row) (hr : ∀ b, row = some b → w.heap.size ≤ b) : Grown S w S2 wz :=
  ⟨k.os.trans h.os, k.tape.trans h.tape, k.output.trans h.output, Nat.le_trans h.size k.size, fun i hi hn => (k.block i (Nat.lt_of_lt_of_le hi h.size) (fun e => by have := hr i e.symm; omega)).trans (h.block i hi hn), h.sub, h.new⟩
theorem at_new {v v' : Value} {S : Nat → Prop} {n : Nat} (h : v'.ownBlock = v.ownBlock ∨ v'.ownBlock = some n) (hv : ∀ i, v.ownBlock = some i → ¬ S i) (hn : ∀ i, S i → i < n) : ∀ i, v'.ownBlock = some i → ¬ S i := by
  intro i hi hs
  rcases h with h | h
  · exact hv i (h.symm.trans hi) hs
  · rw [h] at hi
    cases hi
    have := hn _ hs
    omega
/-- What an append onto a row, and the store behind it, leave of an arena, of another row and of the rest. -/
structure Kp (B : Nat) (w : World) (g : Nat) (T : List Tm) (S0 S : Nat → Prop) (W : World) : Prop where
  ar : Ar B W g T S
  grown : Grown S0 w S W
theorem Kp.step {B g : Nat} {w wx W : World} {T : List Tm} {S0 S : Nat → Prop} {row : Option Nat} (h : Kp B w g T S0 S wx) (k : wx.grownBy W row) (hr : ∀ b, row = some b → w.heap.size ≤ b ∧ ¬ S b) : Kp B w g T S0 S W :=
  ⟨h.ar.kept k fun b e => (hr b e).2, h.grown.keepNew k fun b e => (hr b e).1⟩
/-- Numbers of terms, in a row of the call's own that no arena has. -/
structure IdO (B0 : Nat) (w : World) (T : List Tm) (ms : List (Option Tm)) (v : Value) (S : Nat → Prop) : Prop where
  ids : ∃ ns, w.ownsRow B0 25 1 v ms.length (ns.map (Value.int .i64)) ∧ Idns T ms ns
  out : ∀ i, v.ownBlock = some i → ¬ S i
section
variable {B0 : Nat} {w w' : World} {T T' : List Tm} {ms : List (Option Tm)} {v : Value} {S S' : Nat → Prop}
theorem ido_nil (B0 : Nat) (w : World) (T : List Tm) (S : Nat → Prop) : IdO B0 w T [] (.slice none 0 0) S :=
  ⟨⟨[], World.ownsRow_nil _ _ _ _, idns_nil _⟩, fun i hi => by simp [Value.ownBlock] at hi⟩
theorem IdO.sl (h : IdO B0 w T ms v S) : ∃ A c, v = .slice A ms.length c := by
  obtain ⟨⟨ns, h1, _⟩, _⟩ := h
  exact own_sl h1
theorem IdO.grown (h : IdO B0 w T ms v S) (hg : Grown S w S' w') (hp : T <+: T') : IdO B0 w' T' ms v S' := by
  obtain ⟨⟨ns, h1, h2⟩, h3⟩ := h
  refine ⟨⟨ns, hg.outs.own h1 h3, h2.pre hp⟩, fun i hi hs => ?_⟩
  rcases hg.new i hs with h6 | h6
  · exact h3 i hi h6
  · have := (h1.lt i hi).2
    omega
theorem IdO.below (h : IdO B0 w T ms v S) (hb : Below w.heap.size w w') : IdO B0 w' T ms v S := h.grown (Grown.of_below hb) (List.prefix_refl _)
theorem IdO.ids_ (h : IdO B0 w T ms v S) : ∃ ns, Ids w v ns ∧ Idns T ms ns := by
  obtain ⟨⟨ns, h1, h2⟩, _⟩ := h
  exact ⟨ns, own_ids h2.1.symm h1, h2⟩
end
end Go.Proofs.YtfjegckomjpkdaaDoor
