/-
  A region that draws its order and whose operations each make something of their own (calls, allocations), in whatever order: one theorem for all orders. Conditions: none.
-/
import Derived.Test.YtjaipdenahlheaaDoorKOrdE
import Derived.Test.YtjaipdenahlheaaDoorKBaseG
set_option linter.unusedVariables false
set_option linter.unusedSimpArgs false
namespace Go.Proofs.YtjaipdenahlheaaDoor
open Go Go.RowKit
section
variable {P : Program} {ops : Array Oper} {Q : Exit → Act → World → Prop} {md : Region.Mode} {S : World → Prop} {E : Nat → Bool}
/-- Operation o makes a value that is good; what was there stays as it was. -/
def Mk1 (P : Program) (Q : Exit → Act → World → Prop) (ops : Array Oper) (o : Oper) (a : Act) (w : World) (G : Value → World → Prop) : Prop :=
  ∀ (K : Act → World → Prop) (F : Prop), (∀ v w', Below w.heap.size w w' → G v w' → K (a.put o.dst v) w') → if Region.wanted o (yielded ops a.tmps) = true then Oper.wp P o a w K Q else F
theorem wpAnyE_makers (k : Nat) (mk : Nat → Nat) (A : List Value → Act) (L : List Bool → Array Bool) (G : Nat → Value → World → Prop) (fuel : Nat)
    (hG : ∀ p v w w', G p v w → Below w.heap.size w w' → G p v w') (hS : ∀ w w', S w → Below w.heap.size w w' → S w')
    (hop : ∀ p, p < k → ∃ o, ops[mk p]? = some o ∧ ∀ gs w, gs.length = k → S w → (∀ v, (A gs).put o.dst v = A (gs.set p v)) ∧ Mk1 P Q ops o (A gs) w (G p))
    (hL : ∀ ds p, ds.length = k → p < k → (L ds).setIfInBounds (mk p) true = L (ds.set p true))
    (hr : ∀ ds, ds.length = k → ds.all id = false → Region.ready md ops (L ds) ≠ [] ∧ ∀ j ∈ Region.ready md ops (L ds), ∃ p, p < k ∧ mk p = j ∧ ds[p]? = some false)
    (hfin : ∀ gs w, gs.length = k → S w → (∀ p v, gs[p]? = some v → G p v w) → wpAnyE P md ops Q S E fuel (L (List.replicate k true)) (A gs) w) :
    ∀ (n : Nat) (ds : List Bool) (gs : List Value) (w : World), ds.length = k → gs.length = k → ds.count false = n → S w → (∀ p v, ds[p]? = some true → gs[p]? = some v → G p v w) → wpAnyE P md ops Q S E (fuel + n) (L ds) (A gs) w := by
  intro n
  induction n with
  | zero =>
    intro ds gs w hd hg hc hS0 hall
    have hds : ds = List.replicate k true := by
      rw [List.eq_replicate_iff]
      refine ⟨hd, fun b hb => ?_⟩
      cases b with
      | true => rfl
      | false => exact absurd hb (List.count_eq_zero.1 hc)
    subst hds
    refine hfin gs w hg hS0 fun p v hv => hall p v ?_ hv
    have hp := (List.getElem?_eq_some_iff.1 hv).1
    rw [List.getElem?_replicate, if_pos (by omega)]
  | succ n ih =>
    intro ds gs w hd hg hc hS0 hall
    have hne : ds.all id = false := by
      rw [List.all_eq_false]
      have hm : false ∈ ds := by
        rcases Classical.em (false ∈ ds) with h | h
        · exact h
        · rw [List.count_eq_zero.2 h] at hc
          cases hc
      exact ⟨false, hm, by decide⟩
    obtain ⟨hr1, hr2⟩ := hr ds hd hne
    refine ⟨fun h0 => absurd h0 hr1, fun j hj => ?_⟩
    obtain ⟨p, hp, rfl, hdp⟩ := hr2 j hj
    obtain ⟨o, ho, hm⟩ := hop p hp
    obtain ⟨hput, hmk⟩ := hm gs w hg hS0
    refine wpOp_step ho (fun K' hK => hmk K' _ fun v w' hb hgv => hK _ _ ⟨fun _ => hS w w' hS0 hb, ?_⟩)
    rw [hput v, hL ds p hd hp]
    refine ih (ds.set p true) (gs.set p v) w' (by rw [List.length_set]; exact hd) (by rw [List.length_set]; exact hg) ?_ (hS w w' hS0 hb) fun q u hq hu => ?_
    · have hpl : p < ds.length := by omega
      have he : ds[p] = false := by rw [List.getElem?_eq_getElem hpl] at hdp; exact Option.some.inj hdp
      rw [List.count_set hpl, he, hc]
      simp
    · by_cases hqp : p = q
      · subst hqp
        rw [List.getElem?_set_self (by omega)] at hu
        cases hu
        exact hgv
      · rw [List.getElem?_set_ne hqp] at hq hu
        exact hG q u w w' (hall q u hq hu) hb
def allL : Nat → List (List Bool)
  | 0 => [[]]
  | k + 1 => (allL k).flatMap fun l => [true :: l, false :: l]
theorem mem_allL : ∀ (k : Nat) (ds : List Bool), ds.length = k → ds ∈ allL k
  | 0, [], _ => by simp [allL]
  | k + 1, b :: l, h => by
    unfold allL
    rw [List.mem_flatMap]
    refine ⟨l, mem_allL k l (by simpa using h), ?_⟩
    cases b <;> simp
/-- Only those that make something come up, one at least, while not all are done. -/
def rdyB (md : Region.Mode) (ops : Array Oper) (L : List Bool → Array Bool) (k : Nat) (mk : Nat → Nat) : Bool :=
  (allL k).all fun ds => ds.all id || (!(Region.ready md ops (L ds)).isEmpty && (Region.ready md ops (L ds)).all fun j => (List.range k).any fun p => mk p == j && ds[p]? == some false)
theorem rdyB_spec {L : List Bool → Array Bool} {k : Nat} {mk : Nat → Nat} (h : rdyB md ops L k mk = true) (ds : List Bool) (hd : ds.length = k) (hn : ds.all id = false) :
    Region.ready md ops (L ds) ≠ [] ∧ ∀ j ∈ Region.ready md ops (L ds), ∃ p, p < k ∧ mk p = j ∧ ds[p]? = some false := by
  unfold rdyB at h
  rw [List.all_eq_true] at h
  have h2 := h ds (mem_allL k ds hd)
  rw [hn, Bool.false_or, Bool.and_eq_true] at h2
  refine ⟨fun e => ?_, fun j hj => ?_⟩
  · rw [e] at h2
    simp at h2
  · have h3 := List.all_eq_true.1 h2.2 j hj
    rw [List.any_eq_true] at h3
    obtain ⟨p, hp, h4⟩ := h3
    rw [Bool.and_eq_true, beq_iff_eq, beq_iff_eq] at h4
    exact ⟨p, List.mem_range.1 hp, h4.1, h4.2⟩
theorem mk_call {o : Oper} {a : Act} {w : World} {f : FuncId} {args : Array Value} {G : Value → World → Prop} (hgd : o.guard = none)
    (hr : (execOp a.eval o).run P w = .ok (.enter f args) w) (hc : Calls P f args w (fun e w' => ∃ v, e = .returned v ∧ Below w.heap.size w w' ∧ G v w')) : Mk1 P Q ops o a w G := fun K F h => by
  rw [if_pos (by simp [Region.wanted, hgd])]
  unfold Oper.wp
  rw [hr, Oper.upon_enter]
  refine hc.mono fun e w' hp => ?_
  obtain ⟨v, rfl, hb, hg⟩ := hp
  exact h v w' hb hg
theorem mk_val {o : Oper} {a : Act} {w w' : World} {v : Value} {G : Value → World → Prop} (hgd : o.guard = none)
    (hr : (execOp a.eval o).run P w = .ok (.value v) w') (hb : Below w.heap.size w w') (hg : G v w') : Mk1 P Q ops o a w G := fun K F h => by
  rw [if_pos (by simp [Region.wanted, hgd])]
  unfold Oper.wp
  rw [hr]
  exact h v w' hb hg
end
end Go.Proofs.YtjaipdenahlheaaDoor
