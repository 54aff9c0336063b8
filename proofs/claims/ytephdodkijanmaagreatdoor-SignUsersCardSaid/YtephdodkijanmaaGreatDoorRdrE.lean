/-
  The contract of code's share: a group, and exponents in order. Conditions: at most MaxTerm bytes.
-/
import Derived.Test.YtephdodkijanmaaGreatDoorRdrD
import Derived.Test.YtephdodkijanmaaGreatDoorEncA
set_option linter.unusedVariables false
set_option linter.unusedSimpArgs false
namespace Go.Proofs.YtephdodkijanmaaGreatDoor
open Go.RowKit Go.ChangeShapes Go.WideShapes Go.Sort
theorem expsO_is {x : ByteArray} {l : List Tm} {t : Tm} (h : expsO x l = some t) : t = .mk 5 0 0 x l := by
  unfold expsO at h
  split at h
  · injection h with h
    exact h.symm
  · cases h
theorem exps_next {x : ByteArray} {l : List Tm} {i : Nat} (hi : i < l.length) (h8 : l.length ≤ 8) (h : i = 0 ∨ expsO x (l.take i) = some (.mk 5 0 0 x (l.take i))) :
    (tExp (expsO x (l.take i)) (some l[i]) = none ∧ expsO x l = none) ∨ ∃ r, tExp (expsO x (l.take i)) (some l[i]) = some (.mk 5 0 0 x r) ∧ r.length = i + 1 ∧ ((r[i]? = some l[i] ∧ expsO x (l.take (i + 1)) = some (.mk 5 0 0 x (l.take (i + 1))) ∧ r = l.take (i + 1)) ∨ (r[i]? ≠ some l[i] ∧ expsO x l = none)) := by
  have hlen : (l.take i).length = i := by rw [List.length_take]; omega
  have hsn : l.take (i + 1) = l.take i ++ [l[i]] := List.take_succ_eq_append_getElem hi
  cases e : expsO x (l.take i) with
  | none =>
    rcases h with rfl | h
    · rw [List.take_zero, expsO_base] at e
      exact .inl ⟨rfl, expsO_group e⟩
    · rw [e] at h
      cases h
  | some t =>
    obtain rfl := expsO_is e
    by_cases hk : l[i].k = 2
    · obtain ⟨s1, s2, s3⟩ := expsO_step e hk (by omega)
      rw [hlen] at s2 s3
      refine .inr ⟨ins l[i] (l.take i), s1, by rw [ins_len, hlen], ?_⟩
      by_cases hr : (ins l[i] (l.take i))[i]? = some l[i]
      · obtain ⟨h1, h2⟩ := s2 hr
        exact .inl ⟨hr, by rw [hsn]; exact h2, by rw [hsn]; exact h1⟩
      · refine .inr ⟨hr, ?_⟩
        have := s3 hr (l.drop (i + 1))
        rw [← hsn, List.take_append_drop] at this
        exact this
    · refine .inl ⟨?_, expsO_kind (List.getElem_mem hi) hk⟩
      show (if _ then _ else _) = none
      rw [if_neg]
      rintro ⟨_, h2, _⟩
      exact hk h2
section
variable {B b g p p0 N : Nat} {s : ByteArray} {T : List Tm} {S : Nat → Prop} {w w1 w2 : World} {c : UInt8} {s1 : List UInt8}
theorem pos_at {l : List Tm} {k : Nat} {u : Tm} (h : l[k]? = some u) : 0 < l.length := by
  have := (List.getElem?_eq_some_iff.1 h).1
  omega
/-- The arguments that a view shows. -/
theorem view_cells {T : List Tm} {n : Int} {w w' : World} {e : Ending} {t : Tm} {i : Nat} (h : arg T n = some t) (hi : i < t.l.length) (hv : Viewed T n w e w') :
    ∃ gv cv m x0 x1 x2 x3, e = .returned (.tuple #[.agg #[.int .i64 x0, .int .i64 x1, .int .i64 x2, .string x3, .slice (some ⟨gv, 0, none⟩) t.l.length cv], .bool true]) ∧ w'.cell? ⟨gv, i, none⟩ = some (.int .i64 m) ∧ Idn T (t.l[i]?) m ∧ gv < w'.heap.size ∧ Below w.heap.size w w' := by
  obtain ⟨js, A, c, ha, rfl, hown, hb⟩ := view_some h hv
  have hjl := ha.len
  obtain ⟨gv, cap, hv2, _, hlt⟩ := hown.form (by omega)
  have hA : A = some ⟨gv, 0, none⟩ := by injection hv2
  subst hA
  obtain ⟨c1, hc1, hT⟩ := ha.at_ (p := i) (by omega)
  have hc := hown.cells (g := gv) rfl i (.int .i64 (js[i]'(by omega) : Nat)) (by rw [List.getElem?_map, List.getElem?_map, List.getElem?_eq_getElem (by omega)]; rfl)
  rw [add_zero_] at hc
  refine ⟨gv, c, (js[i]'(by omega) : Nat), t.k, t.a, t.b, t.s, rfl, hc, ⟨by rw [arg_at, hT, hc1], fun h0 => by rw [hc1] at h0; cases h0⟩, hlt, hb⟩
end
end Go.Proofs.YtephdodkijanmaaGreatDoor
