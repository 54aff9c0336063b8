/-
  The plain law of StreamPieces: splitting the input plays no part. Conditions: none; no program in sight.
-/
import Derived.Test.YtejikjpaclnncaaStreamU
namespace Go.Proofs.Ytejikjpaclnncaa
open Go.RowKit

abbrev St := List UInt8 × Int
def feed (p : St) (r : List UInt8) : St := if p.2 = 0 then (p.1 ++ r, 0) else p
/-- What a reader f takes. -/
def tkD (f : List UInt8 → List UInt8 × Int × Int) (p : St) : (List UInt8 × Bool × Int) × St := tkR (f p.1).2.2 (f p.1).2.1 (f p.1).1 p.1 p.2
structure Stable (f : List UInt8 → List UInt8 × Int × Int) : Prop where
  ok : ∀ l r, (f l).2.2 = 0 → f (l ++ r) = f l ∧ 0 ≤ (f l).2.1 ∧ (f l).2.1 ≤ l.length
  err : ∀ l r, (f l).2.2 ≠ 0 → (f l).2.2 ≠ 4 → (f (l ++ r)).2.2 = (f l).2.2
section
variable {f : List UInt8 → List UInt8 × Int × Int}
theorem tkD_broken {p : St} (h : p.2 ≠ 0) : tkD f p = (([], false, p.2), p) := tk1 h
  where tk1 {p : St} (h : p.2 ≠ 0) : tkR (f p.1).2.2 (f p.1).2.1 (f p.1).1 p.1 p.2 = (([], false, p.2), p) := by rw [tkR, if_pos h]
theorem tkD_ok {p : St} (h : p.2 = 0) (h0 : (f p.1).2.2 = 0) : tkD f p = (((f p.1).1, true, 0), (p.1.drop (f p.1).2.1.toNat, 0)) := by
  rw [tkD, tkR, if_neg (by simp [h]), if_pos h0]
theorem tkD_short {p : St} (h : p.2 = 0) (h4 : (f p.1).2.2 = 4) : tkD f p = (([], false, 0), p) := by
  rw [tkD, tkR, if_neg (by simp [h]), h4, if_neg (by decide), if_pos rfl, ← h]
theorem tkD_err {p : St} (h : p.2 = 0) (h0 : (f p.1).2.2 ≠ 0) (h4 : (f p.1).2.2 ≠ 4) : tkD f p = (([], false, (f p.1).2.2), ([], (f p.1).2.2)) := by
  rw [tkD, tkR, if_neg (by simp [h]), if_neg h0, if_neg h4]
theorem taken_cases {p : St} (h : (tkD f p).1.2.1 = true) : p.2 = 0 ∧ (f p.1).2.2 = 0 := by
  by_cases h1 : p.2 = 0
  · refine ⟨h1, ?_⟩
    by_cases h0 : (f p.1).2.2 = 0
    · exact h0
    · by_cases h4 : (f p.1).2.2 = 4
      · rw [tkD_short h1 h4] at h
        cases h
      · rw [tkD_err h1 h0 h4] at h
        cases h
  · rw [tkD_broken h1] at h
    cases h
theorem feed_ok {p : St} (h : p.2 = 0) (r : List UInt8) : feed p r = (p.1 ++ r, 0) := if_pos h
theorem feed_broken {p : St} (h : p.2 ≠ 0) (r : List UInt8) : feed p r = p := if_neg h
/-- What is taken is taken as well if more bytes stand behind. -/
theorem take_more (hf : Stable f) {p : St} (h : (tkD f p).1.2.1 = true) (r : List UInt8) :
    (tkD f (feed p r)).1 = (tkD f p).1 ∧ (tkD f (feed p r)).2 = feed (tkD f p).2 r := by
  obtain ⟨h1, h0⟩ := taken_cases h
  obtain ⟨e, hn0, hn⟩ := hf.ok p.1 r h0
  have h2 : (f (feed p r).1).2.2 = 0 := by rw [feed_ok h1, e]; exact h0
  rw [tkD_ok h1 h0, tkD_ok (by rw [feed_ok h1]) h2, feed_ok h1]
  simp only [e]
  refine ⟨trivial, ?_⟩
  rw [feed_ok rfl, List.drop_append_of_le_length (by omega)]
/-- Where nothing is taken: nothing has changed, or it is broken with an error that stays with more bytes. -/
theorem stuck_cases (hf : Stable f) {p : St} (h : (tkD f p).1.2.1 = false) (r : List UInt8) :
    (tkD f p).2 = p ∨ (feed (tkD f p).2 r = (tkD f p).2 ∧ (tkD f p).2.2 ≠ 0 ∧ (tkD f (feed p r)).1.2.1 = false ∧ (tkD f (feed p r)).2 = (tkD f p).2) := by
  by_cases h1 : p.2 = 0
  · by_cases h0 : (f p.1).2.2 = 0
    · rw [tkD_ok h1 h0] at h
      cases h
    · by_cases h4 : (f p.1).2.2 = 4
      · exact .inl (by rw [tkD_short h1 h4])
      · have e := hf.err p.1 r h0 h4
        refine .inr ?_
        rw [tkD_err h1 h0 h4, tkD_err (by rw [feed_ok h1]) (by rw [feed_ok h1]; show (f (p.1 ++ r)).2.2 ≠ 0; rw [e]; exact h0) (by rw [feed_ok h1]; show (f (p.1 ++ r)).2.2 ≠ 4; rw [e]; exact h4), feed_ok h1]
        exact ⟨feed_broken h0 r, h0, rfl, by show (_, _) = (_, _); rw [e]⟩
  · exact .inl (by rw [tkD_broken h1])
theorem stuck_of_broken {p : St} (h : p.2 ≠ 0) : (tkD f p).1.2.1 = false ∧ (tkD f p).2 = p := by rw [tkD_broken h]; exact ⟨rfl, rfl⟩
end
theorem plains_app : ∀ (l r : List UInt8), plains l < l.length → plains (l ++ r) = plains l := by
  intro l r
  induction l with
  | nil => intro h; exact absurd h (by decide)
  | cons a l ih =>
    intro h
    unfold plains at *
    rw [List.cons_append, List.takeWhile_cons, List.takeWhile_cons] at *
    split
    · rename_i ha
      rw [if_pos ha] at h
      simp only [List.length_cons] at h ⊢
      rw [ih (by omega)]
    · rfl
theorem plains_mono : ∀ (l r : List UInt8), plains l ≤ plains (l ++ r) := by
  intro l r
  by_cases h : plains l < l.length
  · rw [plains_app l r h]
    exact Nat.le_refl _
  · have h1 := plains_le l
    have h2 : plains l = l.length := by omega
    rw [h2]
    unfold plains at *
    have h3 : l.takeWhile plainB = l := List.IsPrefix.eq_of_length (List.takeWhile_prefix _) h2
    have h4 : ∀ x ∈ l, plainB x = true := by
      intro x hx
      exact List.all_eq_true.1 (List.all_takeWhile (l := l) (p := plainB)) x (by rw [h3]; exact hx)
    rw [List.takeWhile_append_of_pos h4, List.length_append]
    omega
theorem scan_stable : Stable scanF := by
  have key : ∀ l r, plains l ≤ 253 → plains l < l.length → scanF (l ++ r) = scanR (l ++ r) (plains l) (l.drop (plains l) ++ r) := by
    intro l r h h1
    rw [scanF_2 (by rw [plains_app l r h1]; exact h), plains_app l r h1, List.drop_append_of_le_length (by omega)]
  constructor
  · intro l r h
    have hb := scanF_ok h
    refine ⟨?_, hb.1, hb.2⟩
    by_cases c : 253 < plains l
    · rw [scanF_1 c] at h
      cases h
    · by_cases h1 : plains l < l.length
      · rw [key l r (by omega) h1, scanF_2 (by omega)]
        rw [scanF_2 (by omega)] at h
        rw [scanR_eq] at h ⊢
        split at h
        · cases h
        · split at h
          · rename_i g1 g2
            have hlen := congrArg List.length g2
            rw [List.length_take] at hlen
            simp at hlen
            rw [scanR_eq, if_neg g1, if_pos g2, if_neg, if_pos]
            · rw [List.take_append_of_le_length (by omega)]
            · rw [List.take_append_of_le_length (by rw [List.length_drop]; omega)]
              exact g2
            · rintro (g | g)
              · have := congrArg List.length g
                simp at this
                omega
              · have := congrArg List.length g
                simp at this
                omega
          · cases h
      · exfalso
        have h2 := plains_le l
        rw [scanF_2 (by omega), scanR_eq, if_pos (.inl (by rw [List.drop_eq_nil_iff]; omega))] at h
        cases h
  · intro l r h h4
    by_cases c : 253 < plains l
    · rw [scanF_1 c, scanF_1 (Nat.lt_of_lt_of_le c (plains_mono l r))]
    · by_cases h1 : plains l < l.length
      · rw [key l r (by omega) h1, scanF_2 (by omega)]
        rw [scanF_2 (by omega)] at h h4
        rw [scanR_eq] at h h4
        by_cases g1 : l.drop (plains l) = [] ∨ l.drop (plains l) = [13]
        · rw [if_pos g1] at h4
          exact absurd rfl h4
        · by_cases g2 : (l.drop (plains l)).take 2 = [13, 10]
          · rw [if_neg g1, if_pos g2] at h
            exact absurd rfl h
          · rw [scanR_eq, scanR_eq, if_neg g1, if_neg g2, if_neg, if_neg]
            · intro g
              generalize l.drop (plains l) = t at g1 g2 g
              match t, g1, g2, g with
              | [], g1, _, _ => exact g1 (.inl rfl)
              | [a], g1, _, g =>
                simp at g
                exact g1 (.inr (by rw [g.1]))
              | a :: b :: t, _, g2, g =>
                simp at g g2
                exact g2 g.1 g.2
            · generalize l.drop (plains l) = t at g1 g2
              rintro (g | g)
              · exact g1 (.inl (List.append_eq_nil_iff.1 g).1)
              · match t, g1, g with
                | [], g1, _ => exact g1 (.inl rfl)
                | [a], g1, g =>
                  simp at g
                  exact g1 (.inr (by rw [g.1]))
                | a :: b :: t, _, g => simp at g
      · exfalso
        have h2 := plains_le l
        rw [scanF_2 (by omega), scanR_eq, if_pos (.inl (by rw [List.drop_eq_nil_iff]; omega))] at h4
        exact h4 rfl
theorem head_app {l : List UInt8} (r : List UInt8) (h : l ≠ []) : (l ++ r).head? = l.head? := by
  cases l with
  | nil => exact absurd rfl h
  | cons a l => rfl
theorem need_app {l : List UInt8} (r : List UInt8) (h : (needF l).2 ≠ 4) : needF (l ++ r) = needF l := by
  unfold needF at h ⊢
  by_cases h1 : l ≠ [] ∧ l.head? ≠ some 0
  · rw [if_pos h1, if_pos]
    refine ⟨fun g => h1.1 (List.append_eq_nil_iff.1 g).1, ?_⟩
    rw [head_app r h1.1]
    exact h1.2
  · rw [if_neg h1] at h ⊢
    by_cases h2 : l.length < 4
    · rw [if_pos h2] at h
      exact absurd rfl h
    · have h3 : l ≠ [] := by
        rintro rfl
        exact h2 (by decide)
      have h4 : (l ++ r).take 4 = l.take 4 := List.take_append_of_le_length (by omega)
      rw [if_neg h2, if_neg, if_neg (by rw [List.length_append]; omega), h4]
      rintro ⟨_, g⟩
      rw [head_app r h3] at g
      exact h1 ⟨h3, g⟩
theorem unit_stable : Stable sunF := by
  constructor
  · intro l r h
    have hb := sunF_ok h
    refine ⟨?_, hb.1, hb.2⟩
    rcases e : needF l with ⟨n, x⟩
    by_cases hx : x = 0
    · subst hx
      by_cases hn : (l.length : Int) < n
      · rw [sunF_2 e hn] at h
        cases h
      · have hn' := Int.not_lt.1 hn
        have e2 : needF (l ++ r) = (n, 0) := by rw [need_app r (by rw [e]; show (0 : Int) ≠ 4; decide), e]
        rw [sunF_3 e hn', sunF_3 e2 (by rw [List.length_append]; omega), List.take_append_of_le_length (by omega)]
    · rw [sunF_1 e hx] at h
      exact absurd h hx
  · intro l r h h4
    rcases e : needF l with ⟨n, x⟩
    by_cases hx : x = 0
    · subst hx
      by_cases hn : (l.length : Int) < n
      · rw [sunF_2 e hn] at h4
        exact absurd rfl h4
      · rw [sunF_3 e (Int.not_lt.1 hn)] at h
        exact absurd rfl h
    · rw [sunF_1 e hx] at h4
      rw [sunF_1 e hx, sunF_1 (by rw [need_app r (by rw [e]; exact h4), e]) hx]
end Go.Proofs.Ytejikjpaclnncaa
