/-
  The plain law of StreamPieces, second part: what can be taken, piece by piece or at once. Conditions: none; no program in sight.
-/
import Derived.Test.YtejikjpaclnncaaPieces
import Derived.Test.YtejikjpaclnncaaStreamLaw
namespace Go.Proofs.Ytejikjpaclnncaa
open Go.RowKit

def lT (p : St) := tkD scanF p
def uT (p : St) := tkD sunF p
theorem lT_eq (l : List UInt8) (e : Int) : lineD l e = lT (l, e) := rfl
theorem uT_eq (l : List UInt8) (e : Int) : unitD l e = uT (l, e) := rfl
inductive Un : St → List (List UInt8) → St → Prop
  | nil (p : St) : Un p [] p
  | cons {p q : St} {o : List (List UInt8)} : (uT p).1.2.1 = true → Un (uT p).2 o q → Un p ((uT p).1.1 :: o) q
theorem Un.snoc {p q : St} {o : List (List UInt8)} (h : Un p o q) (hq : (uT q).1.2.1 = true) : Un p (o ++ [(uT q).1.1]) (uT q).2 := by
  induction h with
  | nil p => exact .cons hq (.nil _)
  | cons h1 _ ih => exact .cons h1 (ih hq)
theorem unit_takes {p : St} (h : (uT p).1.2.1 = true) : (uT p).2.1.length + 5 ≤ p.1.length := by
  obtain ⟨h1, h0⟩ := taken_cases (f := sunF) h
  rw [uT, tkD_ok h1 h0]
  show (p.1.drop _).length + 5 ≤ _
  rcases e : needF p.1 with ⟨n, x⟩
  by_cases hx : x = 0
  · subst hx
    have hok := needF_ok (l := p.1) (by rw [e])
    rw [e] at hok
    obtain ⟨_, h5, _⟩ := hok
    have h5' : 5 ≤ n := h5
    by_cases hn : (p.1.length : Int) < n
    · rw [sunF_2 e hn] at h0
      cases h0
    · rw [sunF_3 e (Int.not_lt.1 hn), List.length_drop]
      show p.1.length - n.toNat + 5 ≤ p.1.length
      omega
  · rw [sunF_1 e hx] at h0
    exact absurd h0 hx
theorem Un.len {p q : St} {o : List (List UInt8)} (h : Un p o q) : 5 * o.length + q.1.length ≤ p.1.length := by
  induction h with
  | nil p => simp
  | cons h1 _ ih =>
    have := unit_takes h1
    rw [List.length_cons]
    omega
/-- All units that can be taken out of p. -/
def Dr (p : St) (o : List (List UInt8)) (p' : St) : Prop := ∃ q, Un p o q ∧ (uT q).1.2.1 = false ∧ p' = (uT q).2
theorem Un.det {p q : St} {o : List (List UInt8)} (h : Un p o q) (hq : (uT q).1.2.1 = false) : ∀ {o2 : List (List UInt8)} {q2 : St}, Un p o2 q2 → (uT q2).1.2.1 = false → o = o2 ∧ q = q2 := by
  induction h with
  | nil p =>
    intro o2 q2 h2 _
    cases h2 with
    | nil => exact ⟨rfl, rfl⟩
    | cons h3 _ => rw [hq] at h3; cases h3
  | cons h1 _ ih =>
    intro o2 q2 h2 hq2
    cases h2 with
    | nil => rw [hq2] at h1; cases h1
    | cons _ h4 =>
      obtain ⟨e1, e2⟩ := ih hq h4 hq2
      exact ⟨by rw [e1], e2⟩
theorem Dr.det {p p1 p2 : St} {o1 o2 : List (List UInt8)} (h1 : Dr p o1 p1) (h2 : Dr p o2 p2) : o1 = o2 ∧ p1 = p2 := by
  obtain ⟨q1, a1, b1, rfl⟩ := h1
  obtain ⟨q2, a2, b2, rfl⟩ := h2
  obtain ⟨e1, rfl⟩ := a1.det b1 a2 b2
  exact ⟨e1, rfl⟩
theorem Dr.broken {p p2 : St} {o : List (List UInt8)} (h : p.2 ≠ 0) (hd : Dr p o p2) : o = [] ∧ p2 = p := by
  have hs := stuck_of_broken (f := sunF) h
  have h2 : Dr p [] p := ⟨p, .nil _, hs.1, hs.2.symm⟩
  obtain ⟨e1, e2⟩ := hd.det h2
  exact ⟨e1, e2⟩
/-- .. and then more bytes come: as if all had been there. -/
theorem Dr.more {p p1 p2 : St} {o1 o2 : List (List UInt8)} {r : List UInt8} (h1 : Dr p o1 p1) (h2 : Dr (feed p1 r) o2 p2) : Dr (feed p r) (o1 ++ o2) p2 := by
  obtain ⟨q, hu, hs, rfl⟩ := h1
  induction hu with
  | nil p =>
    rcases stuck_cases unit_stable hs r with he | ⟨e1, e2, e3, e4⟩
    · have he' : (uT p).2 = p := he
      rw [he'] at h2
      exact h2
    · have e1' : feed (uT p).2 r = (uT p).2 := e1
      rw [e1'] at h2
      obtain ⟨rfl, rfl⟩ := Dr.broken e2 h2
      exact ⟨feed p r, .nil _, e3, e4.symm⟩
  | cons h3 _ ih =>
    rename_i p q o _
    obtain ⟨q2, g1, g2, g3⟩ := ih hs h2
    have ht := take_more unit_stable h3 r
    refine ⟨q2, ?_, g2, g3⟩
    have c := Un.cons (p := feed p r) (by rw [uT, ht.1]; exact h3) (by rw [uT, ht.2]; exact g1)
    rw [uT, ht.1] at c
    exact c
theorem Dr.len {p p1 : St} {o : List (List UInt8)} (h : Dr p o p1) : 5 * o.length ≤ p.1.length := by
  obtain ⟨q, hu, _, _⟩ := h
  have := hu.len
  omega
/-- A line, if there was none yet, and then units. -/
def DR (p : St) (b : Bool) (o : List (List UInt8)) (p' : St) (b' : Bool) : Prop :=
  (b = true ∧ Dr p o p' ∧ b' = true) ∨ (b = false ∧ (lT p).1.2.1 = true ∧ (∃ o1, o = (lT p).1.1 :: o1 ∧ Dr (lT p).2 o1 p') ∧ b' = true) ∨
  (b = false ∧ (lT p).1.2.1 = false ∧ o = [] ∧ p' = (lT p).2 ∧ b' = false)
theorem DR.det {p p1 p2 : St} {b b1 b2 : Bool} {o1 o2 : List (List UInt8)} (h1 : DR p b o1 p1 b1) (h2 : DR p b o2 p2 b2) : o1 = o2 ∧ p1 = p2 ∧ b1 = b2 := by
  rcases h1 with ⟨rfl, d1, rfl⟩ | ⟨rfl, t1, ⟨u1, rfl, d1⟩, rfl⟩ | ⟨rfl, t1, rfl, rfl, rfl⟩
  · rcases h2 with ⟨_, d2, rfl⟩ | ⟨h, _⟩ | ⟨h, _⟩
    · obtain ⟨e1, e2⟩ := d1.det d2
      exact ⟨e1, e2, rfl⟩
    · cases h
    · cases h
  · rcases h2 with ⟨h, _⟩ | ⟨_, t2, ⟨u2, rfl, d2⟩, rfl⟩ | ⟨_, t2, _⟩
    · cases h
    · obtain ⟨e1, e2⟩ := d1.det d2
      exact ⟨by rw [e1], e2, rfl⟩
    · rw [t1] at t2; cases t2
  · rcases h2 with ⟨h, _⟩ | ⟨_, t2, _⟩ | ⟨_, t2, rfl, rfl, rfl⟩
    · cases h
    · rw [t1] at t2; cases t2
    · exact ⟨rfl, rfl, rfl⟩
theorem DR.more {p p1 p2 : St} {b b1 b2 : Bool} {o1 o2 : List (List UInt8)} {r : List UInt8} (h1 : DR p b o1 p1 b1) (h2 : DR (feed p1 r) b1 o2 p2 b2) : DR (feed p r) b (o1 ++ o2) p2 b2 := by
  rcases h1 with ⟨rfl, d1, rfl⟩ | ⟨rfl, t1, ⟨u1, rfl, d1⟩, rfl⟩ | ⟨rfl, t1, rfl, rfl, rfl⟩
  · rcases h2 with ⟨_, d2, rfl⟩ | ⟨h, _⟩ | ⟨h, _⟩
    · exact .inl ⟨rfl, d1.more d2, rfl⟩
    · cases h
    · cases h
  · rcases h2 with ⟨_, d2, rfl⟩ | ⟨h, _⟩ | ⟨h, _⟩
    · have ht := take_more scan_stable t1 r
      refine .inr (.inl ⟨rfl, by rw [lT, ht.1]; exact t1, ⟨u1 ++ o2, by show (tkD scanF p).1.1 :: _ = (tkD scanF (feed p r)).1.1 :: _; rw [ht.1]; rfl, by rw [lT, ht.2]; exact d1.more d2⟩, rfl⟩)
    · cases h
    · cases h
  · rcases stuck_cases scan_stable t1 r with he | ⟨e1, e2, e3, e4⟩
    · have he' : (lT p).2 = p := he
      rw [he'] at h2
      exact h2
    · have e1' : feed (lT p).2 r = (lT p).2 := e1
      rw [e1'] at h2
      have hb := stuck_of_broken (f := scanF) e2
      rcases h2 with ⟨h, _⟩ | ⟨_, t2, _⟩ | ⟨_, t2, rfl, rfl, rfl⟩
      · cases h
      · exact absurd (show (lT (lT p).2).1.2.1 = true from t2) (by rw [show (lT (lT p).2).1.2.1 = false from hb.1]; decide)
      · refine .inr (.inr ⟨rfl, e3, rfl, ?_, rfl⟩)
        show (lT (lT p).2).2 = (lT (feed p r)).2
        rw [show (lT (lT p).2).2 = (lT p).2 from hb.2, show (lT (feed p r)).2 = (lT p).2 from e4]
theorem DR.len {p p1 : St} {b b1 : Bool} {o : List (List UInt8)} (h : DR p b o p1 b1) : o.length ≤ p.1.length + 1 := by
  rcases h with ⟨rfl, d1, rfl⟩ | ⟨rfl, t1, ⟨u1, rfl, d1⟩, rfl⟩ | ⟨rfl, t1, rfl, rfl, rfl⟩
  · have := d1.len
    omega
  · have := d1.len
    have h2 : (lT p).2.1.length ≤ p.1.length := line_le p.1 p.2
    rw [List.length_cons]
    omega
  · exact Nat.zero_le _
theorem DR.empty : DR ([], 0) false [] ([], 0) false := .inr (.inr ⟨rfl, by decide, rfl, by decide, rfl⟩)
end Go.Proofs.Ytejikjpaclnncaa
