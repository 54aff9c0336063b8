/-
  Names, values and messages as plain data: how they are written, and how they are read. Conditions: none.
-/
import Derived.Test.YtdhopoafpddjpaaDoorPureA
set_option linter.unusedVariables false
set_option linter.unusedSimpArgs false
namespace Go.Proofs.YtdhopoafpddjpaaDoor
/-- May it be a name? -/
def rightL (s : List UInt8) : Bool := (s.all fun c => decide (33 ≤ c.toNat) && decide (c.toNat ≤ 126) && !(c == 44)) && decide (1 ≤ s.length) && decide (s.length ≤ 64)
/-- What is wrong with names (0: nothing). -/
def wrongN (l : List (List UInt8)) : Nat := if 16 < l.length then 2 else if l.all rightL = true then 0 else 3
def joinC : List (List UInt8) → List UInt8
  | [] => []
  | [x] => x
  | x :: y :: r => x ++ 44 :: joinC (y :: r)
def splitC : List UInt8 → List (List UInt8)
  | [] => [[]]
  | c :: r => if c = 44 then [] :: splitC r else ((c :: (splitC r).headD []) :: (splitC r).tail)
theorem splitC_ne (s : List UInt8) : splitC s ≠ [] := by
  cases s with
  | nil => simp [splitC]
  | cons c r =>
    unfold splitC
    split <;> simp
theorem joinC_cons (x : List UInt8) {l : List (List UInt8)} (h : l ≠ []) : joinC (x :: l) = x ++ 44 :: joinC l := by
  cases l with
  | nil => exact absurd rfl h
  | cons y r => rfl
theorem joinC_splitC (s : List UInt8) : joinC (splitC s) = s := by
  induction s with
  | nil => rfl
  | cons c r ih =>
    have hne := splitC_ne r
    unfold splitC
    split
    · rename_i h
      rw [joinC_cons _ hne, ih, h]
      rfl
    · cases hs : splitC r with
      | nil => exact absurd hs hne
      | cons x xs =>
        rw [hs] at ih
        cases xs with
        | nil =>
          simp only [joinC] at ih
          simp [joinC, ih]
        | cons y ys =>
          rw [joinC_cons _ (by simp)] at ih
          simp only [List.headD_cons, List.tail_cons]
          rw [joinC_cons _ (by simp), ← ih]
          rfl
theorem splitC_none {x : List UInt8} (h : (44 : UInt8) ∉ x) : splitC x = [x] := by
  induction x with
  | nil => rfl
  | cons c r ih =>
    simp only [List.mem_cons, not_or] at h
    unfold splitC
    rw [if_neg (fun e => h.1 e.symm), ih h.2]
    rfl
theorem splitC_app {x : List UInt8} (h : (44 : UInt8) ∉ x) (r : List UInt8) : splitC (x ++ 44 :: r) = x :: splitC r := by
  induction x with
  | nil => simp [splitC]
  | cons c x ih =>
    simp only [List.mem_cons, not_or] at h
    rw [List.cons_append, splitC, if_neg (fun e => h.1 e.symm), ih h.2]
    rfl
theorem splitC_joinC {l : List (List UInt8)} (hl : l ≠ []) (h : ∀ x ∈ l, (44 : UInt8) ∉ x) : splitC (joinC l) = l := by
  induction l with
  | nil => exact absurd rfl hl
  | cons x l ih =>
    by_cases hn : l = []
    · subst hn
      exact splitC_none (h x (by simp))
    · rw [joinC_cons _ hn, splitC_app (h x (by simp)), ih hn (fun y hy => h y (by simp [hy]))]
/-- The names of a text. -/
def splitN (s : List UInt8) : Nat × List (List UInt8) := if s = [] then (0, []) else if wrongN (splitC s) = 0 then (0, splitC s) else (wrongN (splitC s), [])
theorem right_comma {s : List UInt8} (h : rightL s = true) : (44 : UInt8) ∉ s := by
  intro hm
  unfold rightL at h
  simp only [Bool.and_eq_true, List.all_eq_true] at h
  have := (h.1.1 44 hm).2
  simp at this
theorem right_len {s : List UInt8} (h : rightL s = true) : 1 ≤ s.length ∧ s.length ≤ 64 := by
  unfold rightL at h
  simp only [Bool.and_eq_true, decide_eq_true_eq] at h
  exact ⟨h.1.2, h.2⟩
theorem wrong_ok {l : List (List UInt8)} (h : wrongN l = 0) : l.length ≤ 16 ∧ ∀ x ∈ l, rightL x = true := by
  unfold wrongN at h
  split at h
  · cases h
  · split at h
    · rename_i h2
      exact ⟨by omega, by simpa using h2⟩
    · cases h
theorem wrong_cases (l : List (List UInt8)) : wrongN l = 0 ∨ wrongN l = 2 ∨ wrongN l = 3 := by
  unfold wrongN
  split
  · exact .inr (.inl rfl)
  · split
    · exact .inl rfl
    · exact .inr (.inr rfl)
theorem splitN_join {l : List (List UInt8)} (h : wrongN l = 0) : splitN (joinC l) = (0, l) := by
  obtain ⟨_, h2⟩ := wrong_ok h
  unfold splitN
  by_cases hl : l = []
  · subst hl
    rfl
  · have hs := splitC_joinC hl (fun x hx => right_comma (h2 x hx))
    have hne : joinC l ≠ [] := by
      intro e
      rw [e] at hs
      have h3 := h2 [] (by rw [← hs]; simp [splitC])
      have := right_len h3
      simp at this
    rw [if_neg hne, hs, if_pos h]
theorem join_splitN {s : List UInt8} {l : List (List UInt8)} (h : splitN s = (0, l)) : wrongN l = 0 ∧ joinC l = s := by
  unfold splitN at h
  split at h
  · rename_i hs
    injection h with _ h
    subst h hs
    exact ⟨rfl, rfl⟩
  · split at h
    · rename_i h2
      injection h with _ h
      subst h
      exact ⟨h2, joinC_splitC s⟩
    · rename_i h2
      injection h with h _
      exact absurd h h2
theorem joinC_len {l : List (List UInt8)} (h : ∀ x ∈ l, x.length ≤ 64) : (joinC l).length ≤ l.length * 65 := by
  induction l with
  | nil => simp [joinC]
  | cons x l ih =>
    have h1 := h x (by simp)
    have h2 := ih (fun y hy => h y (by simp [hy]))
    by_cases hn : l = []
    · subst hn
      simp [joinC]
      omega
    · rw [joinC_cons _ hn]
      simp only [List.length_append, List.length_cons]
      omega
/-- A value of a message: its letter, a number, a text, texts. -/
structure Fld where
  k : Nat
  n : Int
  s : List UInt8
  l : List (List UInt8)
theorem fld_eta (x : Fld) : x = ⟨x.k, x.n, x.s, x.l⟩ := rfl
def textL (s : List UInt8) : List UInt8 := q4 s.length ++ s
/-- What counts of a value: 0 its number, 1 its text, 2 its texts. -/
def cntF (k : Nat) : Nat := if k = 98 ∨ k = 117 then 0 else if k = 110 ∨ k = 101 then 2 else 1
def plainF (x : Fld) : Bool := (decide (cntF x.k = 0) || decide (x.n = 0)) && ((decide (cntF x.k = 1) || x.s.isEmpty) && (decide (cntF x.k = 2) || x.l.isEmpty))
def extsL (l : List (List UInt8)) : List UInt8 := q4 (l.length / 2) ++ (l.map textL).flatten
/-- A value on the wire, or what is wrong. -/
def putF (x : Fld) : Nat × List UInt8 :=
  if x.k = 98 then (if x.n = 0 then (0, [0]) else if x.n = 1 then (0, [1]) else (5, []))
  else if x.k = 117 then (if 0 ≤ x.n ∧ x.n < 4294967296 then (0, q4 x.n.toNat) else (5, []))
  else if x.k = 109 then (if aheadL x.s = true then (3, []) else (0, wholeL x.s))
  else if x.k = 110 then (if wrongN x.l = 0 then (0, textL (joinC x.l)) else (wrongN x.l, []))
  else if x.k = 99 then (if x.s.length = 16 then (0, x.s) else (3, []))
  else if x.k = 101 then (if x.l.length % 2 = 1 then (3, []) else if 16 < x.l.length then (2, []) else (0, extsL x.l))
  else (0, textL x.s)
/-- What a reader gets: a value and what is left, or what is wrong. -/
inductive Res (α : Type) where
  | ok (a : α) (r : List UInt8)
  | no (e : Nat)
def gBytes (n : Nat) (r : List UInt8) : Res (List UInt8) := if r.length < n then .no 4 else .ok (r.take n) (r.drop n)
def gBool (r : List UInt8) : Res Int := match r with
  | [] => .no 4
  | c :: r' => if c.toNat ≤ 1 then .ok c.toNat r' else .no 3
def gU32 (r : List UInt8) : Res Nat := if r.length < 4 then .no 4 else .ok (n4 r) (r.drop 4)
def gText (r : List UInt8) : Res (List UInt8) := if r.length < 4 then .no 4 else if r.length - 4 < n4 r then .no 4 else .ok ((r.drop 4).take (n4 r)) (r.drop (4 + n4 r))
/-- Has a whole number its one form? -/
def wholeK (s : List UInt8) : Bool := match s with
  | [] => true
  | c :: r => if 128 ≤ c.toNat then false else if c.toNat = 0 then (match r with | [] => false | d :: _ => decide (128 ≤ d.toNat)) else true
def gWhole (r : List UInt8) : Res (List UInt8) := match gText r with
  | .no e => .no e
  | .ok s r' => if wholeK s = true then .ok (plainL s) r' else .no 3
def gTexts : Nat → List UInt8 → Res (List (List UInt8))
  | 0, r => .ok [] r
  | n + 1, r => match gText r with
    | .no e => .no e
    | .ok s r' => match gTexts n r' with
      | .no e => .no e
      | .ok l r2 => .ok (s :: l) r2
def gExts (r : List UInt8) : Res (List (List UInt8)) := match gU32 r with
  | .no e => .no e
  | .ok n r' => if 8 < n then .no 2 else gTexts (2 * n) r'
def gNames (r : List UInt8) : Res (List (List UInt8)) := match gText r with
  | .no e => .no e
  | .ok s r' => if (splitN s).1 = 0 then .ok (splitN s).2 r' else .no (splitN s).1
def Res.map {α β : Type} (f : α → β) : Res α → Res β
  | .ok a r => .ok (f a) r
  | .no e => .no e
/-- A value of a letter. -/
def getF (k : Nat) (r : List UInt8) : Res Fld :=
  if k = 98 then (gBool r).map (fun n => ⟨k, n, [], []⟩)
  else if k = 117 then (gU32 r).map (fun n => ⟨k, (n : Nat), [], []⟩)
  else if k = 109 then (gWhole r).map (fun s => ⟨k, 0, s, []⟩)
  else if k = 110 then (gNames r).map (fun l => ⟨k, 0, [], l⟩)
  else if k = 99 then (gBytes 16 r).map (fun s => ⟨k, 0, s, []⟩)
  else if k = 101 then (gExts r).map (fun l => ⟨k, 0, [], l⟩)
  else (gText r).map (fun s => ⟨k, 0, s, []⟩)
theorem gText_put {s : List UInt8} (h : s.length < 4294967296) (r : List UInt8) : gText (textL s ++ r) = .ok s r := by
  unfold gText textL
  have hn : n4 (q4 s.length ++ s ++ r) = s.length := by rw [List.append_assoc]; exact n4_q4 h _
  have hlen : (q4 s.length ++ s ++ r).length = 4 + s.length + r.length := by rw [List.length_append, List.length_append, q4_len]
  rw [hn, hlen, if_neg (by omega), if_neg (by omega)]
  have hd : (q4 s.length ++ s ++ r).drop 4 = s ++ r := by
    rw [List.append_assoc, List.drop_append_of_le_length (by simp [q4_len])]
    rfl
  rw [hd, ← List.drop_drop, hd, List.take_left, List.drop_left]
theorem n4_split {r : List UInt8} (h : ¬ r.length < 4) : q4 (n4 r) ++ r.drop 4 = r := by
  match r, h with
  | x :: y :: z :: u :: q, _ =>
    rw [q4_n4]
    rfl
  | [], h => exact absurd (show ([] : List UInt8).length < 4 by decide) h
  | [_], h => exact absurd (by simp) h
  | [_, _], h => exact absurd (by simp) h
  | [_, _, _], h => exact absurd (by simp) h
theorem gText_get {r s r' : List UInt8} (h : gText r = .ok s r') : r = textL s ++ r' ∧ s.length < 4294967296 := by
  unfold gText at h
  split at h
  · cases h
  · rename_i h1
    split at h
    · cases h
    · rename_i h2
      injection h with h3 h4
      have hs := n4_split h1
      have hlt := n4_lt r
      rw [← List.drop_drop] at h4
      generalize n4 r = n at h2 h3 h4 hs hlt
      have hl : s.length = n := by rw [← h3, List.length_take, List.length_drop]; omega
      refine ⟨?_, by rw [hl]; exact hlt⟩
      unfold textL
      rw [hl, ← h3, ← h4, List.append_assoc, List.take_append_drop, hs]
theorem gTexts_of {n : Nat} {r s r' r2 : List UInt8} {l : List (List UInt8)} (h : gText r = .ok s r') (h2 : gTexts n r' = .ok l r2) : gTexts (n + 1) r = .ok (s :: l) r2 := by
  simp only [gTexts]
  rw [h]
  simp only
  rw [h2]
theorem gTexts_put {l : List (List UInt8)} (h : ∀ x ∈ l, x.length < 4294967296) (r : List UInt8) : gTexts l.length ((l.map textL).flatten ++ r) = .ok l r := by
  induction l with
  | nil => rfl
  | cons x l ih =>
    simp only [List.map_cons, List.flatten_cons, List.length_cons, List.append_assoc]
    exact gTexts_of (gText_put (h x (by simp)) _) (ih (fun y hy => h y (by simp [hy])))
theorem gTexts_get {n : Nat} {l : List (List UInt8)} {r r' : List UInt8} (h : gTexts n r = .ok l r') : r = (l.map textL).flatten ++ r' ∧ l.length = n ∧ ∀ x ∈ l, x.length < 4294967296 := by
  induction n generalizing r l with
  | zero =>
    simp only [gTexts] at h
    injection h with h1 h2
    subst h1 h2
    exact ⟨rfl, rfl, by simp⟩
  | succ n ih =>
    simp only [gTexts] at h
    cases ht : gText r with
    | no e => rw [ht] at h; cases h
    | ok s r1 =>
      rw [ht] at h
      simp only at h
      cases h2 : gTexts n r1 with
      | no e => rw [h2] at h; cases h
      | ok l2 r2 =>
        rw [h2] at h
        simp only at h
        injection h with h3 h4
        subst h3 h4
        obtain ⟨e1, e2⟩ := gText_get ht
        obtain ⟨e3, e4, e5⟩ := ih h2
        refine ⟨by simp only [List.map_cons, List.flatten_cons, List.append_assoc]; rw [e1, e3], by simp [e4], ?_⟩
        intro x hx
        rcases List.mem_cons.1 hx with rfl | hx
        · exact e2
        · exact e5 x hx
theorem gU32_put {n : Nat} (h : n < 4294967296) (r : List UInt8) : gU32 (q4 n ++ r) = .ok n r := by
  unfold gU32
  rw [if_neg (by simp [q4_len]), n4_q4 h]
  rfl
theorem gU32_get {r r' : List UInt8} {n : Nat} (h : gU32 r = .ok n r') : r = q4 n ++ r' ∧ n < 4294967296 := by
  unfold gU32 at h
  split at h
  · cases h
  · rename_i h1
    injection h with h2 h3
    have hs := n4_split h1
    have hlt := n4_lt r
    rw [h2] at hs hlt
    rw [← h3]
    exact ⟨hs.symm, hlt⟩
theorem signL_plain {s : List UInt8} (h : aheadL s = false) : plainL (signL s) = s := by
  cases s with
  | nil => rfl
  | cons c r =>
    unfold signL
    simp only
    split
    · show plainL (0 :: c :: r) = _
      unfold plainL
      rw [List.dropWhile_cons_of_pos (by rfl)]
      exact plainL_id (l := c :: r) h
    · exact plainL_id h
theorem signL_whole {s : List UInt8} (h : aheadL s = false) : wholeK (signL s) = true := by
  cases s with
  | nil => rfl
  | cons c r =>
    unfold signL
    simp only
    split
    · rename_i h1
      simp [wholeK, h1]
    · rename_i h1
      have : ¬ c.toNat = 0 := fun e => by
        have : c = 0 := UInt8.toNat_inj.1 (by simpa using e)
        subst this
        simp [aheadL] at h
      simp [wholeK, h1, this]
theorem whole_sign {s : List UInt8} (h : wholeK s = true) : aheadL (plainL s) = false ∧ signL (plainL s) = s := by
  cases s with
  | nil => exact ⟨rfl, rfl⟩
  | cons c r =>
    unfold wholeK at h
    simp only at h
    split at h
    · cases h
    · rename_i h1
      split at h
      · rename_i h2
        have hc : c = 0 := UInt8.toNat_inj.1 (by simpa using h2)
        subst hc
        cases r with
        | nil => cases h
        | cons d q =>
          simp only [decide_eq_true_eq] at h
          have hd : ¬ d = 0 := fun e => by subst e; simp at h
          have hp : plainL (0 :: d :: q) = d :: q := by
            unfold plainL
            rw [List.dropWhile_cons_of_pos (by rfl)]
            exact plainL_id (l := d :: q) (by simp [aheadL, hd])
          rw [hp]
          exact ⟨by simp [aheadL, hd], by simp [signL, h]⟩
      · rename_i h2
        have hc : ¬ c = 0 := fun e => by subst e; simp at h2
        have hp : plainL (c :: r) = c :: r := plainL_id (by simp [aheadL, hc])
        rw [hp]
        exact ⟨by simp [aheadL, hc], by simp [signL, h1]⟩
theorem whole_text {s : List UInt8} (h : aheadL s = false) : wholeL s = textL (signL s) := by
  unfold wholeL textL
  rw [plainL_id h]
theorem gWhole_of {r t q : List UInt8} (h : gText r = .ok t q) : gWhole r = if wholeK t = true then .ok (plainL t) q else .no 3 := by
  unfold gWhole
  rw [h]
theorem gNames_of {r t q : List UInt8} (h : gText r = .ok t q) : gNames r = if (splitN t).1 = 0 then .ok (splitN t).2 q else .no (splitN t).1 := by
  unfold gNames
  rw [h]
theorem gExts_of {r q : List UInt8} {n : Nat} (h : gU32 r = .ok n q) : gExts r = if 8 < n then .no 2 else gTexts (2 * n) q := by
  unfold gExts
  rw [h]
theorem gWhole_put {s : List UInt8} (h : aheadL s = false) (hl : s.length < 4294967290) (r : List UInt8) : gWhole (wholeL s ++ r) = .ok s r := by
  have := signL_len s
  have hg := gText_put (s := signL s) (by omega) r
  rw [← whole_text h] at hg
  rw [gWhole_of hg, if_pos (signL_whole h), signL_plain h]
theorem gWhole_get {r s r' : List UInt8} (h : gWhole r = .ok s r') : r = wholeL s ++ r' ∧ aheadL s = false := by
  unfold gWhole at h
  cases ht : gText r with
  | no e => rw [ht] at h; cases h
  | ok t r1 =>
    rw [ht] at h
    simp only at h
    split at h
    · rename_i hw
      injection h with h1 h2
      obtain ⟨e1, _⟩ := gText_get ht
      obtain ⟨e3, e4⟩ := whole_sign hw
      subst h1 h2
      refine ⟨?_, e3⟩
      rw [whole_text e3, e4, e1]
    · cases h
/-- The texts of a value are no longer than that. -/
def fitF (x : Fld) : Prop := x.s.length < 4294967000 ∧ ∀ y ∈ x.l, y.length < 4294967000
theorem fld_num {x : Fld} (h : plainF x = true) (hc : cntF x.k = 0) : x = ⟨x.k, x.n, [], []⟩ := by
  obtain ⟨k, n, s, l⟩ := x
  simp only [plainF] at h hc
  simp_all
theorem fld_txt {x : Fld} (h : plainF x = true) (hc : cntF x.k = 1) : x = ⟨x.k, 0, x.s, []⟩ := by
  obtain ⟨k, n, s, l⟩ := x
  simp only [plainF] at h hc
  simp_all
theorem fld_lst {x : Fld} (h : plainF x = true) (hc : cntF x.k = 2) : x = ⟨x.k, 0, [], x.l⟩ := by
  obtain ⟨k, n, s, l⟩ := x
  simp only [plainF] at h hc
  simp_all
theorem Res.map_ok {α β : Type} (f : α → β) (a : α) (r : List UInt8) : (Res.ok a r).map f = .ok (f a) r := rfl
theorem getF_98 {k : Nat} (r : List UInt8) (h : k = 98) : getF k r = (gBool r).map (fun n => ⟨k, n, [], []⟩) := by unfold getF; rw [if_pos h]
theorem getF_117 {k : Nat} (r : List UInt8) (h : k = 117) : getF k r = (gU32 r).map (fun n => ⟨k, (n : Nat), [], []⟩) := by unfold getF; rw [if_neg (by omega), if_pos h]
theorem getF_109 {k : Nat} (r : List UInt8) (h : k = 109) : getF k r = (gWhole r).map (fun s => ⟨k, 0, s, []⟩) := by unfold getF; rw [if_neg (by omega), if_neg (by omega), if_pos h]
theorem getF_110 {k : Nat} (r : List UInt8) (h : k = 110) : getF k r = (gNames r).map (fun l => ⟨k, 0, [], l⟩) := by unfold getF; rw [if_neg (by omega), if_neg (by omega), if_neg (by omega), if_pos h]
theorem getF_99 {k : Nat} (r : List UInt8) (h : k = 99) : getF k r = (gBytes 16 r).map (fun s => ⟨k, 0, s, []⟩) := by unfold getF; rw [if_neg (by omega), if_neg (by omega), if_neg (by omega), if_neg (by omega), if_pos h]
theorem getF_101 {k : Nat} (r : List UInt8) (h : k = 101) : getF k r = (gExts r).map (fun l => ⟨k, 0, [], l⟩) := by unfold getF; rw [if_neg (by omega), if_neg (by omega), if_neg (by omega), if_neg (by omega), if_neg (by omega), if_pos h]
theorem getF_else {k : Nat} (r : List UInt8) (h0 : ¬ k = 98) (h1 : ¬ k = 117) (h2 : ¬ k = 109) (h3 : ¬ k = 110) (h4 : ¬ k = 99) (h5 : ¬ k = 101) : getF k r = (gText r).map (fun s => ⟨k, 0, s, []⟩) := by
  unfold getF
  rw [if_neg h0, if_neg h1, if_neg h2, if_neg h3, if_neg h4, if_neg h5]
theorem gBool_cons (c : UInt8) (r : List UInt8) : gBool (c :: r) = if c.toNat ≤ 1 then .ok c.toNat r else .no 3 := rfl
theorem gBytes_put {n : Nat} {s : List UInt8} (h : s.length = n) (r : List UInt8) : gBytes n (s ++ r) = .ok s r := by
  unfold gBytes
  rw [if_neg (by rw [List.length_append]; omega), ← h, List.take_left, List.drop_left]
/-- What was written is read back. -/
theorem get_put {x : Fld} {b : List UInt8} (hf : fitF x) (hp : plainF x = true) (h : putF x = (0, b)) (r : List UInt8) : getF x.k (b ++ r) = .ok x r := by
  unfold putF at h
  split at h
  · rename_i h0
    have e := fld_num hp (by simp [cntF, h0])
    split at h
    · rename_i hn
      injection h with _ h
      subst h
      rw [getF_98 _ h0, List.singleton_append, gBool_cons, if_pos (by decide), Res.map_ok, e, hn]
      rfl
    · split at h
      · rename_i hn
        injection h with _ h
        subst h
        rw [getF_98 _ h0, List.singleton_append, gBool_cons, if_pos (by decide), Res.map_ok, e, hn]
        rfl
      · injection h with h _; cases h
  · rename_i h0
    split at h
    · rename_i h1
      have e := fld_num hp (by simp [cntF, h1])
      split at h
      · rename_i hn
        injection h with _ h
        subst h
        rw [getF_117 _ h1, gU32_put (by omega), Res.map_ok, show ((x.n.toNat : Nat) : Int) = x.n from by omega, ← e]
      · injection h with h _; cases h
    · rename_i h1
      split at h
      · rename_i h2
        have e := fld_txt hp (by simp [cntF, h2])
        split at h
        · injection h with h _; cases h
        · rename_i ha
          injection h with _ h
          subst h
          rw [getF_109 _ h2, gWhole_put (by simpa using ha) (by have := hf.1; omega), Res.map_ok, ← e]
      · rename_i h2
        split at h
        · rename_i h3
          have e := fld_lst hp (by simp [cntF, h3])
          split at h
          · rename_i hw
            injection h with _ h
            subst h
            obtain ⟨w1, w2⟩ := wrong_ok hw
            have hl := joinC_len (l := x.l) (fun y hy => (right_len (w2 y hy)).2)
            have hs := splitN_join hw
            rw [getF_110 _ h3, gNames_of (gText_put (by omega) r), hs, if_pos rfl, Res.map_ok, ← e]
          · rename_i hw
            injection h with h _
            exact absurd h hw
        · rename_i h3
          split at h
          · rename_i h4
            have e := fld_txt hp (by simp [cntF, h4])
            split at h
            · rename_i hs
              injection h with _ h
              subst h
              rw [getF_99 _ h4, gBytes_put hs, Res.map_ok, ← e]
            · injection h with h _; cases h
          · rename_i h4
            split at h
            · rename_i h5
              have e := fld_lst hp (by simp [cntF, h5])
              split at h
              · injection h with h _; cases h
              · split at h
                · injection h with h _; cases h
                · rename_i ho hl
                  injection h with _ h
                  subst h
                  have hg := gU32_put (n := x.l.length / 2) (by omega) ((x.l.map textL).flatten ++ r)
                  have ht := gTexts_put (l := x.l) (fun y hy => by have := hf.2 y hy; omega) r
                  rw [← List.append_assoc] at hg
                  rw [getF_101 _ h5, show extsL x.l = q4 (x.l.length / 2) ++ (x.l.map textL).flatten from rfl, gExts_of hg, if_neg (by omega), show 2 * (x.l.length / 2) = x.l.length from by omega, ht, Res.map_ok, ← e]
            · rename_i h5
              have e := fld_txt hp (by simp [cntF, *])
              injection h with _ h
              subst h
              rw [getF_else _ h0 h1 h2 h3 h4 h5, gText_put (by have := hf.1; omega), Res.map_ok, ← e]
/-- What is read is written just so. -/
theorem put_get {k : Nat} {r r' : List UInt8} {x : Fld} (h : getF k r = .ok x r') : x.k = k ∧ plainF x = true ∧ ∃ b, putF x = (0, b) ∧ r = b ++ r' := by
  unfold getF at h
  split at h
  · rename_i h0
    subst h0
    cases r with
    | nil => cases h
    | cons c q =>
      simp only [gBool] at h
      split at h
      · rename_i hc
        injection h with h1 h2
        subst h1 h2
        refine ⟨rfl, rfl, [c], ?_, rfl⟩
        have hcc : c.toNat = 0 ∨ c.toNat = 1 := by omega
        rcases hcc with hcc | hcc
        · have : c = 0 := UInt8.toNat_inj.1 (by simpa using hcc)
          subst this
          rfl
        · have : c = 1 := UInt8.toNat_inj.1 (by simpa using hcc)
          subst this
          rfl
      · cases h
  · rename_i h0
    split at h
    · rename_i h1
      subst h1
      cases hg : gU32 r with
      | no e => rw [hg] at h; cases h
      | ok n q =>
        rw [hg] at h
        injection h with h2 h3
        subst h2 h3
        obtain ⟨e1, e2⟩ := gU32_get hg
        refine ⟨rfl, rfl, q4 n, ?_, e1⟩
        simp only [putF]
        rw [if_neg (by omega), if_pos trivial, if_pos ⟨by omega, by omega⟩]
        simp
    · rename_i h1
      split at h
      · rename_i h2
        subst h2
        cases hg : gWhole r with
        | no e => rw [hg] at h; cases h
        | ok s q =>
          rw [hg] at h
          injection h with h3 h4
          subst h3 h4
          obtain ⟨e1, e2⟩ := gWhole_get hg
          refine ⟨rfl, by simp [plainF, cntF], wholeL s, ?_, e1⟩
          simp [putF, e2]
      · rename_i h2
        split at h
        · rename_i h3
          subst h3
          unfold gNames at h
          cases hg : gText r with
          | no e => rw [hg] at h; cases h
          | ok s q =>
            rw [hg] at h
            simp only at h
            split at h
            · rename_i hs
              injection h with h4 h5
              subst h4 h5
              obtain ⟨e1, e2⟩ := gText_get hg
              have hj := join_splitN (s := s) (l := (splitN s).2) (by rw [← hs])
              refine ⟨rfl, by simp [plainF, cntF], textL s, ?_, e1⟩
              simp only [putF]
              rw [if_neg (by omega), if_neg (by omega), if_neg (by omega), if_pos trivial, if_pos hj.1, hj.2]
            · cases h
        · rename_i h3
          split at h
          · rename_i h4
            subst h4
            unfold gBytes at h
            split at h
            · cases h
            · rename_i hl
              injection h with h5 h6
              subst h5 h6
              refine ⟨rfl, by simp [plainF, cntF], r.take 16, ?_, (List.take_append_drop 16 r).symm⟩
              simp only [putF]
              rw [if_neg (by omega), if_neg (by omega), if_neg (by omega), if_neg (by omega), if_pos trivial, if_pos (by rw [List.length_take]; omega)]
          · rename_i h4
            split at h
            · rename_i h5
              subst h5
              unfold gExts at h
              cases hg : gU32 r with
              | no e => rw [hg] at h; cases h
              | ok n q =>
                rw [hg] at h
                simp only at h
                split at h
                · cases h
                · rename_i hn
                  cases ht : gTexts (2 * n) q with
                  | no e => rw [ht] at h; cases h
                  | ok l q2 =>
                    rw [ht] at h
                    injection h with h6 h7
                    subst h6 h7
                    obtain ⟨e1, e2⟩ := gU32_get hg
                    obtain ⟨e3, e4, e5⟩ := gTexts_get ht
                    refine ⟨rfl, by simp [plainF, cntF], extsL l, ?_, ?_⟩
                    · simp only [putF]
                      rw [if_neg (by omega), if_neg (by omega), if_neg (by omega), if_neg (by omega), if_neg (by omega), if_pos trivial, if_neg (by omega), if_neg (by omega)]
                    · unfold extsL
                      rw [e4, show 2 * n / 2 = n from by omega, e1, e3, List.append_assoc]
            · rename_i h5
              cases hg : gText r with
              | no e => rw [hg] at h; cases h
              | ok s q =>
                rw [hg] at h
                injection h with h6 h7
                subst h6 h7
                obtain ⟨e1, e2⟩ := gText_get hg
                refine ⟨rfl, by simp [plainF, cntF, *], textL s, ?_, e1⟩
                simp [putF, *]
end Go.Proofs.YtdhopoafpddjpaaDoor
