/-
  Reading bytes as a term, kind by kind, as plain data: what is made of a head and of the terms behind it. Conditions: at most MaxTerm bytes.
-/
import Derived.Test.YtkpikfdfekggbaaGreatDoorPureA
namespace Go.Proofs.YtkpikfdfekggbaaGreatDoor

/-- What is read at a place: no term, or one, and where it ends. -/
def ReadT (s : ByteArray) (p : Nat) (o : Option Tm) (p' : Nat) : Prop :=
  (o = none ∧ NoT (s.data.toList.drop p)) ∨ ∃ t, o = some t ∧ good t ∧ s.data.toList.drop p = enc t ++ s.data.toList.drop p'
/-- o is what is made of a head and of terms. -/
def MadeOf (k a b : Nat) (s : ByteArray) (l : List Tm) (o : Option Tm) : Prop :=
  (hd k a b s l.length ∧ kids k l → (enc (.mk k a b s l)).length ≤ 131072 → o = some (.mk k a b s l)) ∧ (¬ (hd k a b s l.length ∧ kids k l) → o = none)
theorem lim_eq {t : Tm} (h : (enc t).length ≤ 131072) : lim t = some t := lim_small h
theorem madeOf_data (s : ByteArray) (hs : s.size < 4294967296) : MadeOf 1 0 0 s [] (tData s) :=
  ⟨fun _ h => lim_eq h, fun h => absurd ⟨⟨rfl, rfl, rfl, hs⟩, trivial⟩ h⟩
theorem madeOf_nonce (a b : Nat) : MadeOf 2 a b eB [] (tNonce a b) := by
  refine ⟨fun h _ => ?_, fun h => ?_⟩
  · have h1 := h.1
    simp only [hd] at h1
    unfold tNonce okN
    rw [if_pos (by simp; omega)]
    rfl
  · unfold tNonce okN
    rw [if_neg]
    intro hc
    simp only [Bool.and_eq_true, decide_eq_true_eq] at hc
    exact h ⟨⟨by omega, by omega, rfl, rfl⟩, trivial⟩
theorem madeOf_key (a : Nat) : MadeOf 3 a 0 eB [] (tKey a) := by
  refine ⟨fun h _ => ?_, fun h => ?_⟩
  · have h1 := h.1
    simp only [hd] at h1
    unfold tKey okN
    rw [if_pos (by simp; omega)]
    rfl
  · unfold tKey okN
    rw [if_neg]
    intro hc
    simp only [Bool.and_eq_true, decide_eq_true_eq] at hc
    exact h ⟨⟨by omega, rfl, rfl, rfl⟩, trivial⟩
theorem madeOf_pub (t : Tm) : MadeOf 4 0 0 eB [t] (tPub (some t)) := by
  refine ⟨fun h _ => ?_, fun h => ?_⟩
  · have h1 : t.k = 3 := by simpa [kids] using h.2
    unfold tPub
    simp only
    rw [if_pos h1]
  · unfold tPub
    simp only
    rw [if_neg]
    intro hk
    exact h ⟨⟨rfl, rfl, rfl, rfl⟩, by simpa [kids] using hk⟩
theorem madeOf_sign (alg : ByteArray) (t u : Tm) : MadeOf 6 0 0 alg [t, u] (tSign alg (some t) (some u)) := by
  refine ⟨fun h hl => ?_, fun h => ?_⟩
  · have h1 : t.k = 3 := by simpa [kids] using h.2
    have h2 := h.1
    simp only [hd] at h2
    unfold tSign
    simp only
    rw [if_pos ⟨⟨h2.2.2.2.1, h2.2.2.2.2⟩, h1⟩]
    exact lim_eq hl
  · unfold tSign
    simp only
    rw [if_neg]
    rintro ⟨⟨h1, h2⟩, hk⟩
    exact h ⟨⟨rfl, rfl, rfl, h1, h2⟩, by simpa [kids] using hk⟩
theorem madeOf_hash (t : Tm) : MadeOf 7 0 0 eB [t] (tHash (some t)) :=
  ⟨fun _ h => lim_eq h, fun h => absurd ⟨⟨rfl, rfl, rfl, rfl⟩, trivial⟩ h⟩
theorem madeOf_derive (c : Nat) (hc : c < 256) (t u v : Tm) : MadeOf 8 0 c eB [t, u, v] (tDerive c (some t) (some u) (some v)) :=
  ⟨fun _ h => lim_eq h, fun h => absurd ⟨⟨rfl, hc, rfl, rfl⟩, trivial⟩ h⟩
theorem madeOf_seal (n : Nat) (hn : n < 4294967296) (t u : Tm) : MadeOf 9 0 n eB [t, u] (tSeal n (some t) (some u)) :=
  ⟨fun _ h => lim_eq h, fun h => absurd ⟨⟨rfl, hn, rfl, rfl⟩, trivial⟩ h⟩
theorem madeOf_list (l : List Tm) (hl : l.length ≤ 32) : MadeOf 10 0 0 eB l (tList (l.map some)) := by
  refine ⟨fun _ h => ?_, fun h => absurd ⟨⟨rfl, rfl, hl, rfl⟩, trivial⟩ h⟩
  unfold tList
  rw [if_pos (by simpa using hl), alls_some]
  exact lim_eq h
instance (x y : Tm) : Decidable (tle x y) := inferInstanceAs (Decidable (_ ∨ _))
/-- What Exp would make, one exponent behind the other. -/
def expsO (g : ByteArray) (l : List Tm) : Option Tm := if (1 ≤ g.size ∧ g.size ≤ 2100) ∧ (∀ x ∈ l, x.k = 2) ∧ l.Pairwise tle then some (.mk 5 0 0 g l) else none
theorem madeOf_exps (g : ByteArray) (l : List Tm) (hl : l.length ≤ 8) : MadeOf 5 0 0 g l (expsO g l) := by
  refine ⟨fun h _ => ?_, fun h => ?_⟩
  · have h1 := h.1
    simp only [hd] at h1
    unfold expsO
    rw [if_pos ⟨⟨h1.2.2.2.1, h1.2.2.2.2⟩, h.2⟩]
  · unfold expsO
    rw [if_neg]
    rintro ⟨⟨h1, h2⟩, h3⟩
    exact h ⟨⟨rfl, rfl, hl, h1, h2⟩, h3⟩
section
variable {s : ByteArray} {p p' : Nat}
theorem readT_none (h : NoT (s.data.toList.drop p)) : ReadT s p none p' := .inl ⟨rfl, h⟩
/-- A head was read, and the terms behind it. -/
theorem readT_fin (hs : s.size ≤ 131072) {k a b n : Nat} {s' : ByteArray} {c : UInt8} {s1 s2 : List UInt8} {l : List Tm} {o : Option Tm} (h1 : s.data.toList.drop p = c :: s1) (hc : c.toNat = 240 + k) (hk : k ≤ 10)
    (h : Hed k a b s' n s1 s2) (hl : goods l) (hn : l.length = n) (e2 : s2 = encs l ++ s.data.toList.drop p') (ho : MadeOf k a b s' l o) : ReadT s p o p' := by
  subst hn
  by_cases hh : hd k a b s' l.length ∧ kids k l
  · obtain ⟨h3, h4⟩ := h.yes hc hk hl rfl e2 hh
    refine .inr ⟨_, ho.1 hh ?_, h3, h1.trans h4⟩
    have h5 := congrArg List.length (h1.trans h4)
    rw [List.length_append, List.length_drop, size_len] at h5
    omega
  · exact .inl ⟨ho.2 hh, by rw [h1]; exact h.not hc hl rfl e2 hh⟩
/-- A head was read, but not as many terms as it says. -/
theorem readT_few {k a b n : Nat} {s' : ByteArray} {c : UInt8} {s1 s2 : List UInt8} (h1 : s.data.toList.drop p = c :: s1) (hc : c.toNat = 240 + k) (h : Hed k a b s' n s1 s2) (h2 : NoTs n s2) : ReadT s p none p' :=
  readT_none (by rw [h1]; exact h.no hc h2)
/-- .. or there may be no such head. -/
theorem readT_nohd {k a b n : Nat} {s' : ByteArray} {c : UInt8} {s1 s2 : List UInt8} (h1 : s.data.toList.drop p = c :: s1) (hc : c.toNat = 240 + k) (h : Hed k a b s' n s1 s2) (h2 : ¬ hd k a b s' n) : ReadT s p none p' :=
  readT_none (by rw [h1]; exact h.nohd hc h2)
end
theorem noT_kind {c : UInt8} {s1 : List UInt8} (h : ¬ (241 ≤ c.toNat ∧ c.toNat ≤ 250)) : NoT (c :: s1) := by
  intro t r ht e
  obtain ⟨r2, hr⟩ := enc_head t ht
  have hk := good_k ht
  rw [hr, List.cons_append, List.cons.injEq] at e
  have := congrArg UInt8.toNat e.1
  rw [UInt8.toNat_ofNat'] at this
  omega
/-- The place of the last exponent tells whether the exponents stand in order. -/
theorem ins_last {x : Tm} {l : List Tm} (hl : l.Pairwise tle) : (ins x l)[l.length]? = some x ↔ ins x l = l ++ [x] := by
  constructor
  · intro h
    induction l with
    | nil => rfl
    | cons y l ih =>
      obtain ⟨h1, h2⟩ := List.pairwise_cons.1 hl
      unfold ins at h ⊢
      split at h
      · rename_i hlt
        exfalso
        simp only [List.length_cons, List.getElem?_cons_succ] at h
        have h3 : x ∈ y :: l := List.mem_of_getElem? h
        have h4 : tle y x := by
          rcases List.mem_cons.1 h3 with h5 | h5
          · rw [h5]; unfold tle; omega
          · exact h1 x h5
        unfold tlt at hlt
        unfold tle at h4
        simp only [decide_eq_true_eq] at hlt
        omega
      · rename_i hlt
        rw [if_neg hlt]
        simp only [List.length_cons, List.getElem?_cons_succ] at h
        rw [ih h2 h]
        rfl
  · intro h
    rw [h]
    simp
theorem ins_fit {x : Tm} {l : List Tm} (h : (l ++ [x]).Pairwise tle) : ins x l = l ++ [x] := by
  induction l with
  | nil => rfl
  | cons y l ih =>
    rw [List.cons_append] at h
    obtain ⟨h1, h2⟩ := List.pairwise_cons.1 h
    unfold ins
    rw [if_neg, ih h2]
    · rfl
    · intro hlt
      have h4 := h1 x (by simp)
      unfold tlt at hlt
      unfold tle at h4
      simp only [decide_eq_true_eq] at hlt
      omega
theorem ins_fit_iff {x : Tm} {l : List Tm} (hl : l.Pairwise tle) : (ins x l = l ++ [x]) ↔ (l ++ [x]).Pairwise tle := by
  constructor
  · intro h
    rw [← h]
    exact ins_sorted hl
  · exact ins_fit
/-- One exponent more. -/
theorem expsO_step {g : ByteArray} {l : List Tm} {x : Tm} (h : expsO g l = some (.mk 5 0 0 g l)) (hx : x.k = 2) (h8 : l.length < 8) :
    tExp (some (.mk 5 0 0 g l)) (some x) = some (.mk 5 0 0 g (ins x l)) ∧ ((ins x l)[l.length]? = some x → ins x l = l ++ [x] ∧ expsO g (l ++ [x]) = some (.mk 5 0 0 g (l ++ [x]))) ∧ ((ins x l)[l.length]? ≠ some x → ∀ r, expsO g (l ++ [x] ++ r) = none) := by
  have hc : (1 ≤ g.size ∧ g.size ≤ 2100) ∧ (∀ x ∈ l, x.k = 2) ∧ l.Pairwise tle := by
    unfold expsO at h
    split at h
    · assumption
    · cases h
  refine ⟨?_, fun h1 => ?_, fun h1 r => ?_⟩
  · exact if_pos ⟨rfl, hx, h8⟩
  · have h2 := (ins_last hc.2.2).1 h1
    refine ⟨h2, ?_⟩
    have h3 : ∀ y ∈ l ++ [x], y.k = 2 := by
      intro y hy
      rcases List.mem_append.1 hy with hy | hy
      · exact hc.2.1 y hy
      · rw [List.mem_singleton] at hy
        rw [hy]
        exact hx
    unfold expsO
    rw [if_pos ⟨hc.1, h3, (ins_fit_iff hc.2.2).1 h2⟩]
  · unfold expsO
    rw [if_neg]
    rintro ⟨_, _, h2⟩
    exact h1 ((ins_last hc.2.2).2 (ins_fit (List.pairwise_append.1 h2).1))
theorem expsO_base (g : ByteArray) : expsO g [] = tBase g := by
  unfold expsO tBase
  by_cases h : 1 ≤ g.size ∧ g.size ≤ 2100
  · rw [if_pos h, if_pos ⟨h, by simp, List.Pairwise.nil⟩]
  · rw [if_neg h, if_neg (fun h2 => h h2.1)]
theorem expsO_kind {g : ByteArray} {l : List Tm} {x : Tm} (hx : x ∈ l) (h : x.k ≠ 2) : expsO g l = none := by
  unfold expsO
  rw [if_neg]
  rintro ⟨_, h2, _⟩
  exact h (h2 x hx)
theorem expsO_group {g : ByteArray} {l : List Tm} (h : tBase g = none) : expsO g l = none := by
  unfold expsO
  rw [if_neg]
  rintro ⟨h2, _⟩
  unfold tBase at h
  rw [if_pos h2] at h
  cases h
end Go.Proofs.YtkpikfdfekggbaaGreatDoor
