/-
  Several of my texts in one: Tm, TmOps, TmRead, TmLess, JoinS, ArenaP, MakesP, NodeP, ReadP, InsP, CodeP, TransP.
-/
import GoSem.Op.String
import Derived.Lib.ItoaNum
set_option linter.unusedVariables false
set_option linter.unusedSimpArgs false
/-
  Terms, as plain data, and their bytes: what is written down is read back in one way alone. Conditions: none.
-/
namespace Go.Proofs.YtjaipdenahlheaaDoor

/-- A term: its kind, two numbers, a text, and the terms that it is made of. -/
inductive Tm where
  | mk (k a b : Nat) (s : ByteArray) (l : List Tm)
def Tm.k : Tm → Nat | .mk k _ _ _ _ => k
def Tm.a : Tm → Nat | .mk _ a _ _ _ => a
def Tm.b : Tm → Nat | .mk _ _ b _ _ => b
def Tm.s : Tm → ByteArray | .mk _ _ _ s _ => s
def Tm.l : Tm → List Tm | .mk _ _ _ _ l => l

def q4 (n : Nat) : List UInt8 := [UInt8.ofNat (n / 16777216), UInt8.ofNat (n / 65536), UInt8.ofNat (n / 256), UInt8.ofNat n]
theorem q4_len (n : Nat) : (q4 n).length = 4 := rfl
def n4 : List UInt8 → Nat
  | x :: y :: z :: u :: _ => x.toNat * 16777216 + y.toNat * 65536 + z.toNat * 256 + u.toNat
  | _ => 0
theorem n4_q4 {n : Nat} (h : n < 4294967296) (r : List UInt8) : n4 (q4 n ++ r) = n := by
  simp only [q4, n4, List.cons_append, UInt8.toNat_ofNat']
  omega
theorem q4_inj {n m : Nat} {r r' : List UInt8} (hn : n < 4294967296) (hm : m < 4294967296) (h : q4 n ++ r = q4 m ++ r') : n = m ∧ r = r' := by
  have h1 := n4_q4 hn r
  rw [h, n4_q4 hm r'] at h1
  subst h1
  exact ⟨rfl, List.append_cancel_left h⟩

/-- What stands ahead of the terms that a term is made of, behind its first byte. -/
def mid (k a b : Nat) (s : List UInt8) (n : Nat) : List UInt8 :=
  match k with
  | 1 => q4 s.length ++ s
  | 2 => q4 a ++ q4 b
  | 3 => q4 a
  | 5 => q4 s.length ++ (s ++ q4 n)
  | 6 => q4 s.length ++ s
  | 8 => [UInt8.ofNat b]
  | 9 => q4 b
  | 10 => q4 n
  | _ => []
def head (k a b : Nat) (s : List UInt8) (n : Nat) : List UInt8 := UInt8.ofNat (240 + k) :: mid k a b s n

mutual
def enc : Tm → List UInt8
  | .mk k a b s l => head k a b s.data.toList l.length ++ encs l
def encs : List Tm → List UInt8
  | [] => []
  | t :: l => enc t ++ encs l
end

/-- By which of two nonces a share is raised first. -/
def tle (x y : Tm) : Prop := x.a < y.a ∨ x.a = y.a ∧ x.b ≤ y.b
/-- May the numbers, the text and the number of terms of a kind be? -/
def hd (k a b : Nat) (s : ByteArray) (n : Nat) : Prop :=
  match k with
  | 1 => a = 0 ∧ b = 0 ∧ n = 0 ∧ s.size < 4294967296
  | 2 => a < 2147483648 ∧ b < 2147483648 ∧ n = 0 ∧ s = ⟨#[]⟩
  | 3 => a < 2147483648 ∧ b = 0 ∧ n = 0 ∧ s = ⟨#[]⟩
  | 4 => a = 0 ∧ b = 0 ∧ n = 1 ∧ s = ⟨#[]⟩
  | 5 => a = 0 ∧ b = 0 ∧ n ≤ 8 ∧ 1 ≤ s.size ∧ s.size ≤ 2100
  | 6 => a = 0 ∧ b = 0 ∧ n = 2 ∧ 1 ≤ s.size ∧ s.size ≤ 64
  | 7 => a = 0 ∧ b = 0 ∧ n = 1 ∧ s = ⟨#[]⟩
  | 8 => a = 0 ∧ b < 256 ∧ n = 3 ∧ s = ⟨#[]⟩
  | 9 => a = 0 ∧ b < 4294967296 ∧ n = 2 ∧ s = ⟨#[]⟩
  | 10 => a = 0 ∧ b = 0 ∧ n ≤ 32 ∧ s = ⟨#[]⟩
  | _ => False
/-- May the terms of a kind be? -/
def kids (k : Nat) (l : List Tm) : Prop :=
  match k with
  | 4 => ∀ x ∈ l.head?, x.k = 3
  | 5 => (∀ x ∈ l, x.k = 2) ∧ l.Pairwise tle
  | 6 => ∀ x ∈ l.head?, x.k = 3
  | _ => True
mutual
/-- A term that may be. -/
def good : Tm → Prop
  | .mk k a b s l => hd k a b s l.length ∧ kids k l ∧ goods l
def goods : List Tm → Prop
  | [] => True
  | t :: l => good t ∧ goods l
end
theorem hd_k {k a b n : Nat} {s : ByteArray} (h : hd k a b s n) : 1 ≤ k ∧ k ≤ 10 := by
  unfold hd at h
  split at h <;> first | omega | exact h.elim
theorem tag_inj {k k' : Nat} (h1 : k ≤ 10) (h2 : k' ≤ 10) (h : UInt8.ofNat (240 + k) = UInt8.ofNat (240 + k')) : k = k' := by
  have := congrArg UInt8.toNat h
  simp only [UInt8.toNat_ofNat'] at this
  omega
theorem toList_inj {s t : ByteArray} (h : s.data.toList = t.data.toList) : s = t := by
  obtain ⟨s⟩ := s
  obtain ⟨t⟩ := t
  congr 1
  exact Array.toList_inj.1 h
theorem text_inj {s t : List UInt8} {r r' : List UInt8} (hs : s.length < 4294967296) (ht : t.length < 4294967296) (h : q4 s.length ++ (s ++ r) = q4 t.length ++ (t ++ r')) : s = t ∧ r = r' := by
  obtain ⟨h1, h2⟩ := q4_inj hs ht h
  exact List.append_inj h2 h1
theorem size_len (s : ByteArray) : s.data.toList.length = s.size := rfl
theorem head_inj {k a b n k' a' b' n' : Nat} {s s' : ByteArray} {r r' : List UInt8} (h : hd k a b s n) (h' : hd k' a' b' s' n')
    (he : head k a b s.data.toList n ++ r = head k' a' b' s'.data.toList n' ++ r') : k = k' ∧ a = a' ∧ b = b' ∧ s = s' ∧ n = n' ∧ r = r' := by
  unfold head at he
  simp only [List.cons_append, List.cons.injEq] at he
  obtain ⟨h1, h2⟩ := he
  obtain rfl := tag_inj (hd_k h).2 (hd_k h').2 h1
  have hk := hd_k h
  refine ⟨rfl, ?_⟩
  obtain rfl | rfl | rfl | rfl | rfl | rfl | rfl | rfl | rfl | rfl : k = 1 ∨ k = 2 ∨ k = 3 ∨ k = 4 ∨ k = 5 ∨ k = 6 ∨ k = 7 ∨ k = 8 ∨ k = 9 ∨ k = 10 := by omega
  · simp only [hd] at h h'
    simp only [mid, List.append_assoc] at h2
    obtain ⟨e1, e2⟩ := text_inj (by rw [size_len]; exact h.2.2.2) (by rw [size_len]; exact h'.2.2.2) h2
    exact ⟨by omega, by omega, toList_inj e1, by omega, e2⟩
  · simp only [hd] at h h'
    simp only [mid, List.append_assoc] at h2
    obtain ⟨e1, e2⟩ := q4_inj (by omega) (by omega) h2
    obtain ⟨e3, e4⟩ := q4_inj (by omega) (by omega) e2
    exact ⟨e1, e3, by rw [h.2.2.2, h'.2.2.2], by omega, e4⟩
  · simp only [hd] at h h'
    simp only [mid] at h2
    obtain ⟨e1, e2⟩ := q4_inj (by omega) (by omega) h2
    exact ⟨e1, by omega, by rw [h.2.2.2, h'.2.2.2], by omega, e2⟩
  · simp only [hd] at h h'
    simp only [mid, List.nil_append] at h2
    exact ⟨by omega, by omega, by rw [h.2.2.2, h'.2.2.2], by omega, h2⟩
  · simp only [hd] at h h'
    simp only [mid, List.append_assoc] at h2
    obtain ⟨e1, e2⟩ := text_inj (by rw [size_len]; omega) (by rw [size_len]; omega) h2
    obtain ⟨e3, e4⟩ := q4_inj (by omega) (by omega) e2
    exact ⟨by omega, by omega, toList_inj e1, e3, e4⟩
  · simp only [hd] at h h'
    simp only [mid, List.append_assoc] at h2
    obtain ⟨e1, e2⟩ := text_inj (by rw [size_len]; omega) (by rw [size_len]; omega) h2
    exact ⟨by omega, by omega, toList_inj e1, by omega, e2⟩
  · simp only [hd] at h h'
    simp only [mid, List.nil_append] at h2
    exact ⟨by omega, by omega, by rw [h.2.2.2, h'.2.2.2], by omega, h2⟩
  · simp only [hd] at h h'
    simp only [mid, List.cons_append, List.nil_append, List.cons.injEq] at h2
    have e1 := congrArg UInt8.toNat h2.1
    simp only [UInt8.toNat_ofNat'] at e1
    exact ⟨by omega, by omega, by rw [h.2.2.2, h'.2.2.2], by omega, h2.2⟩
  · simp only [hd] at h h'
    simp only [mid] at h2
    obtain ⟨e1, e2⟩ := q4_inj (by omega) (by omega) h2
    exact ⟨by omega, e1, by rw [h.2.2.2, h'.2.2.2], by omega, e2⟩
  · simp only [hd] at h h'
    simp only [mid] at h2
    obtain ⟨e1, e2⟩ := q4_inj (by omega) (by omega) h2
    exact ⟨by omega, by omega, by rw [h.2.2.2, h'.2.2.2], e1, e2⟩
mutual
theorem enc_inj : ∀ (t t' : Tm) (r r' : List UInt8), good t → good t' → enc t ++ r = enc t' ++ r' → t = t' ∧ r = r'
  | .mk k a b s l, .mk k' a' b' s' l', r, r', h, h', he => by
    simp only [good] at h h'
    simp only [enc, List.append_assoc] at he
    obtain ⟨rfl, rfl, rfl, rfl, hn, he2⟩ := head_inj h.1 h'.1 he
    obtain ⟨e1, e2⟩ := encs_inj l l' r r' h.2.2 h'.2.2 hn he2
    exact ⟨by rw [e1], e2⟩
theorem encs_inj : ∀ (l l' : List Tm) (r r' : List UInt8), goods l → goods l' → l.length = l'.length → encs l ++ r = encs l' ++ r' → l = l' ∧ r = r'
  | [], [], r, r', _, _, _, he => by
    simp only [encs, List.nil_append] at he
    exact ⟨rfl, he⟩
  | [], _ :: _, _, _, _, _, hl, _ => by simp at hl
  | _ :: _, [], _, _, _, _, hl, _ => by simp at hl
  | t :: l, t' :: l', r, r', h, h', hl, he => by
    simp only [goods] at h h'
    simp only [encs, List.append_assoc] at he
    obtain ⟨e1, e2⟩ := enc_inj t t' _ _ h.1 h'.1 he
    obtain ⟨e3, e4⟩ := encs_inj l l' r r' h.2 h'.2 (by simpa using hl) e2
    exact ⟨by rw [e1, e3], e4⟩
end
end Go.Proofs.YtjaipdenahlheaaDoor

/-
  Terms: which ones are made, as plain data. Conditions: none.
-/
namespace Go.Proofs.YtjaipdenahlheaaDoor

/-- A term, if it is not too long. -/
def lim (t : Tm) : Option Tm := if (enc t).length ≤ 131072 then some t else none
def eB : ByteArray := ⟨#[]⟩
def okN (n : Int) : Bool := decide (0 ≤ n) && decide (n ≤ 2147483647)
def tData (s : ByteArray) : Option Tm := lim (.mk 1 0 0 s [])
def tNonce (who n : Int) : Option Tm := if okN who && okN n then some (.mk 2 who.toNat n.toNat eB []) else none
def tKey (who : Int) : Option Tm := if okN who then some (.mk 3 who.toNat 0 eB []) else none
def tPub : Option Tm → Option Tm
  | some t => if t.k = 3 then some (.mk 4 0 0 eB [t]) else none
  | none => none
def tBase (g : ByteArray) : Option Tm := if 1 ≤ g.size ∧ g.size ≤ 2100 then some (.mk 5 0 0 g []) else none
/-- Is x raised before y? -/
def tlt (x y : Tm) : Bool := decide (x.a < y.a ∨ x.a = y.a ∧ x.b < y.b)
def ins (x : Tm) : List Tm → List Tm
  | [] => [x]
  | y :: l => if tlt x y then x :: y :: l else y :: ins x l
def tExp : Option Tm → Option Tm → Option Tm
  | some s, some x => if s.k = 5 ∧ x.k = 2 ∧ s.l.length < 8 then some (.mk 5 0 0 s.s (ins x s.l)) else none
  | _, _ => none
def tSign (alg : ByteArray) : Option Tm → Option Tm → Option Tm
  | some key, some t => if (1 ≤ alg.size ∧ alg.size ≤ 64) ∧ key.k = 3 then lim (.mk 6 0 0 alg [key, t]) else none
  | _, _ => none
def tHash : Option Tm → Option Tm
  | some t => lim (.mk 7 0 0 eB [t])
  | none => none
def tDerive (c : Nat) : Option Tm → Option Tm → Option Tm → Option Tm
  | some x, some y, some z => lim (.mk 8 0 c eB [x, y, z])
  | _, _, _ => none
def tSeal (n : Nat) : Option Tm → Option Tm → Option Tm
  | some key, some t => lim (.mk 9 0 n eB [key, t])
  | _, _ => none
/-- All of them, if all are there. -/
def alls : List (Option Tm) → Option (List Tm)
  | [] => some []
  | some t :: l => match alls l with
    | some r => some (t :: r)
    | none => none
  | none :: _ => none
def tList (l : List (Option Tm)) : Option Tm :=
  if l.length ≤ 32 then match alls l with
    | some r => lim (.mk 10 0 0 eB r)
    | none => none
  else none

/-- A term that may be, and is not too long. -/
def fine (t : Tm) : Prop := good t ∧ (enc t).length ≤ 131072
end Go.Proofs.YtjaipdenahlheaaDoor

/-
  Bytes that are, or are not, a term's beginning: what a reader needs at each of its ways. Conditions: none.
-/
namespace Go.Proofs.YtjaipdenahlheaaDoor

/-- What a reader can read ahead of the terms of a kind, whether it may be or not. -/
def hw (k a b : Nat) (s : ByteArray) (n : Nat) : Prop :=
  match k with
  | 1 => a = 0 ∧ b = 0 ∧ n = 0 ∧ s.size < 4294967296
  | 2 => a < 4294967296 ∧ b < 4294967296 ∧ n = 0 ∧ s = ⟨#[]⟩
  | 3 => a < 4294967296 ∧ b = 0 ∧ n = 0 ∧ s = ⟨#[]⟩
  | 4 => a = 0 ∧ b = 0 ∧ n = 1 ∧ s = ⟨#[]⟩
  | 5 => a = 0 ∧ b = 0 ∧ n < 4294967296 ∧ s.size < 4294967296
  | 6 => a = 0 ∧ b = 0 ∧ n = 2 ∧ s.size < 4294967296
  | 7 => a = 0 ∧ b = 0 ∧ n = 1 ∧ s = ⟨#[]⟩
  | 8 => a = 0 ∧ b < 256 ∧ n = 3 ∧ s = ⟨#[]⟩
  | 9 => a = 0 ∧ b < 4294967296 ∧ n = 2 ∧ s = ⟨#[]⟩
  | 10 => a = 0 ∧ b = 0 ∧ n < 4294967296 ∧ s = ⟨#[]⟩
  | _ => False
theorem hw_of {k a b n : Nat} {s : ByteArray} (h : hd k a b s n) : hw k a b s n := by
  have hk := hd_k h
  obtain rfl | rfl | rfl | rfl | rfl | rfl | rfl | rfl | rfl | rfl : k = 1 ∨ k = 2 ∨ k = 3 ∨ k = 4 ∨ k = 5 ∨ k = 6 ∨ k = 7 ∨ k = 8 ∨ k = 9 ∨ k = 10 := by omega
  all_goals (simp only [hd] at h; unfold hw)
  · exact h
  · exact ⟨by omega, by omega, h.2.2⟩
  · exact ⟨by omega, h.2⟩
  · exact h
  · exact ⟨h.1, h.2.1, by omega, by omega⟩
  · exact ⟨h.1, h.2.1, h.2.2.1, by omega⟩
  · exact h
  · exact h
  · exact h
  · exact ⟨h.1, h.2.1, by omega, h.2.2.2⟩
theorem mid_inj {k a b n a' b' n' : Nat} {s s' : ByteArray} {r r' : List UInt8} (h : hw k a b s n) (h' : hw k a' b' s' n')
    (h2 : mid k a b s.data.toList n ++ r = mid k a' b' s'.data.toList n' ++ r') : a = a' ∧ b = b' ∧ s = s' ∧ n = n' ∧ r = r' := by
  have hk : 1 ≤ k ∧ k ≤ 10 := by
    unfold hw at h
    split at h <;> first | omega | exact h.elim
  obtain rfl | rfl | rfl | rfl | rfl | rfl | rfl | rfl | rfl | rfl : k = 1 ∨ k = 2 ∨ k = 3 ∨ k = 4 ∨ k = 5 ∨ k = 6 ∨ k = 7 ∨ k = 8 ∨ k = 9 ∨ k = 10 := by omega
  all_goals simp only [hw] at h h'
  · simp only [mid, List.append_assoc] at h2
    obtain ⟨e1, e2⟩ := text_inj (by rw [size_len]; exact h.2.2.2) (by rw [size_len]; exact h'.2.2.2) h2
    exact ⟨by omega, by omega, toList_inj e1, by omega, e2⟩
  · simp only [mid, List.append_assoc] at h2
    obtain ⟨e1, e2⟩ := q4_inj (by omega) (by omega) h2
    obtain ⟨e3, e4⟩ := q4_inj (by omega) (by omega) e2
    exact ⟨e1, e3, by rw [h.2.2.2, h'.2.2.2], by omega, e4⟩
  · simp only [mid] at h2
    obtain ⟨e1, e2⟩ := q4_inj (by omega) (by omega) h2
    exact ⟨e1, by omega, by rw [h.2.2.2, h'.2.2.2], by omega, e2⟩
  · simp only [mid, List.nil_append] at h2
    exact ⟨by omega, by omega, by rw [h.2.2.2, h'.2.2.2], by omega, h2⟩
  · simp only [mid, List.append_assoc] at h2
    obtain ⟨e1, e2⟩ := text_inj (by rw [size_len]; omega) (by rw [size_len]; omega) h2
    obtain ⟨e3, e4⟩ := q4_inj (by omega) (by omega) e2
    exact ⟨by omega, by omega, toList_inj e1, e3, e4⟩
  · simp only [mid, List.append_assoc] at h2
    obtain ⟨e1, e2⟩ := text_inj (by rw [size_len]; omega) (by rw [size_len]; omega) h2
    exact ⟨by omega, by omega, toList_inj e1, by omega, e2⟩
  · simp only [mid, List.nil_append] at h2
    exact ⟨by omega, by omega, by rw [h.2.2.2, h'.2.2.2], by omega, h2⟩
  · simp only [mid, List.cons_append, List.nil_append, List.cons.injEq] at h2
    have e1 := congrArg UInt8.toNat h2.1
    simp only [UInt8.toNat_ofNat'] at e1
    exact ⟨by omega, by omega, by rw [h.2.2.2, h'.2.2.2], by omega, h2.2⟩
  · simp only [mid] at h2
    obtain ⟨e1, e2⟩ := q4_inj (by omega) (by omega) h2
    exact ⟨by omega, e1, by rw [h.2.2.2, h'.2.2.2], by omega, e2⟩
  · simp only [mid] at h2
    obtain ⟨e1, e2⟩ := q4_inj (by omega) (by omega) h2
    exact ⟨by omega, by omega, by rw [h.2.2.2, h'.2.2.2], e1, e2⟩

/-- No term begins these bytes. -/
def NoT (s : List UInt8) : Prop := ∀ t r, good t → s ≠ enc t ++ r
/-- .. not so many terms. -/
def NoTs (n : Nat) (s : List UInt8) : Prop := ∀ l r, goods l → l.length = n → s ≠ encs l ++ r
theorem good_k {t : Tm} (h : good t) : 1 ≤ t.k ∧ t.k ≤ 10 := by
  cases t
  simp only [good] at h
  exact hd_k h.1
theorem enc_cons (t : Tm) (r : List UInt8) : enc t ++ r = UInt8.ofNat (240 + t.k) :: (mid t.k t.a t.b t.s.data.toList t.l.length ++ (encs t.l ++ r)) := by
  obtain ⟨k, a, b, s, l⟩ := t
  simp [enc, head, Tm.k, Tm.a, Tm.b, Tm.s, Tm.l]
section
variable {c : UInt8} {k a b n : Nat} {s : ByteArray} {s1 s2 r : List UInt8} {l : List Tm}
/-- A term of this kind begins with these bytes, if it is there at all. -/
theorem of_enc {t : Tm} (ht : good t) (hc : c.toNat = 240 + k) (e : c :: s1 = enc t ++ r) : t.k = k ∧ hd k t.a t.b t.s t.l.length ∧ kids k t.l ∧ goods t.l ∧ s1 = mid k t.a t.b t.s.data.toList t.l.length ++ (encs t.l ++ r) := by
  rw [enc_cons, List.cons.injEq] at e
  have hk := good_k ht
  have h1 := congrArg UInt8.toNat e.1
  simp only [UInt8.toNat_ofNat'] at h1
  obtain rfl : k = t.k := by omega
  obtain ⟨k, a, b, s, l⟩ := t
  simp only [good] at ht
  exact ⟨rfl, ht.1, ht.2.1, ht.2.2, e.2⟩
theorem raw_hd (hc : c.toNat = 240 + k) (hh : hw k a b s n) (e1 : s1 = mid k a b s.data.toList n ++ s2) (h : ¬ hd k a b s n) : NoT (c :: s1) := by
  intro t r ht e
  obtain ⟨_, h1, _, _, h4⟩ := of_enc ht hc e
  rw [e1] at h4
  obtain ⟨rfl, rfl, rfl, rfl, _⟩ := mid_inj hh (hw_of h1) h4
  exact h h1
theorem raw_no (hc : c.toNat = 240 + k) (hh : hw k a b s n) (e1 : s1 = mid k a b s.data.toList n ++ s2) (h : NoTs n s2) : NoT (c :: s1) := by
  intro t r ht e
  obtain ⟨_, h1, _, h3, h4⟩ := of_enc ht hc e
  rw [e1] at h4
  obtain ⟨_, _, _, e5, e6⟩ := mid_inj hh (hw_of h1) h4
  exact h _ _ h3 e5.symm e6
theorem raw_kids (hc : c.toNat = 240 + k) (hh : hw k a b s n) (e1 : s1 = mid k a b s.data.toList n ++ s2) (hl : goods l) (hn : l.length = n) (e2 : s2 = encs l ++ r) (h : ¬ kids k l) : NoT (c :: s1) := by
  intro t r' ht e
  obtain ⟨_, h1, h2, h3, h4⟩ := of_enc ht hc e
  rw [e1] at h4
  obtain ⟨_, _, _, e5, e6⟩ := mid_inj hh (hw_of h1) h4
  rw [e2] at e6
  obtain ⟨rfl, _⟩ := encs_inj _ _ _ _ hl h3 (by omega) e6
  exact h h2
end
end Go.Proofs.YtjaipdenahlheaaDoor

/-
  Nonces stand by their bytes as they stand by their numbers. Conditions: none.
-/
namespace Go.Proofs.YtjaipdenahlheaaDoor

end Go.Proofs.YtjaipdenahlheaaDoor

/-
  Numbers as a text, each with a blank behind it: which numbers they are can be told from the text. Conditions: none.
-/
namespace Go.Proofs.YtjaipdenahlheaaDoor

end Go.Proofs.YtjaipdenahlheaaDoor

/-
  An arena as plain data: a list of terms, each once, each behind those that it is made of. Conditions: none.
-/
namespace Go.Proofs.YtjaipdenahlheaaDoor

def arg (T : List Tm) (n : Int) : Option Tm := if 0 ≤ n then T[n.toNat]? else none
structure AOK (T : List Tm) : Prop where
  nodup : T.Nodup
  fine : ∀ t ∈ T, fine t
  sub : ∀ (i : Nat) (t : Tm), T[i]? = some t → ∀ c ∈ t.l, ∃ j : Nat, j < i ∧ T[j]? = some c
theorem get_pre {T T' : List Tm} (h : T <+: T') {i : Nat} {t : Tm} (hi : T[i]? = some t) : T'[i]? = some t := by
  obtain ⟨r, rfl⟩ := h
  rw [List.getElem?_append_left (List.getElem?_eq_some_iff.1 hi).1]
  exact hi
theorem arg_pre {T T' : List Tm} (h : T <+: T') {n : Int} {t : Tm} (hi : arg T n = some t) : arg T' n = some t := by
  unfold arg at hi ⊢
  split at hi
  · rename_i h0
    rw [if_pos h0]
    exact get_pre h hi
  · cases hi
theorem get_inj {T : List Tm} (hT : AOK T) {i j : Nat} {t : Tm} (hi : T[i]? = some t) (hj : T[j]? = some t) : i = j :=
  (List.getElem?_inj (List.getElem?_eq_some_iff.1 hi).1 hT.nodup).1 (hi.trans hj.symm)
/-- n is the number of o: of a term, its place; of none, -1. -/
def Idn (T : List Tm) (o : Option Tm) (n : Int) : Prop := arg T n = o ∧ (o = none → n = -1)
theorem idn_none (T : List Tm) : Idn T none (-1) := ⟨rfl, fun _ => rfl⟩
theorem Idn.pre {T T' : List Tm} {o : Option Tm} {n : Int} (h : Idn T o n) (hp : T <+: T') : Idn T' o n := by
  obtain ⟨h1, h2⟩ := h
  cases o with
  | none => rw [h2 rfl]; exact idn_none _
  | some t => exact ⟨arg_pre hp h1, fun e => by cases e⟩
theorem Idn.range {T : List Tm} {o : Option Tm} {n : Int} (h : Idn T o n) : -1 ≤ n ∧ n < T.length := by
  cases o with
  | none => rw [h.2 rfl]; omega
  | some t =>
    have := h.1
    unfold arg at this
    split at this
    · have := (List.getElem?_eq_some_iff.1 this).1
      omega
    · cases this
/-- What a making does: the term is found, or stands behind all others. -/
def Put (T : List Tm) (o : Option Tm) (T' : List Tm) (n : Int) : Prop :=
  (o = none ∧ T' = T ∧ n = -1) ∨ ∃ t, ∃ i : Nat, o = some t ∧ n = (i : Int) ∧ T'[i]? = some t ∧ (T' = T ∨ t ∉ T ∧ T' = T ++ [t])
theorem Put.pre {T T' : List Tm} {o : Option Tm} {n : Int} (h : Put T o T' n) : T <+: T' := by
  rcases h with ⟨_, rfl, _⟩ | ⟨t, i, _, _, _, rfl | ⟨_, rfl⟩⟩
  · exact List.prefix_refl _
  · exact List.prefix_refl _
  · exact List.prefix_append _ _
theorem Put.len {T T' : List Tm} {o : Option Tm} {n : Int} (h : Put T o T' n) : T'.length ≤ T.length + 1 := by
  rcases h with ⟨_, rfl, _⟩ | ⟨t, i, _, _, _, rfl | ⟨_, rfl⟩⟩ <;> simp
/-- The numbers of the terms that a term is made of. -/
def Args (T : List Tm) (l : List Tm) (js : List Nat) : Prop := js.map (fun j => T[j]?) = l.map some
theorem Args.len {T l : List Tm} {js : List Nat} (h : Args T l js) : js.length = l.length := by
  have := congrArg List.length h
  simpa using this
theorem Args.pre {T T' l : List Tm} {js : List Nat} (h : Args T l js) (hp : T <+: T') : Args T' l js := by
  unfold Args at h ⊢
  rw [← h]
  refine List.map_congr_left fun j hj => ?_
  have h1 : T[j]? ∈ l.map some := by
    rw [← h]
    exact List.mem_map.2 ⟨j, hj, rfl⟩
  obtain ⟨t, _, ht⟩ := List.mem_map.1 h1
  rw [← ht]
  exact get_pre hp ht.symm
theorem Args.inj {T l : List Tm} (hT : AOK T) {js ks : List Nat} (h : Args T l js) (h' : Args T l ks) : js = ks := by
  have h0 : js.map (fun j => T[j]?) = ks.map (fun j => T[j]?) := h.trans h'.symm
  have hs : ∀ j ∈ js, ∃ t, T[j]? = some t := by
    intro j hj
    have h1 : T[j]? ∈ l.map some := by
      rw [← h]
      exact List.mem_map.2 ⟨j, hj, rfl⟩
    obtain ⟨t, _, ht⟩ := List.mem_map.1 h1
    exact ⟨t, ht.symm⟩
  clear h h'
  induction js generalizing ks with
  | nil =>
    cases ks with
    | nil => rfl
    | cons k ks => simp at h0
  | cons j js ih =>
    cases ks with
    | nil => simp at h0
    | cons k ks =>
      simp only [List.map_cons, List.cons.injEq] at h0
      obtain ⟨t, ht⟩ := hs j (by simp)
      rw [get_inj hT ht (h0.1 ▸ ht), ih h0.2 fun j hj => hs j (by simp [hj])]
theorem Args.back {T l m : List Tm} {js : List Nat} (h : Args T l js) (h' : Args T m js) : l = m := by
  have h0 : l.map some = m.map some := h.symm.trans h'
  exact (List.map_inj_right fun _ _ e => by injection e).1 h0
theorem Args.at_ {T l : List Tm} {js : List Nat} (h : Args T l js) {p : Nat} (hp : p < js.length) : ∃ c, l[p]? = some c ∧ T[js[p]]? = some c := by
  have h1 := congrArg (fun x => x[p]?) h
  simp only [List.getElem?_map, List.getElem?_eq_getElem hp, Option.map_some] at h1
  cases e : l[p]? with
  | none => rw [e] at h1; simp at h1
  | some c => rw [e] at h1; exact ⟨c, rfl, by simpa using h1⟩
end Go.Proofs.YtjaipdenahlheaaDoor

/-
  Terms that are made one behind the other, as plain data. Conditions: none.
-/
namespace Go.Proofs.YtjaipdenahlheaaDoor

structure Mk where
  k : Int
  a : Int
  b : Int
  c : Int
  s : ByteArray
instance : Inhabited Mk := ⟨⟨0, 0, 0, 0, eB⟩⟩
def pickO (ms : List (Option Tm)) (i : Int) : Option Tm := if 0 ≤ i then (ms[i.toNat]?).getD none else none
def runO (ms : List (Option Tm)) (p n : Int) : List (Option Tm) := if 0 ≤ p then ((ms.drop p.toNat).take n.toNat).take 40 else []
def letterO (s : ByteArray) : Nat := match s.data.toList with
  | [] => 0
  | c :: _ => c.toNat
def mkO (ms : List (Option Tm)) (x : Mk) : Option Tm :=
  if x.k = 1 then tData x.s else
  if x.k = 2 then tNonce x.a x.b else
  if x.k = 3 then tKey x.a else
  if x.k = 4 then tPub (pickO ms x.a) else
  if x.k = 5 then (if x.a < 0 then tBase x.s else tExp (pickO ms x.a) (pickO ms x.b)) else
  if x.k = 6 then tSign x.s (pickO ms x.a) (pickO ms x.b) else
  if x.k = 7 then tHash (pickO ms x.a) else
  if x.k = 8 then tDerive (letterO x.s) (pickO ms x.a) (pickO ms x.b) (pickO ms x.c) else
  if x.k = 9 then tSeal (x.c % 4294967296).toNat (pickO ms x.a) (pickO ms x.b) else
  if x.k = 10 then tList (runO ms x.a x.b) else none
def makes (l : List Mk) : List (Option Tm) := l.foldl (fun ms x => ms ++ [mkO ms x]) []
end Go.Proofs.YtjaipdenahlheaaDoor

/-
  Which term a node of numbers is, as plain data. Conditions: none.
-/
namespace Go.Proofs.YtjaipdenahlheaaDoor

end Go.Proofs.YtjaipdenahlheaaDoor

/-
  Reading bytes as terms: what each way of a reader needs. Conditions: none.
-/
namespace Go.Proofs.YtjaipdenahlheaaDoor

/-- The head of a term of a kind has been read: its numbers, its text, how many terms follow; then these bytes. -/
def Hed (k a b : Nat) (s : ByteArray) (n : Nat) (s1 s2 : List UInt8) : Prop := hw k a b s n ∧ s1 = mid k a b s.data.toList n ++ s2
section
variable {c : UInt8} {k a b n : Nat} {s : ByteArray} {s1 s2 r : List UInt8} {l : List Tm}
/-- Behind a head there are not as many terms. -/
theorem Hed.no (h : Hed k a b s n s1 s2) (hc : c.toNat = 240 + k) (h2 : NoTs n s2) : NoT (c :: s1) := raw_no hc h.1 h.2 h2
/-- .. there are, but no term is made of these. -/
theorem Hed.not (h : Hed k a b s n s1 s2) (hc : c.toNat = 240 + k) (hl : goods l) (hn : l.length = n) (e2 : s2 = encs l ++ r) (h2 : ¬ (hd k a b s n ∧ kids k l)) : NoT (c :: s1) := by
  by_cases h3 : hd k a b s n
  · exact raw_kids hc h.1 h.2 hl hn e2 (fun h4 => h2 ⟨h3, h4⟩)
  · exact raw_hd hc h.1 h.2 h3
end
end Go.Proofs.YtjaipdenahlheaaDoor

/-
  Where a nonce stands among exponents in order, by places. Conditions: none.
-/
namespace Go.Proofs.YtjaipdenahlheaaDoor

end Go.Proofs.YtjaipdenahlheaaDoor

/-
  Reading bytes as a term, kind by kind, as plain data: what is made of a head and of the terms behind it. Conditions: at most MaxTerm bytes.
-/
namespace Go.Proofs.YtjaipdenahlheaaDoor

instance (x y : Tm) : Decidable (tle x y) := inferInstanceAs (Decidable (_ ∨ _))
end Go.Proofs.YtjaipdenahlheaaDoor

/-
  What an exchange's hash is made of, as plain data: unlike parts have unlike hashes. Conditions: none.
-/
namespace Go.Proofs.YtjaipdenahlheaaDoor

structure PartsP where
  v0 : ByteArray
  v1 : ByteArray
  v2 : ByteArray
  v3 : ByteArray
  key : Option Tm
  e : Option Tm
  f : Option Tm
  k : Option Tm
  asks : Bool
  w0 : Nat
  w1 : Nat
  w2 : Nat
  gp : ByteArray
  gg : ByteArray
end Go.Proofs.YtjaipdenahlheaaDoor
