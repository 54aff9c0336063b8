/-
  What an exchange's hash is made of, as plain data: unlike parts have unlike hashes. Conditions: none.
-/
import Derived.Test.YtkpikfdfekggbaaGreatDoorPureA
namespace Go.Proofs.YtkpikfdfekggbaaGreatDoor

def bsT (l : List UInt8) : ByteArray := ⟨l.toArray⟩
theorem bsT_inj {l m : List UInt8} (h : bsT l = bsT m) : l = m := by
  have := congrArg (fun b : ByteArray => b.data.toList) h
  simpa [bsT] using this
/-- A whole number without zeros ahead. -/
def plainL (l : List UInt8) : List UInt8 := l.dropWhile (· == 0)
/-- .. with a zero ahead if its highest bit is set. -/
def signL (l : List UInt8) : List UInt8 := match l with
  | [] => []
  | c :: r => if 128 ≤ c.toNat then 0 :: c :: r else c :: r
def wholeL (l : List UInt8) : List UInt8 := q4 (signL (plainL l)).length ++ signL (plainL l)
def aheadL (l : List UInt8) : Bool := match l with
  | [] => false
  | c :: _ => c == 0
theorem plainL_id {l : List UInt8} (h : aheadL l = false) : plainL l = l := by
  cases l with
  | nil => rfl
  | cons c r =>
    unfold plainL
    rw [List.dropWhile_cons_of_neg]
    simpa [aheadL] using h
theorem plainL_len (l : List UInt8) : (plainL l).length ≤ l.length := by
  have h := congrArg List.length (List.takeWhile_append_dropWhile (p := fun c : UInt8 => c == 0) (l := l))
  rw [List.length_append] at h
  unfold plainL
  omega
theorem signL_len (l : List UInt8) : (signL l).length ≤ l.length + 1 := by
  unfold signL
  split
  · simp
  · split <;> simp
theorem signL_inj {l m : List UInt8} (hl : aheadL l = false) (hm : aheadL m = false) (h : signL l = signL m) : l = m := by
  cases l with
  | nil =>
    cases m with
    | nil => rfl
    | cons d s =>
      unfold signL at h
      simp only at h
      split at h <;> cases h
  | cons c r =>
    cases m with
    | nil =>
      unfold signL at h
      simp only at h
      split at h <;> cases h
    | cons d s =>
      unfold signL at h
      simp only at h
      split at h
      · split at h
        · injection h
        · injection h with h1 h2
          rw [← h1] at hm
          cases hm
      · split at h
        · injection h with h1 h2
          rw [h1] at hl
          cases hl
        · exact h
theorem wholeL_inj {l m : List UInt8} (hl : aheadL l = false) (hm : aheadL m = false) (h1 : l.length < 4294967290) (h2 : m.length < 4294967290) (h : wholeL l = wholeL m) : l = m := by
  unfold wholeL at h
  rw [plainL_id hl, plainL_id hm] at h
  have h3 := signL_len l
  have h4 := signL_len m
  exact signL_inj hl hm (q4_inj (by omega) (by omega) h).2
structure PartsP where
  v0 : ByteArray
  v1 : ByteArray
  v2 : ByteArray
  v3 : ByteArray
  key : Option Tm
  e : Option Tm
  f : Option Tm
  k : Option Tm
  asks : Bool
  w0 : Nat
  w1 : Nat
  w2 : Nat
  gp : ByteArray
  gg : ByteArray
def wholeB (s : ByteArray) : ByteArray := bsT (wholeL s.data.toList)
def askO (p : PartsP) : List (Option Tm) := if p.asks = true then [tData (bsT (q4 p.w0)), tData (bsT (q4 p.w1)), tData (bsT (q4 p.w2)), tData (wholeB p.gp), tData (wholeB p.gg)] else []
def partsO (p : PartsP) : List (Option Tm) := [tData p.v0, tData p.v1, tData p.v2, tData p.v3, p.key] ++ askO p ++ [p.e, p.f, p.k]
def transO (p : PartsP) : Option Tm := tList (partsO p)
def hashO (p : PartsP) : Option Tm := tHash (transO p)
/-- Parts that count are the same. -/
def sameP (p q : PartsP) : Prop := (p.v0 = q.v0 ∧ p.v1 = q.v1 ∧ p.v2 = q.v2 ∧ p.v3 = q.v3) ∧ p.key = q.key ∧ p.e = q.e ∧ p.f = q.f ∧ p.k = q.k ∧ p.asks = q.asks ∧ (p.asks = true → (p.w0 = q.w0 ∧ p.w1 = q.w1 ∧ p.w2 = q.w2) ∧ p.gp = q.gp ∧ p.gg = q.gg)
theorem lim_some {t u : Tm} (h : lim t = some u) : u = t := by
  unfold lim at h
  split at h
  · cases h; rfl
  · cases h
theorem tData_eq {s s' : ByteArray} {t : Tm} (h : tData s = some t) (e : tData s = tData s') : s = s' := by
  have h1 := lim_some h
  rw [e] at h
  have h2 := lim_some h
  rw [h1] at h2
  injection h2
theorem tList_some {l : List (Option Tm)} {t : Tm} (h : tList l = some t) : ∃ r, l = r.map some ∧ t = .mk 10 0 0 eB r := by
  unfold tList at h
  split at h
  · split at h
    · rename_i r hr
      exact ⟨r, alls_mem hr, lim_some h⟩
    · cases h
  · cases h
theorem tHash_some {o : Option Tm} {t : Tm} (h : tHash o = some t) : ∃ u, o = some u ∧ t = .mk 7 0 0 eB [u] := by
  cases o with
  | none => cases h
  | some u => exact ⟨u, rfl, lim_some h⟩
theorem hash_parts {p q : PartsP} {t : Tm} (h : hashO p = some t) (h' : hashO q = some t) : partsO p = partsO q := by
  obtain ⟨u, h1, e1⟩ := tHash_some h
  obtain ⟨v, h2, e2⟩ := tHash_some h'
  obtain ⟨r, h3, e3⟩ := tList_some h1
  obtain ⟨r', h4, e4⟩ := tList_some h2
  rw [e1] at e2
  injection e2 with _ _ _ _ e5
  injection e5 with e5
  rw [e3, e4] at e5
  injection e5 with _ _ _ _ e6
  rw [h3, h4, e6]
theorem parts_mem {p : PartsP} {t : Tm} (h : hashO p = some t) {o : Option Tm} (ho : o ∈ partsO p) : ∃ u, o = some u := by
  obtain ⟨u, h1, _⟩ := tHash_some h
  obtain ⟨r, h3, _⟩ := tList_some h1
  rw [h3] at ho
  obtain ⟨x, _, hx⟩ := List.mem_map.1 ho
  exact ⟨x, hx.symm⟩
theorem hash_apart {p q : PartsP} {t u : Tm} (h : hashO p = some t) (h' : hashO q = some u) (hp : p.asks = true → aheadL p.gp.data.toList = false ∧ aheadL p.gg.data.toList = false) (hq : q.asks = true → aheadL q.gp.data.toList = false ∧ aheadL q.gg.data.toList = false)
    (w1 : p.w0 < 4294967296 ∧ p.w1 < 4294967296 ∧ p.w2 < 4294967296) (w2 : q.w0 < 4294967296 ∧ q.w1 < 4294967296 ∧ q.w2 < 4294967296) (z1 : p.gp.size ≤ 1000000 ∧ p.gg.size ≤ 1000000) (z2 : q.gp.size ≤ 1000000 ∧ q.gg.size ≤ 1000000) : t = u ↔ sameP p q := by
  constructor
  · rintro rfl
    have e := hash_parts h h'
    have key : ∀ {s s' : ByteArray}, tData s ∈ partsO p → tData s = tData s' → s = s' := fun {s s'} hm e => by
      obtain ⟨x, hx⟩ := parts_mem h hm
      exact tData_eq hx e
    have hm : ∀ o ∈ askO p, o ∈ partsO p := fun o ho => by
      unfold partsO
      simp [ho]
    have m0 : tData p.v0 ∈ partsO p := by simp [partsO]
    have m1 : tData p.v1 ∈ partsO p := by simp [partsO]
    have m2 : tData p.v2 ∈ partsO p := by simp [partsO]
    have m3 : tData p.v3 ∈ partsO p := by simp [partsO]
    have ea : p.asks = q.asks := by
      have hl := congrArg List.length e
      unfold partsO askO at hl
      cases e1 : p.asks <;> cases e2 : q.asks <;> simp [e1, e2] at hl ⊢
    cases e1 : p.asks with
    | false =>
      have e2 : q.asks = false := ea ▸ e1
      simp only [partsO, askO, e1, e2, Bool.false_eq_true, if_false, List.append_nil, List.cons_append, List.nil_append, List.cons.injEq, and_true] at e
      obtain ⟨a0, a1, a2, a3, a4, a5, a6, a7⟩ := e
      exact ⟨⟨key m0 a0, key m1 a1, key m2 a2, key m3 a3⟩, a4, a5, a6, a7, ea, fun hc => by rw [e1] at hc; cases hc⟩
    | true =>
      have e2 : q.asks = true := ea ▸ e1
      have n0 : tData (bsT (q4 p.w0)) ∈ partsO p := hm _ (by simp [askO, e1])
      have n1 : tData (bsT (q4 p.w1)) ∈ partsO p := hm _ (by simp [askO, e1])
      have n2 : tData (bsT (q4 p.w2)) ∈ partsO p := hm _ (by simp [askO, e1])
      have n3 : tData (wholeB p.gp) ∈ partsO p := hm _ (by simp [askO, e1])
      have n4 : tData (wholeB p.gg) ∈ partsO p := hm _ (by simp [askO, e1])
      simp only [partsO, askO, e1, e2, if_true, List.cons_append, List.nil_append, List.cons.injEq, and_true] at e
      obtain ⟨a0, a1, a2, a3, a4, b0, b1, b2, b3, b4, a5, a6, a7⟩ := e
      have hq4 : ∀ {n m : Nat}, n < 4294967296 → m < 4294967296 → q4 n = q4 m → n = m := fun {n m} hn hm h => (q4_inj (r := []) (r' := []) hn hm (by rw [h])).1
      have hwh : ∀ {s s' : ByteArray}, aheadL s.data.toList = false → aheadL s'.data.toList = false → s.size ≤ 1000000 → s'.size ≤ 1000000 → wholeB s = wholeB s' → s = s' := fun {s s'} h1 h2 h3 h4 h => by
        have := size_len s
        have := size_len s'
        exact toList_inj (wholeL_inj h1 h2 (by omega) (by omega) (bsT_inj h))
      exact ⟨⟨key m0 a0, key m1 a1, key m2 a2, key m3 a3⟩, a4, a5, a6, a7, ea, fun _ => ⟨⟨hq4 w1.1 w2.1 (bsT_inj (key n0 b0)), hq4 w1.2.1 w2.2.1 (bsT_inj (key n1 b1)), hq4 w1.2.2 w2.2.2 (bsT_inj (key n2 b2))⟩,
        hwh (hp e1).1 (hq e2).1 z1.1 z2.1 (key n3 b3), hwh (hp e1).2 (hq e2).2 z1.2 z2.2 (key n4 b4)⟩⟩
  · rintro ⟨⟨a0, a1, a2, a3⟩, a4, a5, a6, a7, ea, ha⟩
    have e : partsO p = partsO q := by
      have e2 : askO p = askO q := by
        unfold askO
        rw [← ea]
        by_cases e1 : p.asks = true
        · obtain ⟨⟨b0, b1, b2⟩, b3, b4⟩ := ha e1
          rw [if_pos e1, if_pos e1, b0, b1, b2, b3, b4]
        · rw [if_neg e1, if_neg e1]
      unfold partsO
      rw [e2, a0, a1, a2, a3, a4, a5, a6, a7]
    have e3 : hashO p = hashO q := by
      unfold hashO transO
      rw [e]
    rw [h, h'] at e3
    injection e3
theorem askO_fine (p : PartsP) (z : p.gp.size ≤ 1000000 ∧ p.gg.size ≤ 1000000) : ∀ o ∈ askO p, fineO o := by
  intro o ho
  have hw : ∀ s : ByteArray, s.size ≤ 1000000 → (wholeB s).size < 4294967296 := by
    intro s hs
    have h1 : (wholeB s).size = (wholeL s.data.toList).length := rfl
    have h2 := signL_len (plainL s.data.toList)
    have h3 := plainL_len s.data.toList
    have h4 := size_len s
    rw [h1]
    unfold wholeL
    rw [List.length_append, q4_len]
    omega
  have hq : ∀ n, (bsT (q4 n)).size < 4294967296 := fun n => by
    have : (bsT (q4 n)).size = 4 := rfl
    omega
  unfold askO at ho
  split at ho
  · simp only [List.mem_cons, List.not_mem_nil, or_false] at ho
    rcases ho with rfl | rfl | rfl | rfl | rfl
    · exact tData_fine (hq _)
    · exact tData_fine (hq _)
    · exact tData_fine (hq _)
    · exact tData_fine (hw _ z.1)
    · exact tData_fine (hw _ z.2)
  · cases ho
end Go.Proofs.YtkpikfdfekggbaaGreatDoor
