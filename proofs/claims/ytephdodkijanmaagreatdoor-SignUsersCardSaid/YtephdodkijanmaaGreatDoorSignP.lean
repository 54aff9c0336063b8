/-
  What a user signs, as plain data: unlike requests have unlike signatures, and no host's signature of a hash is a user's. Conditions: none.
-/
import Derived.Test.YtephdodkijanmaaGreatDoorPureA
set_option linter.unusedVariables false
set_option linter.unusedSimpArgs false
namespace Go.Proofs.YtephdodkijanmaaGreatDoor
def numB : ByteArray := ⟨#[50]⟩
def mthB : ByteArray := ⟨#[112, 117, 98, 108, 105, 99, 107, 101, 121]⟩
def sgnB : ByteArray := ⟨#[1]⟩
def reqL (s : Option Tm) (user service alg : ByteArray) (key : Option Tm) : List (Option Tm) := [s, tData numB, tData user, tData service, tData mthB, tData sgnB, tData alg, key]
def reqO (s : Option Tm) (user service alg : ByteArray) (key : Option Tm) : Option Tm := tList (reqL s user service alg key)
def userO (s : Option Tm) (user service alg : ByteArray) (who : Int) : Option Tm := tSign alg (tKey who) (reqO s user service alg (tPub (tKey who)))
theorem tSign_some {alg : ByteArray} {o p : Option Tm} {t : Tm} (h : tSign alg o p = some t) : ∃ k q, o = some k ∧ p = some q ∧ t = .mk 6 0 0 alg [k, q] := by
  cases o with
  | none => cases h
  | some k =>
    cases p with
    | none => cases h
    | some q =>
      have h' : (if (1 ≤ alg.size ∧ alg.size ≤ 64) ∧ k.k = 3 then lim (.mk 6 0 0 alg [k, q]) else none) = some t := h
      split at h'
      · exact ⟨k, q, rfl, rfl, lim_some h'⟩
      · cases h'
theorem tKey_some {who : Int} {t : Tm} (h : tKey who = some t) : 0 ≤ who ∧ t = .mk 3 who.toNat 0 eB [] := by
  unfold tKey at h
  split at h
  · rename_i h1
    have := okN_iff.1 h1
    injection h with h
    exact ⟨this.1, h.symm⟩
  · cases h
theorem user_some {s : Option Tm} {user service alg : ByteArray} {who : Int} {t : Tm} (h : userO s user service alg who = some t) :
    0 ≤ who ∧ ∃ r, reqL s user service alg (tPub (tKey who)) = r.map some ∧ t = .mk 6 0 0 alg [.mk 3 who.toNat 0 eB [], .mk 10 0 0 eB r] := by
  obtain ⟨k, q, h1, h2, h3⟩ := tSign_some h
  obtain ⟨h0, rfl⟩ := tKey_some h1
  obtain ⟨r, h4, rfl⟩ := tList_some h2
  exact ⟨h0, r, h4, h3⟩
theorem user_apart {s s' : Option Tm} {user service alg user' service' alg' : ByteArray} {who who' : Int} {t u : Tm} (h : userO s user service alg who = some t) (h' : userO s' user' service' alg' who' = some u) :
    t = u ↔ s = s' ∧ user = user' ∧ service = service' ∧ alg = alg' ∧ who = who' := by
  constructor
  · rintro rfl
    obtain ⟨h0, r, h1, h2⟩ := user_some h
    obtain ⟨h0', r', h1', h2'⟩ := user_some h'
    rw [h2] at h2'
    simp only [Tm.mk.injEq, List.cons.injEq, and_true, true_and] at h2'
    obtain ⟨ea, ew, er⟩ := h2'
    subst ea er
    have hl : reqL s user service alg (tPub (tKey who)) = reqL s' user' service' alg (tPub (tKey who')) := h1.trans h1'.symm
    have hm : ∀ o ∈ reqL s user service alg (tPub (tKey who)), ∃ u, o = some u := fun o ho => by
      rw [h1] at ho
      obtain ⟨x, _, hx⟩ := List.mem_map.1 ho
      exact ⟨x, hx.symm⟩
    have key : ∀ {a b : ByteArray}, tData a ∈ reqL s user service alg (tPub (tKey who)) → tData a = tData b → a = b := fun {a b} ha e => by
      obtain ⟨x, hx⟩ := hm _ ha
      exact tData_eq hx e
    have m1 : tData user ∈ reqL s user service alg (tPub (tKey who)) := by simp [reqL]
    have m2 : tData service ∈ reqL s user service alg (tPub (tKey who)) := by simp [reqL]
    simp only [reqL, List.cons.injEq, and_true, true_and] at hl
    obtain ⟨e1, e2, e3, _⟩ := hl
    exact ⟨e1, key m1 e2, key m2 e3, rfl, by omega⟩
  · rintro ⟨rfl, rfl, rfl, rfl, rfl⟩
    rw [h] at h'
    injection h'
theorem host_user {s : Option Tm} {user service alg alg2 : ByteArray} {who who2 : Int} {o : Option Tm} {t u : Tm} (h : userO s user service alg who = some t) (h' : tSign alg2 (tKey who2) (tHash o) = some u) : u ≠ t := by
  rintro rfl
  obtain ⟨_, r, _, h2⟩ := user_some h
  obtain ⟨k, q, _, h4, h5⟩ := tSign_some h'
  obtain ⟨x, _, rfl⟩ := tHash_some h4
  rw [h2] at h5
  simp at h5
end Go.Proofs.YtephdodkijanmaaGreatDoor
