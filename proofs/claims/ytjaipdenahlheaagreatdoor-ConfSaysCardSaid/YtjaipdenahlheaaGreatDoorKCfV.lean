/-
  The plain law of ConfSays: what lists that may be say can be built; a version has nine bytes at least. Conditions: none.
-/
import Derived.Test.YtjaipdenahlheaaGreatDoorKCfF
import Derived.Test.YtjaipdenahlheaaGreatDoorKKxRG
set_option linter.unusedVariables false
set_option linter.unusedSimpArgs false
namespace Go.Proofs.YtjaipdenahlheaaGreatDoor
open Go.RowKit Go.ChangeShapes Go.WideShapes Go.Sort
theorem prF_none {k : Nat} {ls : List (List (List UInt8))} (h : prF k ls = none) : ∀ l ∈ ls, algW l = 0 := by
  induction ls generalizing k with
  | nil => simp
  | cons x r ih =>
    unfold prF at h
    split at h
    · cases h
    · rename_i hz
      intro l hl
      rcases List.mem_cons.1 hl with rfl | hl
      · rcases Classical.em (algW l = 0) with e | e
        · exact e
        · exfalso; unfold listW at hz; rw [if_pos e] at hz; exact hz e
      · exact ih h l hl
theorem prW_kex {l : List (List UInt8)} {r : List (List (List UInt8))} (h : prW (l :: r) = none) : algW l = 0 ∧ kexW l = true := by
  refine ⟨prF_none h l (List.mem_cons_self ..), ?_⟩
  have ha := prF_none h l (List.mem_cons_self ..)
  unfold prW prF at h
  split at h
  · cases h
  · rename_i hz
    cases hk : kexW l with
    | true => rfl
    | false => exact absurd (show listW l (0 == 0) ≠ 0 from by rw [show ((0 : Nat) == 0) = true from rfl, listW_a ha hk]; decide) hz
theorem algW_get {l : List (List UInt8)} (h : algW l = 0) : l.length < 16 ∧ onceL l = true ∧ ∀ x ∈ l, rightL x = true := by
  unfold algW at h
  split at h
  · cases h
  · split at h
    · cases h
    · split at h
      · rename_i h1 h2 h3
        rw [Bool.and_eq_true, List.all_eq_true] at h3
        exact ⟨by omega, h3.1, h3.2⟩
      · cases h
theorem kexW_three {l : List (List UInt8)} (h1 : onceL l = true) (h2 : kexW l = true) : l.length ≤ 3 := by
  unfold kexW at h2
  rw [List.all_eq_true] at h2
  have hm : ∀ x ∈ l, x = meth1 ∨ x = meth2 ∨ x = meth3 := fun x hx => by
    have := h2 x hx
    rcases meth_cases x with h | h | h | h
    · exact .inl h.1
    · exact .inr (.inl h.2.1)
    · exact .inr (.inr h.2.2.1)
    · rw [h.2.2.2] at this; simp at this
  unfold onceL at h1
  rw [List.all_eq_true] at h1
  match l, h1, hm with
  | [], _, _ => simp
  | [_], _, _ => simp
  | [_, _], _, _ => simp
  | [_, _, _], _, _ => simp
  | a :: b :: c :: d :: r, h1, hm =>
    exfalso
    have k1 := h1 1 (by simp)
    have k2 := h1 2 (by simp)
    have k3 := h1 3 (by simp)
    simp at k1 k2 k3
    have ma := hm a (by simp)
    have mb := hm b (by simp)
    have mc := hm c (by simp)
    have md := hm d (by simp)
    clear hm h1
    obtain ⟨k21, k22⟩ := k2
    obtain ⟨k31, k32, k33⟩ := k3
    rcases ma with rfl | rfl | rfl <;> rcases mb with rfl | rfl | rfl <;> rcases mc with rfl | rfl | rfl <;> rcases md with rfl | rfl | rfl <;> first | exact k1 rfl | exact k21 rfl | exact k22 rfl | exact k31 rfl | exact k32 rfl | exact k33 rfl
theorem mark_meth : ∀ x ∈ marksL, methodN x = 0 := by
  intro x hx
  simp only [marksL, List.mem_cons, List.mem_nil_iff, or_false] at hx
  rcases hx with rfl | rfl | rfl | rfl <;> decide +kernel
theorem kexW_marked {l : List (List UInt8)} (h : kexW l = true) : markedL l = false := by
  unfold markedL
  rw [List.any_eq_false]
  intro x hx hd
  have hd := of_decide_eq_true hd
  unfold kexW at h
  rw [List.all_eq_true] at h
  have := h x hd
  rw [mark_meth x hx] at this
  simp at this
theorem joinC_le {k : Nat} : ∀ (l : List (List UInt8)), (∀ x ∈ l, x.length ≤ k) → (joinC l).length ≤ l.length * (k + 1)
  | [], _ => by simp [joinC]
  | [x], h => by have := h x (by simp); simp [joinC]; omega
  | x :: y :: r, h => by
    have h1 := h x (by simp)
    have h2 := joinC_le (y :: r) (fun z hz => h z (List.mem_cons_of_mem _ hz))
    simp only [joinC, List.length_append, List.length_cons] at h2 ⊢
    rw [Nat.add_mul]
    omega
theorem rightL_len {x : List UInt8} (h : rightL x = true) : x.length ≤ 64 := by
  unfold rightL at h
  simp only [Bool.and_eq_true, decide_eq_true_eq] at h
  exact h.2
theorem mark_right : ∀ x ∈ marksL, rightL x = true := by
  intro x hx
  simp only [marksL, List.mem_cons, List.mem_nil_iff, or_false] at hx
  rcases hx with rfl | rfl | rfl | rfl <;> decide +kernel
theorem list_okF {l : List (List UInt8)} (h1 : l.length ≤ 16) (h2 : ∀ x ∈ l, rightL x = true) : okF ⟨110, 0, [], l⟩ ∧ (putF ⟨110, 0, [], l⟩).2.length ≤ 1044 := by
  have hw : wrongN l = 0 := by
    unfold wrongN
    rw [if_neg (by omega), if_pos (List.all_eq_true.2 h2)]
  have hp : putF ⟨110, 0, [], l⟩ = (0, textL (joinC l)) := by
    unfold putF
    simp only
    rw [if_neg (by decide), if_neg (by decide), if_neg (by decide), if_pos trivial, if_pos hw]
  refine ⟨⟨rfl, by rw [hp]⟩, ?_⟩
  rw [hp]
  have := joinC_le l (fun x hx => rightL_len (h2 x hx))
  have h3 : l.length * (64 + 1) ≤ 16 * 65 := Nat.mul_le_mul_right _ h1
  simp only [textL, List.length_append, q4_len]
  omega
theorem marksOf_mem {a b c d : Bool} : (∀ x ∈ marksOf a b c d, x ∈ marksL) ∧ (marksOf a b c d).length ≤ 4 := by
  cases a <;> cases b <;> cases c <;> cases d <;> exact ⟨by decide +kernel, by decide +kernel⟩
theorem says_ok {ck : List UInt8} {l0 l1 l2 l3 l4 l5 l6 l7 : List (List UInt8)} (a b c d e0 : Bool) (h : prW [l0, l1, l2, l3, l4, l5, l6, l7] = none) (hck : ck.length = 16) :
    markedL l0 = false ∧ ∃ s, encS 20 (kexMsg ⟨ck, l0, [l1, l2, l3, l4, l5, l6, l7, [], []], a, b, c, d, e0⟩) = .ok s ∧ 1 ≤ s.length := by
  obtain ⟨h0, hk⟩ := prW_kex h
  have hg := algW_get h0
  have h3 := kexW_three hg.2.1 hk
  refine ⟨kexW_marked hk, ?_⟩
  have hall := prF_none h
  have k0 : okF ⟨110, 0, [], l0 ++ marksOf a b c d⟩ ∧ (putF ⟨110, 0, [], l0 ++ marksOf a b c d⟩).2.length ≤ 1044 := list_okF (by rw [List.length_append]; have := (marksOf_mem (a := a) (b := b) (c := c) (d := d)).2; omega)
    (fun x hx => by
      rcases List.mem_append.1 hx with hx | hx
      · exact hg.2.2 x hx
      · exact mark_right x (marksOf_mem.1 x hx))
  have kl : ∀ l ∈ [l0, l1, l2, l3, l4, l5, l6, l7], okF ⟨110, 0, [], l⟩ ∧ (putF ⟨110, 0, [], l⟩).2.length ≤ 1044 := fun l hl => by
    have := algW_get (hall l hl)
    exact list_okF (by omega) this.2.2
  have kn : okF ⟨110, 0, [], []⟩ ∧ (putF ⟨110, 0, [], []⟩).2.length ≤ 1044 := list_okF (by simp) (by simp)
  have kc : okF ⟨99, 0, ck, []⟩ ∧ (putF ⟨99, 0, ck, []⟩).2.length = 16 := by
    have hp : putF ⟨99, 0, ck, []⟩ = (0, ck) := by
      unfold putF
      simp only
      rw [if_neg (by decide), if_neg (by decide), if_neg (by decide), if_neg (by decide), if_pos trivial, if_pos hck]
    exact ⟨⟨rfl, by rw [hp]⟩, by rw [hp]; exact hck⟩
  have kb : okF ⟨98, foN e0, [], []⟩ ∧ (putF ⟨98, foN e0, [], []⟩).2.length = 1 := by
    cases e0 <;> exact ⟨⟨rfl, by decide +kernel⟩, by decide +kernel⟩
  have ku : okF ⟨117, 0, [], []⟩ ∧ (putF ⟨117, 0, [], []⟩).2.length = 4 := ⟨⟨rfl, by decide +kernel⟩, by decide +kernel⟩
  have k1 := kl l1 (by simp)
  have k2 := kl l2 (by simp)
  have k3 := kl l3 (by simp)
  have k4 := kl l4 (by simp)
  have k5 := kl l5 (by simp)
  have k6 := kl l6 (by simp)
  have k7 := kl l7 (by simp)
  unfold kexMsg kexFs
  simp only [List.map_cons, List.map_nil, List.cons_append, List.nil_append]
  generalize l0 ++ marksOf a b c d = m0 at k0 ⊢
  unfold encS
  have hfit : fit 20 (13 : Nat) = (form20, true) := by decide +kernel
  simp only [List.length_cons, List.length_nil, Nat.zero_add, Nat.reduceAdd]
  rw [hfit]
  simp only [if_true]
  refine ⟨_, encGo_ok ?_ ?_ ?_, ?_⟩
  · rfl
  · intro x hx
    simp only [List.mem_cons, List.mem_nil_iff, or_false] at hx
    rcases hx with rfl | rfl | rfl | rfl | rfl | rfl | rfl | rfl | rfl | rfl | rfl | rfl | rfl
    · exact kc.1
    · exact k0.1
    · exact k1.1
    · exact k2.1
    · exact k3.1
    · exact k4.1
    · exact k5.1
    · exact k6.1
    · exact k7.1
    · exact kn.1
    · exact kn.1
    · exact kb.1
    · exact ku.1
  · simp only [putFs_cons, List.length_append, List.length_cons, List.length_nil]
    have : (putFs []).length = 0 := rfl
    omega
  · simp
theorem verL_nine {sw cm : List UInt8} (h : verL sw cm ≠ []) : 9 ≤ (verL sw cm).length := by
  unfold verL at h ⊢
  split at h
  · exact absurd rfl h
  · rename_i h1
    rw [if_neg h1]
    split at h
    · rename_i h2
      rw [if_pos h2]
      have : 1 ≤ sw.length := by
        cases sw with
        | nil => exact absurd (.inl rfl) h1
        | cons _ _ => simp
      have h8 : sshB.length = 8 := by decide +kernel
      simp only [List.length_append]
      omega
    · exact absurd rfl h
end Go.Proofs.YtjaipdenahlheaaGreatDoor
