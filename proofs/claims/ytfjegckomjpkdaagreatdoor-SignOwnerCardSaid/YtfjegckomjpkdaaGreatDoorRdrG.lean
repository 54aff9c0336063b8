/-
  The contract of code's Decode. Conditions: at most MaxTerm bytes.
-/
import Derived.Test.YtfjegckomjpkdaaGreatDoorRdrH
set_option linter.unusedVariables false
set_option linter.unusedSimpArgs false
namespace Go.Proofs.YtfjegckomjpkdaaGreatDoor
open Go.RowKit Go.ChangeShapes Go.WideShapes Go.Sort
/-- What Decode answers: the term whose bytes these are, or an error's number. -/
def DecP (B : Nat) (w : World) (g : Nat) (s : ByteArray) (T : List Tm) (S : Nat → Prop) (e : Ending) (w' : World) : Prop :=
  ∃ T' S' n k o, e = .returned (.tuple #[.int .i64 n, .int .i64 k]) ∧ Idn T' o n ∧ ((∃ t, o = some t ∧ good t ∧ s.data.toList = enc t ∧ k = 0) ∨ (o = none ∧ k = 3 ∧ ∀ t, good t → s.data.toList ≠ enc t)) ∧ Ar B w' g T' S' ∧ Grown S w S' w' ∧ T <+: T' ∧ T'.length ≤ T.length + 2 * s.size
theorem readT_whole {s : ByteArray} {o : Option Tm} {p' : Nat} (h : ReadT s 0 o p') (hp : p' ≤ s.size) : (∃ t, o = some t ∧ p' = s.size ∧ good t ∧ s.data.toList = enc t) ∨ ((o = none ∨ p' ≠ s.size) ∧ ∀ t, good t → s.data.toList ≠ enc t) := by
  rcases h with ⟨rfl, h⟩ | ⟨t, rfl, h1, h2⟩
  · exact .inr ⟨.inl rfl, fun t ht e => h t [] ht (by rw [List.drop_zero, e, List.append_nil])⟩
  · rw [List.drop_zero] at h2
    by_cases hs : p' = s.size
    · refine .inl ⟨t, rfl, hs, h1, ?_⟩
      rw [h2, List.drop_of_length_le (by rw [size_len]; omega), List.append_nil]
    · refine .inr ⟨.inr hs, fun u hu e => ?_⟩
      have h3 : enc t ++ s.data.toList.drop p' = enc u ++ [] := by rw [← h2, e, List.append_nil]
      have h4 := congrArg List.length (enc_inj t u _ _ h1 hu h3).2
      rw [List.length_drop, size_len] at h4
      simp at h4
      omega
section
variable {B g : Nat} {s : ByteArray} {T : List Tm} {S : Nat → Prop} {w : World}
set_option maxHeartbeats 1000000 in
set_option maxRecDepth 100000 in
theorem decode_any (h : Use B w g T S) (hs : s.size ≤ 131072) (hT : T.length ≤ 800000000) : Calls Tryz.prog 16 #[.pointer (some ⟨g, 0, none⟩), .string s] w (DecP B w g s T S) := by
  have hR : Rd B w.heap.size g s 0 T S (w.alloc (.cells #[.pointer (some ⟨g, 0, none⟩), .string s, .int .i64 0] 114)) :=
    ⟨h.below (bel_new _), Blk.new _ _ _, fun h9 => by have := h.ar.sL _ h9; omega, h.base, Nat.zero_le _, hs, by omega⟩
  have HT := hide (term_any w.heap.size g B s (s.size + 1) 0 T S _ (by omega) hR)
  have hS := h.ar.sL
  have hle : ¬ (131072 : Int) < s.size := by omega
  clear h hR
  go_enter Tryz.func16, Tryz.ntmps16
  go_wp2_with fail
  refine HT.out.mono ?_
  rintro e w1 ⟨T', n, S', p', o, rfl, hid, hrd, hR, hG, hpre, hl, hle⟩
  have hw := readT_whole hrd hR.hp
  have hp := hR.hp
  have hc2 : w1.cell? ⟨w.heap.size, 2, none⟩ = some (.int .i64 p') := Blk.cell hR.bk 2
  have hG2 : Grown S w S' w1 := by
    have h2 := (Grown.of_below (S := SR w.heap.size S) (bel_new (w := w) (.cells #[.pointer (some ⟨g, 0, none⟩), .string s, .int .i64 0] 114))).trans hG
    have hnb := hR.nb
    refine ⟨h2.os, h2.tape, h2.output, h2.size, fun i hi hn => h2.block i hi (fun h3 => ?_), fun i hi => ?_, fun i hi => ?_⟩
    · rcases h3 with h3 | h3
      · exact hn h3
      · omega
    · rcases h2.sub i (.inl hi) with h3 | h3
      · exact h3
      · have := hS i hi; omega
    · rcases h2.new i (.inl hi) with h3 | h3
      · rcases h3 with h3 | h3
        · exact .inl h3
        · exact absurd (h3 ▸ hi) hnb
      · exact .inr h3
  have hA := hR.use.ar
  have HA := hide hA
  clear hR hG HT hA
  rcases hw with ⟨t, rfl, rfl, ht, he⟩ | ⟨hor, hno⟩
  · have hn1 : ¬ n = -1 := fun h9 => by have := hid.none_iff.1 h9; cases this
    go_wp2_with fail
    go_ret2
    exact ⟨T', S', n, 0, some t, rfl, hid, .inl ⟨t, rfl, ht, he, rfl⟩, HA.out, hG2, hpre, by omega⟩
  · have hne : n = -1 ∨ ¬ n = -1 ∧ ¬ (p' : Int) = s.size := by
      by_cases h9 : n = -1
      · exact .inl h9
      · refine .inr ⟨h9, fun h10 => ?_⟩
        rcases hor with rfl | h11
        · exact h9 (hid.2 rfl)
        · omega
    rcases hne with rfl | ⟨hn1, hne⟩
    · go_wp2_with fail
      go_ret2
      exact ⟨T', S', -1, 3, none, rfl, idn_none _, .inr ⟨rfl, rfl, hno⟩, HA.out, hG2, hpre, by omega⟩
    · go_wp2_with fail
      go_ret2
      exact ⟨T', S', -1, 3, none, rfl, idn_none _, .inr ⟨rfl, rfl, hno⟩, HA.out, hG2, hpre, by omega⟩
end
end Go.Proofs.YtfjegckomjpkdaaGreatDoor
