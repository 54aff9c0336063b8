/-
  Two inits that are the same: the statement's test says so. Conditions: none.
-/
import Derived.Test.YtjaipdenahlheaaGreatDoorKKxRG
import Derived.Test.YtjaipdenahlheaaGreatDoorKKx9
import Derived.Test.YtjaipdenahlheaaGreatDoorKInit
set_option linter.unusedVariables false
set_option linter.unusedSimpArgs false
namespace Go.Proofs.YtjaipdenahlheaaGreatDoor
open Go.RowKit Go.ChangeShapes Go.WideShapes Go.Sort
def AllM (w : World) (vs : List Value) (ls : List (List (List UInt8))) : Prop := vs.length = ls.length ∧ ∀ (i : Nat) v l, vs[i]? = some v → ls[i]? = some l → Txc w v l ∧ l.length ≤ maxLen
theorem AllM.below {w w' : World} {vs : List Value} {ls : List (List (List UInt8))} (h : AllM w vs ls) (hb : Below w.heap.size w w') : AllM w' vs ls :=
 ⟨h.1, fun i v l h1 h2 => ⟨(h.2 i v l h1 h2).1.below hb, (h.2 i v l h1 h2).2⟩⟩
theorem AllM.allS {w : World} {vs : List Value} {ls : List (List (List UInt8))} (h : AllM w vs ls) : AllS 0 w vs (ls.map bss) := by
 refine ⟨by rw [List.length_map]; exact h.1, fun i v s h1 h2 => ?_⟩
 rw [List.getElem?_map, Option.map_eq_some_iff] at h2
 obtain ⟨l, hl, rfl⟩ := h2
 have := h.2 i v l h1 hl
 unfold maxLen at this
 exact ⟨this.1.1, by rw [bss, List.length_map]; omega⟩
theorem AllM.take {w : World} {vs : List Value} {ls : List (List (List UInt8))} (h : AllM w vs ls) (n : Nat) : AllM w (vs.take n) (ls.take n) := by
 refine ⟨by rw [List.length_take, List.length_take, h.1], fun i v l h1 h2 => ?_⟩
 rw [List.getElem?_take] at h1 h2
 split at h1
 ·rw [if_pos (by assumption)] at h2
  exact h.2 i v l h1 h2
 ·cases h1
theorem AllC.allM {w : World} {vs : List Value} {ls : List (List (List UInt8))} (h : AllC w vs ls) : AllM w vs ls :=
 ⟨h.1, fun i v l h1 h2 => ⟨(h.2 i v l h1 h2).1, by have := (h.2 i v l h1 h2).2; unfold maxLen; omega⟩⟩
theorem AllM.small {w : World} {vs : List Value} {ls : List (List (List UInt8))} (h : AllM w vs ls) (h2 : ∀ l ∈ ls, l.length ≤ 1000000) : AllC w vs ls :=
 ⟨h.1, fun i v l h3 h4 => ⟨(h.2 i v l h3 h4).1, h2 l (List.mem_of_getElem? h4)⟩⟩
theorem same16_true {w : World} {ck : List UInt8} {a b c d e0 : Bool} {v0 v1 v2 v3 v4 v5 v6 v7 v8 v9 u0 u1 u2 u3 u4 u5 u6 u7 u8 u9 : Value} {kex m1 m2 m3 m4 m5 m6 m7 m8 m9 : List (List UInt8)} (h : AllM w [v0, v1, v2, v3, v4, v5, v6, v7, v8, v9] [kex, m1, m2, m3, m4, m5, m6, m7, m8, m9]) (h2 : AllM w [u0, u1, u2, u3, u4, u5, u6, u7, u8, u9] [kex, m1, m2, m3, m4, m5, m6, m7, m8, m9]) :
  Calls Tryz.prog 19 #[.agg #[.string (bs ck), v0, v1, v2, v3, v4, v5, v6, v7, v8, v9, .bool a, .bool b, .bool c, .bool d, .bool e0], .agg #[.string (bs ck), u0, u1, u2, u3, u4, u5, u6, u7, u8, u9, .bool a, .bool b, .bool c, .bool d, .bool e0]] w (fun e w' => e = .returned (.bool true) ∧ Below w.heap.size w w') := by
 have key := lsame16_any (c := bs ck) (d := bs ck) (a0 := a) (a1 := b) (a2 := c) (a3 := d) (a4 := e0) (b0 := a) (b1 := b) (b2 := c) (b3 := d) (b4 := e0) (h.take 8).allS (h2.take 8).allS (h.allS.2 8 _ _ rfl rfl).1 (h.allS.2 9 _ _ rfl rfl).1 (h2.allS.2 8 _ _ rfl rfl).1 (h2.allS.2 9 _ _ rfl rfl).1 (h.allS.2 8 _ _ rfl rfl).2 (h.allS.2 9 _ _ rfl rfl).2 (h2.allS.2 8 _ _ rfl rfl).2 (h2.allS.2 9 _ _ rfl rfl).2
 refine key.mono fun e w' h => ⟨?_, h.2⟩
 rw [h.1, decide_eq_true rfl]
theorem kexMsg_get {ck : List UInt8} {kex : List (List UInt8)} {more : List (List (List UInt8))} {a b c d e0 : Bool} (hc : ck.length ≤ 100) (h : ∀ l ∈ kex :: more, l.length ≤ 20 ∧ ∀ y ∈ l, y.length ≤ 100) :
  ∀ x ∈ kexMsg ⟨ck, kex, more, a, b, c, d, e0⟩, SzF x ∧ fitF x := by
 have hm4 : (marksOf a b c d).length ≤ 4 := by have := preM_len a b c d 4; rwa [preM_4] at this
 have hmk : ∀ y ∈ marksOf a b c d, y.length ≤ 100 := fun y hy => by
  rcases isMark_of.1 (marks_are y hy) with rfl | rfl | rfl | rfl <;> decide
 have hl : ∀ l ∈ (kex ++ marksOf a b c d) :: more, l.length ≤ 24 ∧ ∀ y ∈ l, y.length ≤ 100 := by
  intro l hl
  rcases List.mem_cons.1 hl with rfl | hl
  ·have h1 := h kex (by simp)
   refine ⟨by rw [List.length_append]; omega, fun y hy => ?_⟩
   rcases List.mem_append.1 hy with hy | hy
   ·exact h1.2 y hy
   ·exact hmk y hy
  ·have h1 := h l (List.mem_cons_of_mem _ hl)
   exact ⟨by omega, h1.2⟩
 intro x hx
 unfold kexMsg kexFs at hx
 rcases List.mem_cons.1 hx with rfl | hx
 ·exact ⟨⟨by show ck.length ≤ _; omega, by simp, fun y hy => by cases hy⟩, by show ck.length < _; omega, fun y hy => by cases hy⟩
 ·rcases List.mem_append.1 hx with hx | hx
  ·obtain ⟨q, hq, rfl⟩ := List.mem_map.1 hx
   have h1 := hl q hq
   exact ⟨⟨by simp, by show q.length ≤ _; omega, fun y hy => by have := h1.2 y hy; omega⟩, by show 0 < _; omega, fun y hy => by have := h1.2 y hy; omega⟩
  ·simp only [List.mem_cons, List.mem_nil_iff, or_false] at hx
   rcases hx with rfl | rfl
   ·exact ⟨⟨by simp, by simp, fun y hy => by cases hy⟩, by show 0 < _; omega, fun y hy => by cases hy⟩
   ·exact ⟨⟨by simp, by simp, fun y hy => by cases hy⟩, by show 0 < _; omega, fun y hy => by cases hy⟩
end Go.Proofs.YtjaipdenahlheaaGreatDoor
