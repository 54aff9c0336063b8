/-
  Several of my texts in one: Kx1, KxP, NamP.
-/
import Derived.Test.YtjaipdenahlheaaGreatDoorKChnG
import Derived.Test.YtjaipdenahlheaaGreatDoorKMsgG
import Derived.Lib.Split
import Derived.Lib.IndexAny
import Derived.Lib.Join
set_option linter.unusedVariables false
set_option linter.unusedSimpArgs false
/-
  Is a name in a list; the marks of an exchange: the contracts of slices.Index, slices.Contains, names.Has, names.First, kexinit.four, kexinit.marked, and of the reference's Has and marked. Conditions: lists that fit.
-/
namespace Go.Proofs.YtjaipdenahlheaaGreatDoor
open Go.RowKit Go.ChangeShapes Go.WideShapes Go.Sort
/-- A place of a text in a list, or a number below 0. -/
def IdxP (ls : List (List UInt8)) (s : List UInt8) (w : World) (e : Ending) (w' : World) : Prop := ∃ k : Int, e = .returned (.int .i64 k) ∧ w' = w ∧ decide (0 ≤ k) = decide (s ∈ ls)
theorem idxP_yes {ls : List (List UInt8)} {s : List UInt8} {w : World} {i : Nat} (hi : i < ls.length) (h : ls[i] = s) : IdxP ls s w (.returned (.int .i64 i)) w :=
  ⟨i, rfl, rfl, by rw [decide_eq_true (show (0 : Int) ≤ i by omega), decide_eq_true (by rw [← h]; exact List.getElem_mem hi)]⟩
theorem idxP_no {ls : List (List UInt8)} {s : List UInt8} {w : World} (h : s ∉ ls) : IdxP ls s w (.returned (.int .i64 (-1))) w :=
  ⟨-1, rfl, rfl, by rw [decide_eq_false (by decide), decide_eq_false h]⟩
theorem not_take {ls : List (List UInt8)} {s : List UInt8} {i : Nat} (hi : i < ls.length) (h : s ∉ ls.take i) (hn : ls[i] ≠ s) : s ∉ ls.take (i + 1) := by
  rw [List.take_succ_eq_append_getElem hi, List.mem_append, List.mem_singleton]
  exact fun h2 => h2.elim h (fun e => hn e.symm)
section
variable {w : World} {A : Option Addr} {c : Nat} {ls : List (List UInt8)}
set_option maxHeartbeats 1000000 in
theorem sidx_any (h : Txs w (.slice A ls.length c) ls) (hll : ls.length ≤ 9223372036854775807) (s : List UInt8) : Calls Tryz.prog 182 #[.slice A ls.length c, .string (bs s)] w (IdxP ls s w) := by
  obtain ⟨A', c', hv, hA⟩ := h.open_
  obtain ⟨rfl, rfl⟩ : A' = A ∧ c' = c := by injection hv with e1 _ e2; exact ⟨e1.symm, e2.symm⟩
  clear hv h
  go_enter Tryz.func182, Tryz.ntmps182
  go_wp2_with fail
  go_loop [8] (fun i => ∃ k : Nat, k ≤ ls.length ∧ i = .int .i64 k ∧ Hid (s ∉ ls.take k)) (fun i => ls.length - (intOf i).toNat)
  case atStart => exact ⟨0, Nat.zero_le _, rfl, hide (by simp)⟩
  case round =>
    obtain ⟨k, hk, rfl, H⟩ := hrel
    by_cases hlt : k < ls.length
    · have hkI : (k : Int) < ls.length := by omega
      obtain ⟨ad, rfl, had, hc⟩ := hA k hlt
      by_cases he : ls[k] = s
      · have e1 : ((bs s).toList == (bs ls[k]).toList) = true := by rw [he]; exact beq_self_eq_true _
        have HY := hide (idxP_yes (w := w) hlt he)
        clear he H hA
        go_wp2_with fail
        go_ret
        exact HY.out
      · have e1 : ((bs s).toList == (bs ls[k]).toList) = false := bytes_ne (fun e => he (bs_inj e).symm)
        have HN := hide (not_take hlt H.out he)
        clear he H hA
        go_wp2_with fail
        go_round
        case rel => exact ⟨k + 1, hlt, by go_num, HN⟩
        case measure => simp [intOf]; omega
    · have hkI : ¬ (k : Int) < ls.length := by omega
      have HN := hide (idxP_no (w := w) (ls := ls) (s := s) (by have := H.out; rwa [List.take_of_length_le (by omega)] at this))
      clear H hA
      go_wp2_with fail
      go_ret
      exact HN.out
theorem scon_any (h : Txs w (.slice A ls.length c) ls) (hll : ls.length ≤ 9223372036854775807) (s : List UInt8) : Calls Tryz.prog 157 #[.slice A ls.length c, .string (bs s)] w (fun e w' => e = .returned (.bool (decide (s ∈ ls))) ∧ w' = w) := by
  have H := hide (sidx_any h hll s)
  clear h
  generalize hz : decide (s ∈ ls) = z
  have Hz := hide hz
  clear hz
  go_enter Tryz.func157, Tryz.ntmps157
  go_wp2_with fail
  refine H.out.mono ?_
  rintro e w1 ⟨k, rfl, rfl, hk⟩
  have HZ := hide (hk.trans Hz.out)
  clear hk H
  go_wp2_with fail
  go_ret
  exact ⟨by rw [← HZ.out]; rfl, rfl⟩
theorem nhas_any (h : Txs w (.slice A ls.length c) ls) (hll : ls.length ≤ 9223372036854775807) (s : List UInt8) : Calls Tryz.prog 123 #[.slice A ls.length c, .string (bs s)] w (fun e w' => e = .returned (.bool (decide (s ∈ ls))) ∧ w' = w) := by
  have H := hide (scon_any h hll s)
  clear h
  go_enter Tryz.func123, Tryz.ntmps123
  go_wp2_with fail
  refine H.out.mono ?_
  rintro e w1 ⟨rfl, rfl⟩
  go_wp2_with fail
  go_ret
  exact ⟨rfl, rfl⟩
/-- What First answers: the text is left open. -/
def FirstP (b : Bool) (w : World) (e : Ending) (w' : World) : Prop := ∃ x, e = .returned (.tuple #[.string x, .bool b]) ∧ w' = w
set_option maxHeartbeats 1000000 in
theorem nfirst_any {B : Option Addr} {d : Nat} {ms : List (List UInt8)} (h : Txs w (.slice A ls.length c) ls) (hll : ls.length ≤ 1000000) (h2 : Txs w (.slice B ms.length d) ms) (hml : ms.length ≤ 9223372036854775807) :
    Calls Tryz.prog 87 #[.slice A ls.length c, .slice B ms.length d] w (FirstP (ls.any fun x => decide (x ∈ ms)) w) := by
  have HH := hide (fun s => nhas_any h2 hml s)
  obtain ⟨A', c', hv, hA⟩ := h.open_
  obtain ⟨rfl, rfl⟩ : A' = A ∧ c' = c := by injection hv with e1 _ e2; exact ⟨e1.symm, e2.symm⟩
  clear hv h h2
  generalize hz : (ls.any fun x => decide (x ∈ ms)) = z
  have Hz := hide hz
  clear hz
  go_enter Tryz.func87, Tryz.ntmps87
  go_wp2_with fail
  go_loop [10] (fun i => ∃ k : Nat, k ≤ ls.length ∧ i = .int .i64 k ∧ Hid (∀ x ∈ ls.take k, x ∉ ms)) (fun i => ls.length - (intOf i).toNat)
  case atStart => exact ⟨0, Nat.zero_le _, rfl, hide (by simp)⟩
  case round =>
    obtain ⟨k, hk, rfl, H⟩ := hrel
    by_cases hlt : k < ls.length
    · have hkI : (k : Int) < ls.length := by omega
      obtain ⟨ad, rfl, had, hc⟩ := hA k hlt
      have HC := hide (HH.out ls[k])
      by_cases he : ls[k] ∈ ms
      · rw [decide_eq_true he] at HC
        have HY := hide (show z = true from by rw [← Hz.out, List.any_eq_true]; exact ⟨_, List.getElem_mem hlt, decide_eq_true he⟩)
        clear he H hA HH
        go_wp2_with (first | (go_at_call 123; refine HC.out.mono ?_; rintro e w1 ⟨rfl, rfl⟩) | fail)
        go_ret2
        exact ⟨_, by rw [HY.out]; rfl, rfl⟩
      · rw [decide_eq_false he] at HC
        have HN := hide (show ∀ x ∈ ls.take (k + 1), x ∉ ms from by
          intro x hx
          rw [List.take_succ_eq_append_getElem hlt] at hx
          rcases List.mem_append.1 hx with hx | hx
          · exact H.out x hx
          · simp only [List.mem_singleton] at hx
            subst hx
            exact he)
        clear he H hA HH
        go_wp2_with (first | (go_at_call 123; refine HC.out.mono ?_; rintro e w1 ⟨rfl, rfl⟩) | fail)
        go_round
        case rel => exact ⟨k + 1, hlt, by go_num, HN⟩
        case measure => simp [intOf]; omega
    · have hkI : ¬ (k : Int) < ls.length := by omega
      have HN := hide (show z = false from by
        rw [← Hz.out, List.any_eq_false]
        intro x hx
        rw [decide_eq_false (H.out x (by rw [List.take_of_length_le (by omega)]; exact hx))]
        decide)
      clear H hA HH
      go_wp2_with fail
      go_ret2
      exact ⟨_, by rw [HN.out]; rfl, rfl⟩
end
def mark0 : List UInt8 := [101, 120, 116, 45, 105, 110, 102, 111, 45, 99]
def mark1 : List UInt8 := [101, 120, 116, 45, 105, 110, 102, 111, 45, 115]
def mark2 : List UInt8 := [107, 101, 120, 45, 115, 116, 114, 105, 99, 116, 45, 99, 45, 118, 48, 48]
def mark3 : List UInt8 := [107, 101, 120, 45, 115, 116, 114, 105, 99, 116, 45, 115, 45, 118, 48, 48]
def marksL : List (List UInt8) := [mark0, mark1, mark2, mark3]
def markedL (ls : List (List UInt8)) : Bool := marksL.any fun x => decide (x ∈ ls)
section
variable {w : World}
theorem pmark_any (b : Bool) (w : World) : Calls Tryz.prog 124 #[.bool b] w (fun e w' => e = .returned (.string (bs (if b = true then mark1 else mark0))) ∧ w' = w) := by
  cases b with
  | true =>
    go_enter Tryz.func124, Tryz.ntmps124
    go_wp2_with fail
    go_ret
    exact ⟨rfl, rfl⟩
  | false =>
    go_enter Tryz.func124, Tryz.ntmps124
    go_wp2_with fail
    go_ret
    exact ⟨rfl, rfl⟩
theorem pstrict_any (b : Bool) (w : World) : Calls Tryz.prog 125 #[.bool b] w (fun e w' => e = .returned (.string (bs (if b = true then mark3 else mark2))) ∧ w' = w) := by
  cases b with
  | true =>
    go_enter Tryz.func125, Tryz.ntmps125
    go_wp2_with fail
    go_ret
    exact ⟨rfl, rfl⟩
  | false =>
    go_enter Tryz.func125, Tryz.ntmps125
    go_wp2_with fail
    go_ret
    exact ⟨rfl, rfl⟩
theorem txs_blk {w : World} {b : Nat} {ls : List (List UInt8)} (h : Blk w b 9 ((ls.map bs).map Value.string).toArray) (c : Nat) : Txs w (.slice (some ⟨b, 0, none⟩) ls.length c) ls := by
  have := Blk.strs (lo := 0) (ss := ls.map bs) h (Nat.zero_le _) c
  rw [List.length_map] at this
  exact this
set_option maxRecDepth 100000 in
theorem four_any (w : World) : Calls Tryz.prog 88 #[] w (fun e w' => e = .returned (.slice (some ⟨w.heap.size, 0, none⟩) 4 4) ∧ Blk w' w.heap.size 9 ((marksL.map bs).map Value.string).toArray ∧ Below w.heap.size w w') := by
  have M0 := hide (fun W => show Calls Tryz.prog 124 #[.bool false] W (fun e w' => e = .returned (.string (bs mark0)) ∧ w' = W) from pmark_any false W)
  have M1 := hide (fun W => show Calls Tryz.prog 124 #[.bool true] W (fun e w' => e = .returned (.string (bs mark1)) ∧ w' = W) from pmark_any true W)
  have M2 := hide (fun W => show Calls Tryz.prog 125 #[.bool false] W (fun e w' => e = .returned (.string (bs mark2)) ∧ w' = W) from pstrict_any false W)
  have M3 := hide (fun W => show Calls Tryz.prog 125 #[.bool true] W (fun e w' => e = .returned (.string (bs mark3)) ∧ w' = W) from pstrict_any true W)
  go_enter Tryz.func88, Tryz.ntmps88
  go_wp2_with (first
    | (go_at_call 124; (with_reducible refine (M0.out _).mono ?_); rintro e w1 ⟨rfl, rfl⟩)
    | (go_at_call 124; (with_reducible refine (M1.out _).mono ?_); rintro e w2 ⟨rfl, rfl⟩)
    | (go_at_call 125; (with_reducible refine (M2.out _).mono ?_); rintro e w3 ⟨rfl, rfl⟩)
    | (go_at_call 125; (with_reducible refine (M3.out _).mono ?_); rintro e w4 ⟨rfl, rfl⟩)
    | fail)
  go_ret
  exact ⟨rfl, Blk.new _ _ _, by (repeat (first | exact Below.refl _ _ | refine below_drewN ?_ _ | refine Below.drew ?_ | refine Below.alloc ?_ (by first | omega | (simp; done) | (simp; omega)) _ | refine Below.setCell ?_ (by first | omega | (simp; done) | (simp; omega)) _ | refine bel_alloc ?_ _ | refine bel_trans ?_ (by assumption) | refine Below.trans ?_ (Below.mono (by assumption) (by first | omega | (simp; done) | (simp; omega)))))⟩
theorem kmarked_any {A : Option Addr} {c : Nat} {ls : List (List UInt8)} (h : Txs w (.slice A ls.length c) ls) (hll : ls.length ≤ 9223372036854775807) : Calls Tryz.prog 38 #[.slice A ls.length c] w (fun e w' => e = .returned (.bool (markedL ls)) ∧ Below w.heap.size w w') := by
  have H4 := hide (four_any w)
  have HT := hide (fun (W : World) (hb : Below w.heap.size w W) => h.below hb)
  have HZ : markedL ls = (marksL.any fun x => decide (x ∈ ls)) := rfl
  rw [HZ]
  generalize hz : (marksL.any fun x => decide (x ∈ ls)) = z
  have Hz := hide hz
  clear h HZ hz
  go_enter Tryz.func38, Tryz.ntmps38
  go_wp2_with fail
  refine H4.out.mono ?_
  rintro e w1 ⟨rfl, hbk, hb1⟩
  have ht := txs_blk (ls := marksL) hbk 4
  have HF := hide (nfirst_any (ls := marksL) ht (by decide) (HT.out _ hb1) hll)
  have Hb := hide hb1
  rw [Hz.out] at HF
  clear ht hb1 hbk H4 HT Hz
  go_wp2_with fail
  refine HF.out.mono ?_
  rintro e w2 ⟨x, rfl, rfl⟩
  go_wp2_with fail
  go_ret
  exact ⟨rfl, Hb.out⟩
end
end Go.Proofs.YtjaipdenahlheaaGreatDoor

/-
  The plain law of kexinit's marks: a list splits in rest and marks just when the reference's rebuilding gives it back. Conditions: none.
-/
namespace Go.Proofs.YtjaipdenahlheaaGreatDoor
def oneM (b : Bool) (m : List UInt8) : List (List UInt8) := if b = true then [m] else []
/-- The marks that are said, in order. -/
def marksOf (a b c d : Bool) : List (List UInt8) := oneM a mark0 ++ (oneM b mark1 ++ (oneM c mark2 ++ oneM d mark3))
/-- A mark at the end is taken off. -/
def stripM (m : List UInt8) (l : List (List UInt8)) : List (List UInt8) × Bool := if l.getLast? = some m then (l.dropLast, true) else (l, false)
theorem strip_app (m : List UInt8) (l : List (List UInt8)) : (stripM m l).1 ++ oneM (stripM m l).2 m = l := by
  unfold stripM
  split
  · rename_i h
    obtain ⟨ys, rfl⟩ := List.getLast?_eq_some_iff.1 h
    simp [oneM]
  · simp [oneM]
theorem strip_one {m : List UInt8} {l : List (List UInt8)} (b : Bool) (h : m ∉ l) : stripM m (l ++ oneM b m) = (l, b) := by
  unfold stripM oneM
  cases b with
  | true => simp
  | false =>
    rw [if_neg]
    · simp
    · intro h2
      simp only [Bool.false_eq_true, if_false, List.append_nil] at h2
      exact h (List.mem_of_getLast? h2)
/-- Rest and marks of a list. -/
structure SplM where
  rest : List (List UInt8)
  a : Bool
  b : Bool
  c : Bool
  d : Bool
def splitM (l : List (List UInt8)) : SplM :=
  let s3 := stripM mark3 l
  let s2 := stripM mark2 s3.1
  let s1 := stripM mark1 s2.1
  let s0 := stripM mark0 s1.1
  ⟨s0.1, s0.2, s1.2, s2.2, s3.2⟩
theorem splitM_app (l : List (List UInt8)) : (splitM l).rest ++ marksOf (splitM l).a (splitM l).b (splitM l).c (splitM l).d = l := by
  unfold splitM marksOf
  simp only
  have h3 := strip_app mark3 l
  have h2 := strip_app mark2 (stripM mark3 l).1
  have h1 := strip_app mark1 (stripM mark2 (stripM mark3 l).1).1
  have h0 := strip_app mark0 (stripM mark1 (stripM mark2 (stripM mark3 l).1).1).1
  rw [← List.append_assoc, h0, ← List.append_assoc, h1, ← List.append_assoc, h2, h3]
theorem marked_not {l : List (List UInt8)} (h : markedL l = false) : mark0 ∉ l ∧ mark1 ∉ l ∧ mark2 ∉ l ∧ mark3 ∉ l := by
  have h2 := List.any_eq_false.1 h
  refine ⟨fun e => ?_, fun e => ?_, fun e => ?_, fun e => ?_⟩
  · exact h2 mark0 (by simp [marksL]) (decide_eq_true e)
  · exact h2 mark1 (by simp [marksL]) (decide_eq_true e)
  · exact h2 mark2 (by simp [marksL]) (decide_eq_true e)
  · exact h2 mark3 (by simp [marksL]) (decide_eq_true e)
theorem mem_one {b : Bool} {m x : List UInt8} : x ∈ oneM b m ↔ b = true ∧ x = m := by
  unfold oneM
  cases b <;> simp
theorem ne01 : mark0 ≠ mark1 := by decide
theorem ne02 : mark0 ≠ mark2 := by decide
theorem ne03 : mark0 ≠ mark3 := by decide
theorem ne12 : mark1 ≠ mark2 := by decide
theorem ne13 : mark1 ≠ mark3 := by decide
theorem ne23 : mark2 ≠ mark3 := by decide
theorem splitM_of {l : List (List UInt8)} (a b c d : Bool) (h : markedL l = false) : splitM (l ++ marksOf a b c d) = ⟨l, a, b, c, d⟩ := by
  obtain ⟨h0, h1, h2, h3⟩ := marked_not h
  have e3 : stripM mark3 (l ++ marksOf a b c d) = (l ++ (oneM a mark0 ++ (oneM b mark1 ++ oneM c mark2)), d) := by
    have : l ++ marksOf a b c d = (l ++ (oneM a mark0 ++ (oneM b mark1 ++ oneM c mark2))) ++ oneM d mark3 := by simp [marksOf, List.append_assoc]
    rw [this]
    refine strip_one d ?_
    simp only [List.mem_append, mem_one, not_or]
    exact ⟨h3, fun e => ne03 e.2.symm, fun e => ne13 e.2.symm, fun e => ne23 e.2.symm⟩
  have e2 : stripM mark2 (l ++ (oneM a mark0 ++ (oneM b mark1 ++ oneM c mark2))) = (l ++ (oneM a mark0 ++ oneM b mark1), c) := by
    have : l ++ (oneM a mark0 ++ (oneM b mark1 ++ oneM c mark2)) = (l ++ (oneM a mark0 ++ oneM b mark1)) ++ oneM c mark2 := by simp [List.append_assoc]
    rw [this]
    refine strip_one c ?_
    simp only [List.mem_append, mem_one, not_or]
    exact ⟨h2, fun e => ne02 e.2.symm, fun e => ne12 e.2.symm⟩
  have e1 : stripM mark1 (l ++ (oneM a mark0 ++ oneM b mark1)) = (l ++ oneM a mark0, b) := by
    rw [← List.append_assoc]
    refine strip_one b ?_
    simp only [List.mem_append, mem_one, not_or]
    exact ⟨h1, fun e => ne01 e.2.symm⟩
  have e0 := strip_one a h0
  unfold splitM
  simp only [e3, e2, e1, e0]
def isMark (x : List UInt8) : Bool := marksL.any fun m => decide (m = x)
theorem isMark_of {x : List UInt8} : isMark x = true ↔ x = mark0 ∨ x = mark1 ∨ x = mark2 ∨ x = mark3 := by
  unfold isMark
  simp only [marksL, List.any_cons, List.any_nil, Bool.or_false, Bool.or_eq_true, decide_eq_true_eq]
  constructor
  · rintro (h | h | h | h)
    · exact .inl h.symm
    · exact .inr (.inl h.symm)
    · exact .inr (.inr (.inl h.symm))
    · exact .inr (.inr (.inr h.symm))
  · rintro (h | h | h | h)
    · exact .inl h.symm
    · exact .inr (.inl h.symm)
    · exact .inr (.inr (.inl h.symm))
    · exact .inr (.inr (.inr h.symm))
theorem marks_are {a b c d : Bool} : ∀ x ∈ marksOf a b c d, isMark x = true := by
  intro x hx
  simp only [marksOf, List.mem_append, mem_one] at hx
  rw [isMark_of]
  rcases hx with h | h | h | h
  · exact .inl h.2
  · exact .inr (.inl h.2)
  · exact .inr (.inr (.inl h.2))
  · exact .inr (.inr (.inr h.2))
end Go.Proofs.YtjaipdenahlheaaGreatDoor

/-
  Names cut at commas, in the shelf's words and in mine. Conditions: none.
-/
namespace Go.Proofs.YtjaipdenahlheaaGreatDoor
theorem index_comma_no {l : List UInt8} (h : (44 : UInt8) ∉ l) : Lib.index l [44] = -1 := by
  induction l with
  | nil => rfl
  | cons c r ih =>
    simp only [List.mem_cons, not_or] at h
    simp only [Lib.index]
    rw [if_neg (by simp [h.1]), ih h.2]
    rfl
theorem index_comma_yes {x : List UInt8} (r : List UInt8) (h : (44 : UInt8) ∉ x) : Lib.index (x ++ 44 :: r) [44] = x.length := by
  induction x with
  | nil => simp [Lib.index]
  | cons c x ih =>
    simp only [List.mem_cons, not_or] at h
    simp only [List.cons_append, Lib.index]
    rw [if_neg (by simp [h.1]), ih h.2]
    have : (((x.length : Nat) : Int) == -1) = false := by rw [beq_eq_false_iff_ne]; omega
    rw [this]
    simp
theorem comma_cases (l : List UInt8) : (44 : UInt8) ∉ l ∨ ∃ x r, l = x ++ 44 :: r ∧ (44 : UInt8) ∉ x := by
  by_cases h : (44 : UInt8) ∈ l
  · obtain ⟨x, r, h1, h2⟩ := List.eq_append_cons_of_mem h
    exact .inr ⟨x, r, h1, h2⟩
  · exact .inl h
theorem splitK_comma : ∀ (n : Nat) (l : List UInt8), l.length ≤ n → Lib.splitK [44] 0 (Lib.count l [44]) l = splitC l := by
  intro n
  induction n with
  | zero =>
    intro l hl
    have : l = [] := List.eq_nil_of_length_eq_zero (by omega)
    subst this
    rfl
  | succ n ih =>
    intro l hl
    rcases comma_cases l with h | ⟨x, r, rfl, h⟩
    · rw [Lib.count_miss (index_comma_no h), splitC_none h]
      rfl
    · have hi := index_comma_yes r h
      have hd : (x ++ 44 :: r).drop (x.length + 1) = r := by
        rw [← List.drop_drop, List.drop_left]
        rfl
      have hc : Lib.count (x ++ 44 :: r) [44] = 1 + Lib.count r [44] := by
        rw [Lib.count_hit (by simp) hi]
        rw [show ([44] : List UInt8).length = 1 from rfl, hd]
      rw [hc, Nat.add_comm, Lib.splitK, hi]
      have : (((x.length : Nat) : Int) == -1) = false := by rw [beq_eq_false_iff_ne]; omega
      rw [this]
      simp only [Bool.false_eq_true, if_false, Int.toNat_natCast, Nat.add_zero]
      rw [show ([44] : List UInt8).length = 1 from rfl, hd, List.take_left, splitC_app h, ih r (by simp at hl; omega)]
/-- The shelf's pieces are mine. -/
theorem splitB_comma (s : ByteArray) : (Lib.splitB ⟨#[44]⟩ 0 (Lib.countB s ⟨#[44]⟩) s).map (·.data.toList) = splitC s.data.toList := by
  rw [Lib.splitB_data]
  exact splitK_comma _ _ (Nat.le_refl _)
theorem join_comma (l : List (List UInt8)) : Lib.join l [44] = joinC l := by
  induction l with
  | nil => rfl
  | cons x l ih =>
    cases l with
    | nil => simp [Lib.join_one, joinC]
    | cons y r =>
      rw [Lib.join_cons] at ih ⊢
      rw [joinC_cons _ (by simp), ← ih]
      simp [Lib.joinTail]
theorem contains_comma (l : List UInt8) : decide (0 ≤ Lib.indexByte l 44) = l.contains 44 := (Lib.contains_iff_indexByte l 44).symm
theorem rightL_eq {s : List UInt8} (h : ∀ c ∈ s, 33 ≤ c.toNat ∧ c.toNat ≤ 126) : rightL s = (decide (1 ≤ s.length) && decide (s.length ≤ 64) && !(s.contains 44)) := by
  have h2 : (s.all fun c => decide (33 ≤ c.toNat) && decide (c.toNat ≤ 126) && !(c == 44)) = !(s.contains 44) := by
    induction s with
    | nil => rfl
    | cons c r ih =>
      have hc := h c (by simp)
      rw [List.all_cons, ih (fun d hd => h d (by simp [hd])), List.contains_cons]
      simp only [hc.1, hc.2, decide_true, Bool.true_and, Bool.not_or]
      rw [show (c == (44 : UInt8)) = ((44 : UInt8) == c) from by rw [Bool.eq_iff_iff, beq_iff_eq, beq_iff_eq]; exact eq_comm]
  unfold rightL
  rw [h2]
  cases s.contains 44 <;> simp
theorem rightL_no {s : List UInt8} {c : UInt8} (hc : c ∈ s) (h : c.toNat < 33 ∨ 126 < c.toNat ∨ c = 44) : rightL s = false := by
  cases hr : rightL s with
  | false => rfl
  | true =>
    exfalso
    unfold rightL at hr
    simp only [Bool.and_eq_true, List.all_eq_true, decide_eq_true_eq, Bool.not_eq_true', beq_eq_false_iff_ne] at hr
    have := hr.1.1 c hc
    rcases h with h | h | h
    · omega
    · omega
    · exact this.2 h
theorem wrongN_no {l : List (List UInt8)} (h16 : l.length ≤ 16) {x : List UInt8} (hx : x ∈ l) (hr : rightL x = false) : wrongN l = 3 := by
  unfold wrongN
  rw [if_neg (by omega), if_neg]
  intro h
  rw [List.all_eq_true] at h
  rw [h x hx] at hr
  cases hr
theorem wrongN_yes {l : List (List UInt8)} (h16 : l.length ≤ 16) (h : ∀ x ∈ l, rightL x = true) : wrongN l = 0 := by
  unfold wrongN
  rw [if_neg (by omega), if_pos (by rw [List.all_eq_true]; exact h)]
theorem wrongN_long {l : List (List UInt8)} (h16 : 16 < l.length) : wrongN l = 2 := by
  unfold wrongN
  rw [if_pos h16]
end Go.Proofs.YtjaipdenahlheaaGreatDoor
