/-
  Several of my texts in one: EncG, Gets.
-/
import Derived.Test.YtmgfcjpifkoahaaGreatDoorKMsgG
import Derived.Test.YtmgfcjpifkoahaaGreatDoorKPutNG
import Derived.Test.YtmgfcjpifkoahaaGreatDoorKChn
import Derived.Lib.OthersKept
import Derived.WalkSmall
import Derived.Lib.QuietBelow
import Derived.Deep.RegionHeld3
import Derived.Deep.DeepCutAuto
set_option linter.unusedVariables false
set_option linter.unusedSimpArgs false
/-
  The contracts of the other functions of package schema: Known, Word, Num, Class. Conditions: none.
-/
namespace Go.Proofs.YtmgfcjpifkoahaaGreatDoor
open Go.RowKit

def letw (n : Int) : ByteArray :=
 if n = 50 then ⟨#[117, 115, 101, 114, 97, 117, 116, 104, 45, 114, 101, 113, 117, 101, 115, 116]⟩ else if n = 51 then ⟨#[117, 115, 101, 114, 97, 117, 116, 104, 45, 102, 97, 105, 108, 117, 114, 101]⟩ else if n = 52 then ⟨#[117, 115, 101, 114, 97, 117, 116, 104, 45, 115, 117, 99, 99, 101, 115, 115]⟩ else if n = 53 then ⟨#[117, 115, 101, 114, 97, 117, 116, 104, 45, 98, 97, 110, 110, 101, 114]⟩ else if n = 60 then ⟨#[117, 115, 101, 114, 97, 117, 116, 104, 45, 112, 107, 45, 111, 107]⟩ else ⟨#[]⟩
def word (n : Int) : ByteArray :=
 if n = 1 then ⟨#[100, 105, 115, 99, 111, 110, 110, 101, 99, 116]⟩ else if n = 2 then ⟨#[105, 103, 110, 111, 114, 101]⟩ else if n = 3 then ⟨#[117, 110, 105, 109, 112, 108, 101, 109, 101, 110, 116, 101, 100]⟩ else if n = 4 then ⟨#[100, 101, 98, 117, 103]⟩ else if n = 5 then ⟨#[115, 101, 114, 118, 105, 99, 101, 45, 114, 101, 113, 117, 101, 115, 116]⟩ else if n = 6 then ⟨#[115, 101, 114, 118, 105, 99, 101, 45, 97, 99, 99, 101, 112, 116]⟩ else if n = 7 then ⟨#[101, 120, 116, 45, 105, 110, 102, 111]⟩ else if n = 20 then ⟨#[107, 101, 120, 105, 110, 105, 116]⟩ else if n = 21 then ⟨#[110, 101, 119, 107, 101, 121, 115]⟩ else if n = 30 then ⟨#[101, 99, 100, 104, 45, 105, 110, 105, 116]⟩ else if n = 31 then ⟨#[114, 101, 112, 108, 121, 45, 111, 114, 45, 103, 114, 111, 117, 112]⟩ else if n = 32 then ⟨#[103, 101, 120, 45, 105, 110, 105, 116]⟩ else if n = 33 then ⟨#[103, 101, 120, 45, 114, 101, 112, 108, 121]⟩ else if n = 34 then ⟨#[103, 101, 120, 45, 114, 101, 113, 117, 101, 115, 116]⟩ else letw n
set_option maxHeartbeats 400000 in
theorem letw_any (n : Int) (w : World) : Calls Tryz.prog 114 #[.int .i64 n] w fun e w' => e = .returned (.string (letw n)) ∧ w = w' := by
 go_enter Tryz.func114, Tryz.ntmps114
 go_wp2
 all_goals (go_ret; refine ⟨?_, rfl⟩; simp_all [letw])
set_option maxHeartbeats 1000000 in
theorem word_any (n : Int) (w : World) : Calls Tryz.prog 53 #[.int .i64 n] w fun e w' => e = .returned (.string (word n)) ∧ w = w' := by
 go_enter Tryz.func53, Tryz.ntmps53
 go_wp2_with (go_at_call 114; refine (letw_any _ _).mono ?_; rintro e w' ⟨rfl, rfl⟩)
 all_goals (go_ret; refine ⟨?_, rfl⟩; simp_all [word])
def known (n : Int) : Bool := !(forms n).isEmpty
theorem known_any (n : Int) (w : World) : Calls Tryz.prog 49 #[.int .i64 n] w fun e w' => e = .returned (.bool (known n)) ∧ Below w.heap.size w w' := by
 have hl := forms_len n
 go_enter Tryz.func49, Tryz.ntmps49
 go_wp2_with (go_at_call 50; refine (forms_any _ _).mono ?_; rintro e w1 ⟨v, rfl, ⟨A, c, rfl, hr⟩, hb⟩)
 go_ret
 refine ⟨ret_bool ?_, hb⟩
 unfold known
 cases forms n <;> simp
def num (s : ByteArray) : Int × Bool := match ((List.range 60).map (fun i => ((i + 1 : Nat) : Int))).find? (fun n => word n != ⟨#[]⟩ && word n == s) with | some n => (n, true) | none => (0, false)
end Go.Proofs.YtmgfcjpifkoahaaGreatDoor

/-
  The contract of package msg's Encode. Conditions: texts and lists that fit.
-/
namespace Go.Proofs.YtmgfcjpifkoahaaGreatDoor
open Go.RowKit Go.ChangeShapes Go.WideShapes Go.Sort
def msgB : List UInt8 := [109, 101, 115, 115, 97, 103, 101]
theorem form_ascii {n : Int} {f : ByteArray} (h : f ∈ forms n) : f.size ≤ 13 ∧ ∀ c ∈ f.data.toList, c.toNat < 128 := by
 have key : ∀ g ∈ forms n, g.size ≤ 13 ∧ ∀ c ∈ g.data.toList, c.toNat < 128 := by
  unfold forms
  repeat' refine ite_ok (P := fun l : List ByteArray => ∀ g ∈ l, g.size ≤ 13 ∧ ∀ c ∈ g.data.toList, c.toNat < 128) ?_ ?_
  all_goals decide
 exact key f h
section
variable {w : World}
structure EncI (w : World) (num : Int) (l : List Fld) (A : Option Addr) (c : Nat) (f : ByteArray) (B i : Nat) (out : List UInt8) (wr : World) : Prop where
 bel : Below w.heap.size w wr
 it : wr.heap[B]? = some (.stringIter f i)
 box : Blk wr w.heap.size 60 #[.int .i64 num, .slice A l.length c]
 go : encGo (f.data.toList.drop i) (l.drop i) i out = encS num l
 len : out.length ≤ 32768
end
end Go.Proofs.YtmgfcjpifkoahaaGreatDoor

/-
  The contracts of law07's Wrong and of law04's and law07's Same where they agree. Conditions: up to three places of up to 1,000 bytes; texts that fit; the library's handle is as it was laid.
-/
namespace Go.Proofs.YtmgfcjpifkoahaaGreatDoor
open Go.RowKit
end Go.Proofs.YtmgfcjpifkoahaaGreatDoor

/-
  The contracts of law07's Few, awake and Same (of equal messages). Conditions: messages whose slices fit.
-/
namespace Go.Proofs.YtmgfcjpifkoahaaGreatDoor
open Go.RowKit Go.ChangeShapes Go.WideShapes Go.Sort
def FewF (x : Fld) : Prop := x.l.length ≤ 20 ∧ x.s.length ≤ 2000 ∧ ∀ y ∈ x.l, y.length ≤ 2000
theorem FewF.sz {x : Fld} (h : FewF x) : SzF x := ⟨by have := h.2.1; omega, by have := h.1; omega, fun y hy => by have := h.2.2 y hy; omega⟩
theorem FewF.fit {x : Fld} (h : FewF x) : fitF x := ⟨by have := h.2.1; omega, fun y hy => by have := h.2.2 y hy; omega⟩
def FewP (l : List Fld) (w : World) (e : Ending) (w' : World) : Prop := ∃ b, e = .returned (.bool b) ∧ Below w.heap.size w w' ∧ (b = true → l.length ≤ 20 ∧ ∀ x ∈ l, FewF x)
theorem FewP.no {l : List Fld} {w w' : World} (h : Below w.heap.size w w') : FewP l w (.returned (.bool false)) w' := ⟨false, rfl, h, fun h => by cases h⟩
end Go.Proofs.YtmgfcjpifkoahaaGreatDoor
namespace Go.Proofs.YtmgfcjpifkoahaaGreatDoor
open Go.RowKit Go.ChangeShapes Go.WideShapes Go.Sort
def letsL : List UInt8 := [98, 115, 117, 109, 110, 99, 116, 101]
def isLet (k : Nat) : Bool := letsL.any fun c => decide (k = c.toNat)
theorem has_let : ∀ k : Nat, k < 256 → Lib.contains [98, 117, 115, 109, 110, 99, 116, 101] (Utf8.encode (k : Int)).data.toList = isLet k := by decide +kernel
def valF (x : Fld) : List UInt8 × Bool := if isLet x.k = true ∧ (rputF x).1 = 0 then ((rputF x).2, true) else ([], false)
def ValP (x : Fld) (w : World) (e : Ending) (w' : World) : Prop := e = .returned (.tuple #[.string (bs (valF x).1), .bool (valF x).2]) ∧ Below w.heap.size w w'
theorem valP_no {x : Fld} {w w' : World} (h : ¬ (isLet x.k = true ∧ (rputF x).1 = 0)) (hb : Below w.heap.size w w') : ValP x w (.returned (.tuple #[.string ⟨#[]⟩, .bool false])) w' := by
 unfold ValP valF
 rw [if_neg h]
 exact ⟨rfl, hb⟩
theorem valP_yes {x : Fld} {w w' : World} {b : List UInt8} (h : isLet x.k = true) (h2 : rputF x = (0, b)) (hb : Below w.heap.size w w') : ValP x w (.returned (.tuple #[.string (bs b), .bool true])) w' := by
 unfold ValP valF
 rw [h2, if_pos ⟨h, rfl⟩]
 exact ⟨rfl, hb⟩
theorem putF_no {x : Fld} (h : ¬ (putF x).1 = 0) : (putF x).2 = [] := by
 unfold putF at h ⊢
 split
 ·rename_i c1
  rw [if_pos c1] at h
  split
  ·rename_i c2
   rw [if_pos c2] at h
   exact absurd rfl h
  ·rename_i c2
   rw [if_neg c2] at h
   split
   ·rename_i c3
    rw [if_pos c3] at h
    exact absurd rfl h
   ·rfl
 ·rename_i c1
  rw [if_neg c1] at h
  split
  ·rename_i c2
   rw [if_pos c2] at h
   split
   ·rename_i c3
    rw [if_pos c3] at h
    exact absurd rfl h
   ·rfl
  ·rename_i c2
   rw [if_neg c2] at h
   split
   ·rename_i c3
    rw [if_pos c3] at h
    split
    ·rfl
    ·rename_i c4
     rw [if_neg c4] at h
     exact absurd rfl h
   ·rename_i c3
    rw [if_neg c3] at h
    split
    ·rename_i c4
     rw [if_pos c4] at h
     split
     ·rename_i c5
      rw [if_pos c5] at h
      exact absurd rfl h
     ·rfl
    ·rename_i c4
     rw [if_neg c4] at h
     split
     ·rename_i c5
      rw [if_pos c5] at h
      split
      ·rename_i c6
       rw [if_pos c6] at h
       exact absurd rfl h
      ·rfl
     ·rename_i c5
      rw [if_neg c5] at h
      split
      ·rename_i c6
       rw [if_pos c6] at h
       split
       ·rfl
       ·rename_i c7
        rw [if_neg c7] at h
        split
        ·rfl
        ·rename_i c8
         rw [if_neg c8] at h
         exact absurd rfl h
      ·rename_i c6
       rw [if_neg c6] at h
       exact absurd rfl h
section
variable {w : World}
set_option maxHeartbeats 4000000 in
set_option maxRecDepth 100000 in
theorem value07_any (hM : MaxL w) (x : Fld) (hx : SzF x) (hk : x.k < 256) {A : Option Addr} {c : Nat} (ht : Txs w (.slice A x.l.length c) x.l) (hc : x.l.length ≤ c) : Calls Tryz.prog 54 #[fldV x (.slice A x.l.length c)] w (ValP x w) := by
 obtain ⟨W0, hW0⟩ : ∃ W0, W0 = w.alloc (.cells #[.int .u8 x.k, .int .i64 x.n, .string (bs x.s), .slice A x.l.length c] 67) := ⟨_, rfl⟩
 have hb0 : Below w.heap.size w W0 := by rw [hW0]; exact bel_by
 have hB0 : Blk W0 w.heap.size 67 #[.int .u8 x.k, .int .i64 x.n, .string (bs x.s), .slice A x.l.length c] := by rw [hW0]; exact Blk.new w _ _
 have y0 := hB0.cell 0
 have y1 := hB0.cell 1
 have y2 := hB0.cell 2
 have y3 := hB0.cell 3
 simp at y0 y1 y2 y3
 have HPl := hide (fun W => plain_any x (A := A) (c := c) W)
 have HPu := hide (fun (W : World) (hb : Below w.heap.size w W) => mput_any (w := W) x hx (ht.below hb) hc)
 have HX := hide (And.intro hb0 hB0)
 obtain ⟨m, hm⟩ := hM.below hb0
 have HC := hide (Tryz.strings_Contains ⟨#[98, 117, 115, 109, 110, 99, 116, 101]⟩ (Utf8.encode (x.k : Int)) m W0 (by decide) hm)
 have hhas := has_let x.k hk
 clear hb0 hB0 ht hM hm
 unfold fldV at HPl HPu ⊢
 by_cases h0 : x.k = 0
 ·have hz : ((x.k : Int) == 0) = true := by rw [h0]; rfl
  have HN := hide (show ¬ (isLet x.k = true ∧ (rputF x).1 = 0) from fun h => by rw [h0] at h; exact absurd h.1 (by decide))
  clear HC HPl HPu hhas h0
  go_enter Tryz.func54, Tryz.ntmps54
  go_upto_region 1 with fail
  rw [← hW0]
  clear hW0
  go_wp2_with fail
  go_ret2
  exact valP_no HN.out HX.out.1
 ·have hz : ((x.k : Int) == 0) = false := by rw [beq_eq_false_iff_ne]; omega
  change Calls _ _ _ _ (fun e w' => e = .returned (.bool (Lib.contains [98, 117, 115, 109, 110, 99, 116, 101] (Utf8.encode (x.k : Int)).data.toList)) ∧ w' = W0) at HC
  rw [hhas] at HC
  replace HC := hide HC
  cases hL : isLet x.k with
  | false =>
   rw [hL] at HC
   have HN := hide (show ¬ (isLet x.k = true ∧ (rputF x).1 = 0) from fun h => by rw [hL] at h; cases h.1)
   clear HPl HPu hhas h0 hL
   go_enter Tryz.func54, Tryz.ntmps54
   go_upto_region 1 with fail
   rw [← hW0]
   clear hW0
   go_wp2_with (first | (go_at_call 115; refine HC.out.mono ?_; rintro e w1 ⟨rfl, rfl⟩) | fail)
   go_ret2
   exact valP_no HN.out HX.out.1
  | true =>
   rw [hL] at HC
   have HLet := hide hL
   cases hp : plainF x with
   | false =>
    rw [hp] at HPl
    have HN := hide (show ¬ (isLet x.k = true ∧ (rputF x).1 = 0) from fun h => by have := h.2; unfold rputF at this; rw [hp] at this; cases this)
    clear HPu hhas h0 hL hp
    go_enter Tryz.func54, Tryz.ntmps54
    go_upto_region 1 with fail
    rw [← hW0]
    clear hW0
    go_wp2_with (first
     | (go_at_call 115; refine HC.out.mono ?_; rintro e w1 ⟨rfl, rfl⟩)
     | (go_at_call 116; refine (HPl.out _).mono ?_; rintro e w4 ⟨rfl, hb4⟩)
     | fail)
    go_ret2
    exact valP_no HN.out (HX.out.1.trans (hb4.mono HX.out.1.size))
   | true =>
    rw [hp] at HPl
    have hr : rputF x = putF x := by unfold rputF; rw [hp]; rfl
    unfold PutP at HPu
    by_cases he : (putF x).1 = 0
    ·have HY := hide (show rputF x = (0, (putF x).2) from by rw [hr, ← he])
     rw [he] at HPu
     clear hhas h0 hL hp he hr
     generalize (putF x).2 = bb at HPu HY
     go_enter Tryz.func54, Tryz.ntmps54
     go_upto_region 1 with fail
     rw [← hW0]
     clear hW0
     go_wp2_with (first
      | (go_at_call 115; refine HC.out.mono ?_; rintro e w1 ⟨rfl, rfl⟩)
      | (go_at_call 116; refine (HPl.out _).mono ?_; rintro e w4 ⟨rfl, hb4⟩; have hB4 := HX.out.2.below hb4 HX.out.2.lt; have z0 := hB4.cell 0; have z1 := hB4.cell 1; have z2 := hB4.cell 2; have z3 := hB4.cell 3; simp at z0 z1 z2 z3)
      | (go_at_call 117; refine (HPu.out _ (HX.out.1.trans (hb4.mono HX.out.1.size))).mono ?_; rintro e w5 ⟨rfl, hb5⟩)
      | fail)
     go_ret2
     exact valP_yes HLet.out HY.out (HX.out.1.trans ((hb4.trans (hb5.mono hb4.size)).mono HX.out.1.size))
    ·have HN := hide (show ¬ (isLet x.k = true ∧ (rputF x).1 = 0) from fun h => he (by rw [← hr]; exact h.2))
     have e1 : (((putF x).1 : Int) == 0) = false := by rw [beq_eq_false_iff_ne]; omega
     rw [putF_no he] at HPu
     clear hhas h0 hL hp he hr
     generalize (putF x).1 = ke at HPu e1
     go_enter Tryz.func54, Tryz.ntmps54
     go_upto_region 1 with fail
     rw [← hW0]
     clear hW0
     go_wp2_with (first
      | (go_at_call 115; refine HC.out.mono ?_; rintro e w1 ⟨rfl, rfl⟩)
      | (go_at_call 116; refine (HPl.out _).mono ?_; rintro e w4 ⟨rfl, hb4⟩; have hB4 := HX.out.2.below hb4 HX.out.2.lt; have z0 := hB4.cell 0; have z1 := hB4.cell 1; have z2 := hB4.cell 2; have z3 := hB4.cell 3; simp at z0 z1 z2 z3)
      | (go_at_call 117; refine (HPu.out _ (HX.out.1.trans (hb4.mono HX.out.1.size))).mono ?_; rintro e w5 ⟨rfl, hb5⟩)
      | fail)
     go_ret2
     exact valP_no HN.out (HX.out.1.trans ((hb4.trans (hb5.mono hb4.size)).mono HX.out.1.size))
def At4 (w : World) (p : Addr) (x : Fld) (lv : Value) : Prop := w.cell? p = some (.int .u8 x.k) ∧ w.cell? ⟨p.block, p.off + 1, none⟩ = some (.int .i64 x.n) ∧ w.cell? ⟨p.block, p.off + 2, none⟩ = some (.string (bs x.s)) ∧ w.cell? ⟨p.block, p.off + 3, none⟩ = some lv
theorem At4.below {w w' : World} {p : Addr} {x : Fld} {lv : Value} (h : At4 w p x lv) (hb : Below w.heap.size w w') : At4 w' p x lv := by
 have hlt := cell_ltO h.1
 exact ⟨(hb.cell hlt).trans h.1, (hb.cell (p := ⟨p.block, p.off + 1, none⟩) hlt).trans h.2.1, (hb.cell (p := ⟨p.block, p.off + 2, none⟩) hlt).trans h.2.2.1, (hb.cell (p := ⟨p.block, p.off + 3, none⟩) hlt).trans h.2.2.2⟩
end
end Go.Proofs.YtmgfcjpifkoahaaGreatDoor
