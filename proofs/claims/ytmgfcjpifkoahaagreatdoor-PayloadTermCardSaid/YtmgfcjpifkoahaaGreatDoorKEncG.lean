/-
  Several of my texts in one: SchemaW, EncM, Wrg, LawM.
-/
import Derived.Test.YtmgfcjpifkoahaaGreatDoorKMsgG
import Derived.Test.YtmgfcjpifkoahaaGreatDoorKPutNG
import Derived.Test.YtmgfcjpifkoahaaGreatDoorKChn
import Derived.Lib.OthersKept
import Derived.WalkSmall
set_option linter.unusedVariables false
set_option linter.unusedSimpArgs false
/-
  The contracts of the other functions of package schema: Known, Word, Num, Class. Conditions: none.
-/
namespace Go.Proofs.YtmgfcjpifkoahaaGreatDoor
open Go.RowKit

def letw (n : Int) : ByteArray :=
 if n = 50 then ⟨#[117, 115, 101, 114, 97, 117, 116, 104, 45, 114, 101, 113, 117, 101, 115, 116]⟩ else if n = 51 then ⟨#[117, 115, 101, 114, 97, 117, 116, 104, 45, 102, 97, 105, 108, 117, 114, 101]⟩ else if n = 52 then ⟨#[117, 115, 101, 114, 97, 117, 116, 104, 45, 115, 117, 99, 99, 101, 115, 115]⟩ else if n = 53 then ⟨#[117, 115, 101, 114, 97, 117, 116, 104, 45, 98, 97, 110, 110, 101, 114]⟩ else if n = 60 then ⟨#[117, 115, 101, 114, 97, 117, 116, 104, 45, 112, 107, 45, 111, 107]⟩ else ⟨#[]⟩
def word (n : Int) : ByteArray :=
 if n = 1 then ⟨#[100, 105, 115, 99, 111, 110, 110, 101, 99, 116]⟩ else if n = 2 then ⟨#[105, 103, 110, 111, 114, 101]⟩ else if n = 3 then ⟨#[117, 110, 105, 109, 112, 108, 101, 109, 101, 110, 116, 101, 100]⟩ else if n = 4 then ⟨#[100, 101, 98, 117, 103]⟩ else if n = 5 then ⟨#[115, 101, 114, 118, 105, 99, 101, 45, 114, 101, 113, 117, 101, 115, 116]⟩ else if n = 6 then ⟨#[115, 101, 114, 118, 105, 99, 101, 45, 97, 99, 99, 101, 112, 116]⟩ else if n = 7 then ⟨#[101, 120, 116, 45, 105, 110, 102, 111]⟩ else if n = 20 then ⟨#[107, 101, 120, 105, 110, 105, 116]⟩ else if n = 21 then ⟨#[110, 101, 119, 107, 101, 121, 115]⟩ else if n = 30 then ⟨#[101, 99, 100, 104, 45, 105, 110, 105, 116]⟩ else if n = 31 then ⟨#[114, 101, 112, 108, 121, 45, 111, 114, 45, 103, 114, 111, 117, 112]⟩ else if n = 32 then ⟨#[103, 101, 120, 45, 105, 110, 105, 116]⟩ else if n = 33 then ⟨#[103, 101, 120, 45, 114, 101, 112, 108, 121]⟩ else if n = 34 then ⟨#[103, 101, 120, 45, 114, 101, 113, 117, 101, 115, 116]⟩ else letw n
set_option maxHeartbeats 400000 in
theorem letw_any (n : Int) (w : World) : Calls Tryz.prog 114 #[.int .i64 n] w fun e w' => e = .returned (.string (letw n)) ∧ w = w' := by
 go_enter Tryz.func114, Tryz.ntmps114
 go_wp2
 all_goals (go_ret; refine ⟨?_, rfl⟩; simp_all [letw])
set_option maxHeartbeats 1000000 in
theorem word_any (n : Int) (w : World) : Calls Tryz.prog 53 #[.int .i64 n] w fun e w' => e = .returned (.string (word n)) ∧ w = w' := by
 go_enter Tryz.func53, Tryz.ntmps53
 go_wp2_with (go_at_call 114; refine (letw_any _ _).mono ?_; rintro e w' ⟨rfl, rfl⟩)
 all_goals (go_ret; refine ⟨?_, rfl⟩; simp_all [word])
def known (n : Int) : Bool := !(forms n).isEmpty
theorem known_any (n : Int) (w : World) : Calls Tryz.prog 49 #[.int .i64 n] w fun e w' => e = .returned (.bool (known n)) ∧ Below w.heap.size w w' := by
 have hl := forms_len n
 go_enter Tryz.func49, Tryz.ntmps49
 go_wp2_with (go_at_call 50; refine (forms_any _ _).mono ?_; rintro e w1 ⟨v, rfl, ⟨A, c, rfl, hr⟩, hb⟩)
 go_ret
 refine ⟨ret_bool ?_, hb⟩
 unfold known
 cases forms n <;> simp
def num (s : ByteArray) : Int × Bool := match ((List.range 60).map (fun i => ((i + 1 : Nat) : Int))).find? (fun n => word n != ⟨#[]⟩ && word n == s) with | some n => (n, true) | none => (0, false)
end Go.Proofs.YtmgfcjpifkoahaaGreatDoor

/-
  The contract of package msg's Encode. Conditions: texts and lists that fit.
-/
namespace Go.Proofs.YtmgfcjpifkoahaaGreatDoor
open Go.RowKit Go.ChangeShapes Go.WideShapes Go.Sort
def msgB : List UInt8 := [109, 101, 115, 115, 97, 103, 101]
theorem form_ascii {n : Int} {f : ByteArray} (h : f ∈ forms n) : f.size ≤ 13 ∧ ∀ c ∈ f.data.toList, c.toNat < 128 := by
 have key : ∀ g ∈ forms n, g.size ≤ 13 ∧ ∀ c ∈ g.data.toList, c.toNat < 128 := by
  unfold forms
  repeat' refine ite_ok (P := fun l : List ByteArray => ∀ g ∈ l, g.size ≤ 13 ∧ ∀ c ∈ g.data.toList, c.toNat < 128) ?_ ?_
  all_goals decide
 exact key f h
section
variable {w : World}
structure EncI (w : World) (num : Int) (l : List Fld) (A : Option Addr) (c : Nat) (f : ByteArray) (B i : Nat) (out : List UInt8) (wr : World) : Prop where
 bel : Below w.heap.size w wr
 it : wr.heap[B]? = some (.stringIter f i)
 box : Blk wr w.heap.size 60 #[.int .i64 num, .slice A l.length c]
 go : encGo (f.data.toList.drop i) (l.drop i) i out = encS num l
 len : out.length ≤ 32768
end
end Go.Proofs.YtmgfcjpifkoahaaGreatDoor

/-
  The contracts of law07's Wrong and of law04's and law07's Same where they agree. Conditions: up to three places of up to 1,000 bytes; texts that fit; the library's handle is as it was laid.
-/
namespace Go.Proofs.YtmgfcjpifkoahaaGreatDoor
open Go.RowKit
def atL (ps : List (List UInt8)) : List UInt8 := (ps.map (· ++ [32])).flatten
end Go.Proofs.YtmgfcjpifkoahaaGreatDoor

/-
  The contracts of law07's Few, awake and Same (of equal messages). Conditions: messages whose slices fit.
-/
namespace Go.Proofs.YtmgfcjpifkoahaaGreatDoor
open Go.RowKit Go.ChangeShapes Go.WideShapes Go.Sort
def FewF (x : Fld) : Prop := x.l.length ≤ 20 ∧ x.s.length ≤ 2000 ∧ ∀ y ∈ x.l, y.length ≤ 2000
theorem FewF.sz {x : Fld} (h : FewF x) : SzF x := ⟨by have := h.2.1; omega, by have := h.1; omega, fun y hy => by have := h.2.2 y hy; omega⟩
theorem FewF.fit {x : Fld} (h : FewF x) : fitF x := ⟨by have := h.2.1; omega, fun y hy => by have := h.2.2 y hy; omega⟩
def FewP (l : List Fld) (w : World) (e : Ending) (w' : World) : Prop := ∃ b, e = .returned (.bool b) ∧ Below w.heap.size w w' ∧ (b = true → l.length ≤ 20 ∧ ∀ x ∈ l, FewF x)
theorem FewP.no {l : List Fld} {w w' : World} (h : Below w.heap.size w w') : FewP l w (.returned (.bool false)) w' := ⟨false, rfl, h, fun h => by cases h⟩
end Go.Proofs.YtmgfcjpifkoahaaGreatDoor
