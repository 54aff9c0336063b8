/-
  Several of my texts in one: RSp, RGetX.
-/
import Derived.Test.YtmgfcjpifkoahaaGreatDoorKGetX
import Derived.Test.YtmgfcjpifkoahaaGreatDoorKPutNG
import Derived.Test.YtmgfcjpifkoahaaGreatDoorKRRdG
import Derived.Test.YtmgfcjpifkoahaaGreatDoorKOrdE
set_option linter.unusedVariables false
set_option linter.unusedSimpArgs false
namespace Go.Proofs.YtmgfcjpifkoahaaGreatDoor
open Go.RowKit Go.ChangeShapes Go.WideShapes Go.Sort
structure PartI (w : World) (S : List UInt8) (fr i : Nat) (A : Option Addr) (n c : Nat) (wr : World) : Prop where
 bel : Below w.heap.size w wr
 st : ∃ ls : List (List UInt8), ls.length = n ∧ wr.ownsRow w.heap.size 9 1 (.slice A n c) n ((ls.map bs).map Value.string) ∧ n ≤ i ∧
  (i ≤ S.length → fr ≤ i ∧ splitC S = ls ++ splitC (S.drop fr) ∧ ∀ c ∈ (S.drop fr).take (i - fr), c ≠ 44) ∧ (S.length < i → splitC S = ls)
end Go.Proofs.YtmgfcjpifkoahaaGreatDoor
namespace Go.Proofs.YtmgfcjpifkoahaaGreatDoor
open Go.RowKit Go.ChangeShapes Go.WideShapes Go.Sort
structure ExtI (w : World) (g : Nat) (R : Res (List (List UInt8))) (N j : Nat) (A : Option Addr) (c : Nat) (wr : World) : Prop where
 gb : w.grownBy wr (some g)
 xb : Blk wr (w.heap.size + 1) 67 #[.int .u8 101, .int .i64 0, .string ⟨#[]⟩, .slice A j c]
 rb : Blk wr w.heap.size 67 #[.int .u8 0, .int .i64 0, .string ⟨#[]⟩, .slice none 0 0]
 sz : w.heap.size + 2 ≤ wr.heap.size
 st : ∃ ls : List (List UInt8), ls.length = j ∧ wr.ownsRow (w.heap.size + 2) 9 1 (.slice A j c) j ((ls.map bs).map Value.string) ∧
  ((∃ r', Rd3 wr g r' 0 ∧ r'.length ≤ 1000000 ∧ R = (gTexts (N - j) r').map (ls ++ ·)) ∨ (∃ r', ∃ x : Nat, Rd3 wr g r' x ∧ x ≠ 0 ∧ R = .no x))
end Go.Proofs.YtmgfcjpifkoahaaGreatDoor
