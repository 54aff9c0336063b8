/-
  The laws' arguments: makes, and raw parts. Conditions: none.
-/
import Derived.Test.YtmgfcjpifkoahaaGreatDoorKFrG
import Derived.Test.YtmgfcjpifkoahaaGreatDoorKPureA
import Derived.Test.YtmgfcjpifkoahaaGreatDoorKMsgG
set_option linter.unusedVariables false
set_option linter.unusedSimpArgs false
namespace Go.Proofs.YtmgfcjpifkoahaaGreatDoor
open Go.ChangeShapes Go.WideShapes Go.ChangeAt Go.RowKit

structure MkFit (x : Mk) : Prop where
 a : (Lit.int .i64 x.a).wf = true
 b : (Lit.int .i64 x.b).wf = true
 c : (Lit.int .i64 x.c).wf = true
structure RawP where
 v0 : ByteArray
 v1 : ByteArray
 v2 : ByteArray
 v3 : ByteArray
 t0 : Int
 t1 : Int
 t2 : Int
 t3 : Int
 asks : Bool
 w0 : Nat
 w1 : Nat
 w2 : Nat
 gp : ByteArray
 gg : ByteArray
structure RawFit (x : RawP) : Prop where
 v0 : x.v0.size ≤ maxLen
 v1 : x.v1.size ≤ maxLen
 v2 : x.v2.size ≤ maxLen
 v3 : x.v3.size ≤ maxLen
 w0 : x.w0 < 4294967296
 w1 : x.w1 < 4294967296
 w2 : x.w2 < 4294967296
 gp : x.gp.size ≤ maxLen
 gg : x.gg.size ≤ maxLen
theorem wf_u32 {n : Int} (h : (Lit.int .u32 n).wf = true) : ∃ k : Nat, n = k ∧ k < 4294967296 := by
 simp [Lit.wf, IntKind.min, IntKind.max, IntKind.signed, IntKind.bits] at h
 exact ⟨n.toNat, by omega, by omega⟩
end Go.Proofs.YtmgfcjpifkoahaaGreatDoor
