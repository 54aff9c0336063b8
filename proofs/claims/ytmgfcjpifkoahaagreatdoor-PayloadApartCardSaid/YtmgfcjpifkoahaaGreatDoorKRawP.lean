/-
  The laws' arguments: makes, and raw parts. Conditions: none.
-/
import Derived.Test.YtmgfcjpifkoahaaGreatDoorKMakesA
import Derived.Test.YtmgfcjpifkoahaaGreatDoorKPureA
import Derived.Test.YtmgfcjpifkoahaaGreatDoorKMsgG
set_option linter.unusedVariables false
set_option linter.unusedSimpArgs false
namespace Go.Proofs.YtmgfcjpifkoahaaGreatDoor
open Go.ChangeShapes Go.WideShapes Go.ChangeAt Go.RowKit

def mkS : List Shp := [.i .i64, .i .i64, .i .i64, .i .i64, .s]
structure MkFit (x : Mk) : Prop where
 a : (Lit.int .i64 x.a).wf = true
 b : (Lit.int .i64 x.b).wf = true
 c : (Lit.int .i64 x.c).wf = true
theorem open_makes {w : World} {v : Value} (h : Shp.ok w (.sl mkS) v) : ∃ A c, ∃ l : List Mk, v = .slice A l.length c ∧ l.length ≤ maxLen ∧ Mks w.heap.size w A l := by
 obtain ⟨A, c, xs, rfl, h1, h2, h⟩ := rows_of (α := Mk) (fun a us => us = mkC a) h (fun us ho => by
  match us, ho with
  | [u1, u2, u3, u4, u5], ho =>
   simp only [mkS, Shp.oks, Shp.ok, and_true] at ho
   obtain ⟨⟨a, rfl, _⟩, ⟨b, rfl, _⟩, ⟨c, rfl, _⟩, ⟨d, rfl, _⟩, ⟨s, rfl, _⟩⟩ := ho
   exact ⟨⟨a, b, c, d, s⟩, rfl⟩
  | [], ho => simp [mkS, Shp.oks] at ho
  | [_], ho => simp [mkS, Shp.oks] at ho
  | [_, _], ho => simp [mkS, Shp.oks] at ho
  | [_, _, _], ho => simp [mkS, Shp.oks] at ho
  | [_, _, _, _], ho => simp [mkS, Shp.oks] at ho
  | _ :: _ :: _ :: _ :: _ :: _ :: _, ho => simp [mkS, Shp.oks] at ho)
 refine ⟨A, c, xs, rfl, by omega, ⟨fun i x hx => ?_⟩⟩
 have hi := (List.getElem?_eq_some_iff.1 hx).1
 obtain ⟨ad, us, e, hc, hu⟩ := h i hi
 have hxi : xs[i] = x := by
  rw [List.getElem?_eq_getElem hi] at hx
  exact Option.some.inj hx
 subst hu
 rw [hxi] at hc
 have k0 := hc 0 _ rfl
 have k1 := hc 1 _ rfl
 have k2 := hc 2 _ rfl
 have k3 := hc 3 _ rfl
 have k4 := hc 4 _ rfl
 have hb := cell_ltO k0
 rw [block_of_add] at hb
 refine ⟨ad, e, hb, hb, ?_, ?_, ?_, ?_, ?_⟩ <;> first | (rw [add_of_add]; assumption) | exact k0
structure RawP where
 v0 : ByteArray
 v1 : ByteArray
 v2 : ByteArray
 v3 : ByteArray
 t0 : Int
 t1 : Int
 t2 : Int
 t3 : Int
 asks : Bool
 w0 : Nat
 w1 : Nat
 w2 : Nat
 gp : ByteArray
 gg : ByteArray
structure RawFit (x : RawP) : Prop where
 v0 : x.v0.size ≤ maxLen
 v1 : x.v1.size ≤ maxLen
 v2 : x.v2.size ≤ maxLen
 v3 : x.v3.size ≤ maxLen
 w0 : x.w0 < 4294967296
 w1 : x.w1 < 4294967296
 w2 : x.w2 < 4294967296
 gp : x.gp.size ≤ maxLen
 gg : x.gg.size ≤ maxLen
end Go.Proofs.YtmgfcjpifkoahaaGreatDoor
