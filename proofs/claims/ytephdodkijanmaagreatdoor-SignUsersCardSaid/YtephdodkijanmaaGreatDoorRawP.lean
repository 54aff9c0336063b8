/-
  The laws' arguments: makes, and raw parts. Conditions: none.
-/
import Derived.Test.YtephdodkijanmaaGreatDoorMakesA
import Derived.Test.YtephdodkijanmaaGreatDoorPureA
import Derived.Test.YtephdodkijanmaaGreatDoorOpen
set_option linter.unusedVariables false
set_option linter.unusedSimpArgs false
namespace Go.Proofs.YtephdodkijanmaaGreatDoor
open Go.ChangeShapes Go.WideShapes Go.ChangeAt Go.RowKit

def mkS : List Shp := [.i .i64, .i .i64, .i .i64, .i .i64, .s]
/-- Numbers of a make that fit. -/
structure MkFit (x : Mk) : Prop where
  a : (Lit.int .i64 x.a).wf = true
  b : (Lit.int .i64 x.b).wf = true
  c : (Lit.int .i64 x.c).wf = true
theorem open_makes {w : World} {v : Value} (h : Shp.ok w (.sl mkS) v) : ∃ A c, ∃ l : List Mk, v = .slice A l.length c ∧ l.length ≤ maxLen ∧ Mks w.heap.size w A l := by
  obtain ⟨A, c, xs, rfl, h1, h2, h⟩ := rows_of (α := Mk) (fun a us => us = mkC a) h (fun us ho => by
    match us, ho with
    | [u1, u2, u3, u4, u5], ho =>
      simp only [mkS, Shp.oks, Shp.ok, and_true] at ho
      obtain ⟨⟨a, rfl, _⟩, ⟨b, rfl, _⟩, ⟨c, rfl, _⟩, ⟨d, rfl, _⟩, ⟨s, rfl, _⟩⟩ := ho
      exact ⟨⟨a, b, c, d, s⟩, rfl⟩
    | [], ho => simp [mkS, Shp.oks] at ho
    | [_], ho => simp [mkS, Shp.oks] at ho
    | [_, _], ho => simp [mkS, Shp.oks] at ho
    | [_, _, _], ho => simp [mkS, Shp.oks] at ho
    | [_, _, _, _], ho => simp [mkS, Shp.oks] at ho
    | _ :: _ :: _ :: _ :: _ :: _ :: _, ho => simp [mkS, Shp.oks] at ho)
  refine ⟨A, c, xs, rfl, by omega, ⟨fun i x hx => ?_⟩⟩
  have hi := (List.getElem?_eq_some_iff.1 hx).1
  obtain ⟨ad, us, e, hc, hu⟩ := h i hi
  have hxi : xs[i] = x := by
    rw [List.getElem?_eq_getElem hi] at hx
    exact Option.some.inj hx
  subst hu
  rw [hxi] at hc
  have k0 := hc 0 _ rfl
  have k1 := hc 1 _ rfl
  have k2 := hc 2 _ rfl
  have k3 := hc 3 _ rfl
  have k4 := hc 4 _ rfl
  have hb := cell_ltO k0
  rw [block_of_add] at hb
  refine ⟨ad, e, hb, hb, ?_, ?_, ?_, ?_, ?_⟩ <;> first | (rw [add_of_add]; assumption) | exact k0
/-- Raw parts. -/
structure RawP where
  v0 : ByteArray
  v1 : ByteArray
  v2 : ByteArray
  v3 : ByteArray
  t0 : Int
  t1 : Int
  t2 : Int
  t3 : Int
  asks : Bool
  w0 : Nat
  w1 : Nat
  w2 : Nat
  gp : ByteArray
  gg : ByteArray
def rawV (x : RawP) : Value :=
  .agg #[.string x.v0, .string x.v1, .string x.v2, .string x.v3, .int .i64 x.t0, .int .i64 x.t1, .int .i64 x.t2, .int .i64 x.t3, .bool x.asks, .int .u32 x.w0, .int .u32 x.w1, .int .u32 x.w2, .string x.gp, .string x.gg]
structure RawFit (x : RawP) : Prop where
  v0 : x.v0.size ≤ maxLen
  v1 : x.v1.size ≤ maxLen
  v2 : x.v2.size ≤ maxLen
  v3 : x.v3.size ≤ maxLen
  w0 : x.w0 < 4294967296
  w1 : x.w1 < 4294967296
  w2 : x.w2 < 4294967296
  gp : x.gp.size ≤ maxLen
  gg : x.gg.size ≤ maxLen
def rawS : List Shp := [.s, .s, .s, .s, .i .i64, .i .i64, .i .i64, .i .i64, .b, .i .u32, .i .u32, .i .u32, .s, .s]
theorem wf_u32 {n : Int} (h : (Lit.int .u32 n).wf = true) : ∃ k : Nat, n = k ∧ k < 4294967296 := by
  simp [Lit.wf, IntKind.min, IntKind.max, IntKind.signed, IntKind.bits] at h
  exact ⟨n.toNat, by omega, by omega⟩
theorem open_rawS {w : World} {us : List Value} (ho : Shp.oks w rawS us) : ∃ x, RawFit x ∧ Value.agg us.toArray = rawV x := by
  have hl := oks_len ho
  match us, hl, ho with
  | [u1, u2, u3, u4, u5, u6, u7, u8, u9, u10, u11, u12, u13, u14], _, ho =>
    simp only [rawS, Shp.oks, Shp.ok, and_true] at ho
    obtain ⟨⟨a1, rfl, f1⟩, ⟨a2, rfl, f2⟩, ⟨a3, rfl, f3⟩, ⟨a4, rfl, f4⟩, ⟨a5, rfl, _⟩, ⟨a6, rfl, _⟩, ⟨a7, rfl, _⟩, ⟨a8, rfl, _⟩, ⟨a9, rfl⟩, ⟨a10, rfl, g1⟩, ⟨a11, rfl, g2⟩, ⟨a12, rfl, g3⟩, ⟨a13, rfl, f5⟩, ⟨a14, rfl, f6⟩⟩ := ho
    obtain ⟨k1, rfl, h1⟩ := wf_u32 g1
    obtain ⟨k2, rfl, h2⟩ := wf_u32 g2
    obtain ⟨k3, rfl, h3⟩ := wf_u32 g3
    exact ⟨⟨a1, a2, a3, a4, a5, a6, a7, a8, a9, k1, k2, k3, a13, a14⟩, ⟨f1, f2, f3, f4, h1, h2, h3, f5, f6⟩, rfl⟩
/-- What few answers. -/
def fewR (x : RawP) : Bool := decide (x.v0.size ≤ 300) && decide (x.v1.size ≤ 300) && decide (x.v2.size ≤ 300) && decide (x.v3.size ≤ 300) && decide (x.gp.size ≤ 300) && decide (x.gg.size ≤ 300)
theorem fewR_iff {x : RawP} : fewR x = true ↔ x.v0.size ≤ 300 ∧ x.v1.size ≤ 300 ∧ x.v2.size ≤ 300 ∧ x.v3.size ≤ 300 ∧ x.gp.size ≤ 300 ∧ x.gg.size ≤ 300 := by
  unfold fewR
  simp [and_assoc]
/-- Parts out of raw ones. -/
def partsR (ms : List (Option Tm)) (x : RawP) : PartsP := ⟨x.v0, x.v1, x.v2, x.v3, pickO ms x.t0, pickO ms x.t1, pickO ms x.t2, pickO ms x.t3, x.asks, x.w0, x.w1, x.w2, x.gp, x.gg⟩
end Go.Proofs.YtephdodkijanmaaGreatDoor
