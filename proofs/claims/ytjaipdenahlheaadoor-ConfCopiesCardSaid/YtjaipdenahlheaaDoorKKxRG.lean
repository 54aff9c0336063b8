/-
  Several of my texts in one: Kx3, KxR, Kx8, Kx5.
-/
import Derived.Test.YtjaipdenahlheaaDoorKKxPG
import Derived.Test.YtjaipdenahlheaaDoorKChn
import Derived.Test.YtjaipdenahlheaaDoorKReadW
import Derived.Test.YtjaipdenahlheaaDoorKReX
import Derived.Test.YtjaipdenahlheaaDoorKPrfG
import Derived.Test.YtjaipdenahlheaaDoorKOrdE
set_option linter.unusedVariables false
set_option linter.unusedSimpArgs false
/-
  The contract of kexinit's marks: the marks that are said, in order. Conditions: none.
-/
namespace Go.Proofs.YtjaipdenahlheaaDoor
open Go.RowKit Go.ChangeShapes Go.WideShapes Go.Sort
/-- The marks ahead of place i. -/
def preM (a b c d : Bool) : Nat → List (List UInt8)
  | 0 => []
  | 1 => oneM a mark0
  | 2 => oneM a mark0 ++ oneM b mark1
  | 3 => (oneM a mark0 ++ oneM b mark1) ++ oneM c mark2
  | _ => ((oneM a mark0 ++ oneM b mark1) ++ oneM c mark2) ++ oneM d mark3
/-- The state of marks' loop. -/
structure MarkI (w : World) (bb : Nat) (a b c d : Bool) (i : Nat) (A : Option Addr) (n cp : Nat) (wr : World) : Prop where
  bel : Below w.heap.size w wr
  fl : Blk wr bb 4 #[.bool a, .bool b, .bool c, .bool d]
  len : n = (preM a b c d i).length
  own : wr.ownsRow (bb + 1) 9 1 (.slice A n cp) n (((preM a b c d i).map bs).map Value.string)
end Go.Proofs.YtjaipdenahlheaaDoor

/-
  The plain law of kexinit's Build and Parse, and of the reference's rebuilding. Conditions: texts that fit.
-/
namespace Go.Proofs.YtjaipdenahlheaaDoor
/-- What a peer says, as lists of bytes. -/
structure KexI where
  ck : List UInt8
  kex : List (List UInt8)
  more : List (List (List UInt8))
  a : Bool
  b : Bool
  c : Bool
  d : Bool
  fo : Bool
end Go.Proofs.YtjaipdenahlheaaDoor

/-
  What kexinit's Build has in memory while it makes the message. Conditions: none; each is a plain lemma.
-/
namespace Go.Proofs.YtjaipdenahlheaaDoor
open Go.RowKit Go.ChangeShapes Go.WideShapes Go.Sort
/-- Lists in slices that have room for them. -/
def AllC (w : World) (vs : List Value) (ls : List (List (List UInt8))) : Prop := vs.length = ls.length ∧ ∀ (i : Nat) v l, vs[i]? = some v → ls[i]? = some l → Txc w v l ∧ l.length ≤ 1000000
theorem AllC.below {w w' : World} {vs : List Value} {ls : List (List (List UInt8))} (h : AllC w vs ls) (hb : Below w.heap.size w w') : AllC w' vs ls :=
  ⟨h.1, fun i v l h1 h2 => ⟨(h.2 i v l h1 h2).1.below hb, (h.2 i v l h1 h2).2⟩⟩
theorem Inn.setSl {lo : Nat} {v : Value} {w : World} {lv : Value} {ls : List (List UInt8)} (h : Inn lo v w lv ls) {p : Addr} {A : Option Addr} {n c : Nat} (hp : w.cell? p = some (.slice A n c)) (u : Value) : Inn lo v (w.setCell p u) lv ls := by
  obtain ⟨B, d, rfl, hc, hS, hn⟩ := h
  obtain ⟨B', d', e, _, hS'⟩ := NewC.setSl (lo := lo) (ls := ls) ⟨B, d, rfl, hc, hS⟩ hp u
  obtain rfl : B = B' := by injection e
  exact ⟨B, d, rfl, hc, hS', hn⟩
/-- Rows of slices that lie in a block's first cells. -/
def Tn (w : World) (h : Nat) (vs : List Value) : Prop := ∃ cur : Array Value, Blk w h 22 cur ∧ ∀ (i : Nat) v, vs[i]? = some v → cur[i]? = some v
theorem Tn.at_ {w : World} {h : Nat} {vs : List Value} (t : Tn w h vs) {i : Nat} {v : Value} (hi : vs[i]? = some v) : w.cell? ⟨h, i, none⟩ = some v := by
  obtain ⟨cur, hb, hc⟩ := t
  rw [hb.cell i, hc i v hi]
end Go.Proofs.YtjaipdenahlheaaDoor

/-
  The contract of the reference's Build of kexinit, from the contract of its Msg. Conditions: texts and lists that fit.
-/
namespace Go.Proofs.YtjaipdenahlheaaDoor
open Go.RowKit Go.ChangeShapes Go.WideShapes Go.Sort
end Go.Proofs.YtjaipdenahlheaaDoor
