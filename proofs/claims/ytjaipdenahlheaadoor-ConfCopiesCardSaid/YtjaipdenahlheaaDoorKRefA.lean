/-
  Several of my texts in one: RefT, RefM, RefN, Head, HeadK, HeadL, Parse, Right.
-/
import Derived.Test.YtjaipdenahlheaaDoorKBaseG
import Derived.Test.YtjaipdenahlheaaDoorKPureA
import Derived.Lib.QuietBelow
import Derived.Deep.RegionWith
set_option linter.unusedVariables false
set_option linter.unusedSimpArgs false
/-
  The contracts of the reference for package term: the makers. Conditions: texts of up to maxLen bytes.
-/
namespace Go.Proofs.YtjaipdenahlheaaDoor
open Go.RowKit Go.ChangeShapes Go.WideShapes Go.Sort

/-- A string of these bytes. -/
def bs (l : List UInt8) : ByteArray := ⟨l.toArray⟩
theorem bs_data (l : List UInt8) : (bs l).data.toList = l := rfl
theorem bs_eq {r : ByteArray} {l : List UInt8} (h : r.data.toList = l) : r = bs l := by rw [← h]; rfl
@[go_sem] theorem bs_size (l : List UInt8) : (bs l).size = l.length := rfl
@[go_sem] theorem bs_app (l m : List UInt8) : bs l ++ bs m = bs (l ++ m) := bs_eq (by rw [data_append, bs_data, bs_data])
theorem bs_inj {l m : List UInt8} (h : bs l = bs m) : l = m := by rw [← bs_data l, h, bs_data]
theorem bs_toList (l : List UInt8) : (bs l).toList = l := ByteArray.toList_eq _
attribute [go_sem] q4_len
end Go.Proofs.YtjaipdenahlheaaDoor

/-
  The contracts of the reference for package term: the makers but Exp. Conditions: texts are of moderate length.
-/
namespace Go.Proofs.YtjaipdenahlheaaDoor
open Go.RowKit Go.ChangeShapes Go.WideShapes Go.Sort

/-- Strings that hold these bytes. -/
def Txs (w : World) (v : Value) (ls : List (List UInt8)) : Prop := Strs 0 w v (ls.map bs)
theorem Txs.below {w w' : World} {v : Value} {ls : List (List UInt8)} (h : Txs w v ls) (hb : Below w.heap.size w w') : Txs w' v ls := Strs.below h hb
theorem Txs.open_ {w : World} {v : Value} {ls : List (List UInt8)} (h : Txs w v ls) : ∃ A c, v = .slice A ls.length c ∧ ∀ k, (hk : k < ls.length) → ∃ ad, A = some ad ∧ ad.block < w.heap.size ∧ w.cell? (ad.add k) = some (.string (bs ls[k])) := by
  obtain ⟨A, c, rfl, hs⟩ := h
  refine ⟨A, c, by simp, fun k hk => ?_⟩
  obtain ⟨ad, h1, h2, h3⟩ := hs.str (k := k) (by simpa using hk)
  exact ⟨ad, h1, h2, by simpa using h3⟩
end Go.Proofs.YtjaipdenahlheaaDoor

/-
  The contracts of the reference for package term: Derive and List. Conditions: texts are of moderate length.
-/
namespace Go.Proofs.YtjaipdenahlheaaDoor
open Go.RowKit Go.ChangeShapes Go.WideShapes Go.Sort

@[go_sem] theorem nums_bs (c : Nat) : strOfNums [(c : Int)] = bs [UInt8.ofNat c] := bs_eq (by rw [strOfNums_data]; simp)
end Go.Proofs.YtjaipdenahlheaaDoor

/-
  code's number and text: a number's four bytes, a text behind its length.
-/
namespace Go.Proofs.YtjaipdenahlheaaDoor
open Go.RowKit Go.ChangeShapes Go.WideShapes
end Go.Proofs.YtjaipdenahlheaaDoor

/-
  code's head, kind by kind (2 and 5, whose places draw their order, are not here): a view's leading bytes. Printed alike for each kind.
-/
namespace Go.Proofs.YtjaipdenahlheaaDoor
open Go.RowKit Go.ChangeShapes Go.WideShapes
end Go.Proofs.YtjaipdenahlheaaDoor

/-
  code's head at the kinds 2 and 5, whose places draw their order; head of any term that may be.
-/
namespace Go.Proofs.YtjaipdenahlheaaDoor
open Go.RowKit Go.ChangeShapes Go.WideShapes Go.Sort
end Go.Proofs.YtjaipdenahlheaaDoor

/-
  The contracts of the reference's number4 and text4. Conditions: texts are of moderate length.
-/
namespace Go.Proofs.YtjaipdenahlheaaDoor
open Go.RowKit Go.ChangeShapes Go.WideShapes

end Go.Proofs.YtjaipdenahlheaaDoor

/-
  The contract of the reference's right. Conditions: terms of moderate length.
-/
namespace Go.Proofs.YtjaipdenahlheaaDoor
open Go.RowKit Go.ChangeShapes Go.WideShapes Go.Sort

theorem add_nil_ (ad : Addr) : ad.add 0 = ad := by simp [Addr.add]
theorem add_succ_ (ad : Addr) (m : Nat) : ad.add (m + 1) = ⟨ad.block, ad.off + (m + 1), none⟩ := by simp [Addr.add]
end Go.Proofs.YtjaipdenahlheaaDoor
