/-
  Several of my texts in one: RefT, RefM, RefN, Head, HeadK, HeadL, Parse, Right.
-/
import Derived.Test.YtjaipdenahlheaaGreatDoorBaseG
import Derived.Test.YtjaipdenahlheaaGreatDoorPureA
import Derived.Lib.QuietBelow
import Derived.Deep.RegionWith
set_option linter.unusedVariables false
set_option linter.unusedSimpArgs false
/-
  The contracts of the reference for package term: the makers. Conditions: texts of up to maxLen bytes.
-/
namespace Go.Proofs.YtjaipdenahlheaaGreatDoor
open Go.RowKit Go.ChangeShapes Go.WideShapes Go.Sort

/-- A string of these bytes. -/
def bs (l : List UInt8) : ByteArray := ⟨l.toArray⟩
theorem bs_data (l : List UInt8) : (bs l).data.toList = l := rfl
theorem bs_eq {r : ByteArray} {l : List UInt8} (h : r.data.toList = l) : r = bs l := by rw [← h]; rfl
@[go_sem] theorem bs_size (l : List UInt8) : (bs l).size = l.length := rfl
@[go_sem] theorem bs_app (l m : List UInt8) : bs l ++ bs m = bs (l ++ m) := bs_eq (by rw [data_append, bs_data, bs_data])
theorem bs_inj {l m : List UInt8} (h : bs l = bs m) : l = m := by rw [← bs_data l, h, bs_data]
theorem bs_toList (l : List UInt8) : (bs l).toList = l := ByteArray.toList_eq _
theorem ret_bs {r : ByteArray} {l : List UInt8} (h : r.data.toList = l) : Ending.returned (.string r) = .returned (.string (bs l)) := by rw [bs_eq h]
theorem ofNat_mod (n : Nat) : UInt8.ofNat (n % 256) = UInt8.ofNat n := by
  apply UInt8.toNat_inj.1
  simp
/-- The text of a term, or of none. -/
def tx (o : Option Tm) : ByteArray := bs (txt o)
/-- It returns these bytes. -/
def Says (l : List UInt8) (w : World) (e : Ending) (w' : World) : Prop := e = .returned (.string (bs l)) ∧ Below w.heap.size w w'
theorem rU32_any (n : Nat) (w : World) (h1 : n < 4294967296) : Calls Tryz.prog 138 #[.int .i64 n] w (Says (q4 n) w) := by
  have h0 : (0 : Int) ≤ n := by omega
  go_enter Tryz.func138, Tryz.ntmps138
  go_wp2
  go_ret
  refine ⟨ret_bs ?_, by (repeat (first | exact Below.refl _ _ | refine below_drewN ?_ _ | refine Below.drew ?_ | refine Below.alloc ?_ (by first | omega | (simp; done) | (simp; omega)) _ | refine Below.setCell ?_ (by first | omega | (simp; done) | (simp; omega)) _ | refine bel_alloc ?_ _ | refine bel_trans ?_ (by assumption) | refine Below.trans ?_ (Below.mono (by assumption) (by first | omega | (simp; done) | (simp; omega)))))⟩
  rw [strOfNums_data, q4]
  have e1 : ((n : Int) / 16777216 % 256).toNat = n / 16777216 % 256 := by omega
  have e2 : ((n : Int) / 65536 % 256).toNat = n / 65536 % 256 := by omega
  have e3 : ((n : Int) / 256 % 256).toNat = n / 256 % 256 := by omega
  have e4 : ((n : Int) % 256).toNat = n % 256 := by omega
  simp only [List.map_cons, List.map_nil, e1, e2, e3, e4, ofNat_mod]
attribute [go_sem] q4_len
end Go.Proofs.YtjaipdenahlheaaGreatDoor

/-
  The contracts of the reference for package term: the makers but Exp. Conditions: texts are of moderate length.
-/
namespace Go.Proofs.YtjaipdenahlheaaGreatDoor
open Go.RowKit Go.ChangeShapes Go.WideShapes Go.Sort

/-- Strings that hold these bytes. -/
def Txs (w : World) (v : Value) (ls : List (List UInt8)) : Prop := Strs 0 w v (ls.map bs)
theorem Txs.below {w w' : World} {v : Value} {ls : List (List UInt8)} (h : Txs w v ls) (hb : Below w.heap.size w w') : Txs w' v ls := Strs.below h hb
theorem Txs.open_ {w : World} {v : Value} {ls : List (List UInt8)} (h : Txs w v ls) : ∃ A c, v = .slice A ls.length c ∧ ∀ k, (hk : k < ls.length) → ∃ ad, A = some ad ∧ ad.block < w.heap.size ∧ w.cell? (ad.add k) = some (.string (bs ls[k])) := by
  obtain ⟨A, c, rfl, hs⟩ := h
  refine ⟨A, c, by simp, fun k hk => ?_⟩
  obtain ⟨ad, h1, h2, h3⟩ := hs.str (k := k) (by simpa using hk)
  exact ⟨ad, h1, h2, by simpa using h3⟩
end Go.Proofs.YtjaipdenahlheaaGreatDoor

/-
  The contracts of the reference for package term: Derive and List. Conditions: texts are of moderate length.
-/
namespace Go.Proofs.YtjaipdenahlheaaGreatDoor
open Go.RowKit Go.ChangeShapes Go.WideShapes Go.Sort

@[go_sem] theorem nums_bs (c : Nat) : strOfNums [(c : Int)] = bs [UInt8.ofNat c] := bs_eq (by rw [strOfNums_data]; simp)
end Go.Proofs.YtjaipdenahlheaaGreatDoor

/-
  code's number and text: a number's four bytes, a text behind its length.
-/
namespace Go.Proofs.YtjaipdenahlheaaGreatDoor
open Go.RowKit Go.ChangeShapes Go.WideShapes
section
variable {w : World}
set_option maxHeartbeats 4000000 in
theorem wNum_any (n : Nat) (w : World) (h1 : n < 4294967296) : Calls Tryz.prog 128 #[.int .u32 n] w (Says (q4 n) w) := by
  have h0 : (0 : Int) ≤ n := by omega
  go_enter Tryz.func128, Tryz.ntmps128
  go_wp2
  go_ret
  refine ⟨ret_bs ?_, by (repeat (first | exact Below.refl _ _ | refine below_drewN ?_ _ | refine Below.drew ?_ | refine Below.alloc ?_ (by first | omega | (simp; done) | (simp; omega)) _ | refine Below.setCell ?_ (by first | omega | (simp; done) | (simp; omega)) _ | refine bel_alloc ?_ _ | refine bel_trans ?_ (by assumption) | refine Below.trans ?_ (Below.mono (by assumption) (by first | omega | (simp; done) | (simp; omega)))))⟩
  rw [strOfNums_data, q4]
  have e1 : ((n : Int) / 16777216).toNat = n / 16777216 := by omega
  have e2 : ((n : Int) / 65536 % 256).toNat = n / 65536 % 256 := by omega
  have e3 : ((n : Int) / 256 % 256).toNat = n / 256 % 256 := by omega
  have e4 : ((n : Int) % 256).toNat = n % 256 := by omega
  simp only [List.map_cons, List.map_nil, e1, e2, e3, e4, ofNat_mod]
end
end Go.Proofs.YtjaipdenahlheaaGreatDoor

/-
  code's head, kind by kind (2 and 5, whose places draw their order, are not here): a view's leading bytes. Printed alike for each kind.
-/
namespace Go.Proofs.YtjaipdenahlheaaGreatDoor
open Go.RowKit Go.ChangeShapes Go.WideShapes
section
variable {w : World}
end
end Go.Proofs.YtjaipdenahlheaaGreatDoor

/-
  code's head at the kinds 2 and 5, whose places draw their order; head of any term that may be.
-/
namespace Go.Proofs.YtjaipdenahlheaaGreatDoor
open Go.RowKit Go.ChangeShapes Go.WideShapes Go.Sort
section
variable {w : World}
end
end Go.Proofs.YtjaipdenahlheaaGreatDoor

/-
  The contracts of the reference's number4 and text4. Conditions: texts are of moderate length.
-/
namespace Go.Proofs.YtjaipdenahlheaaGreatDoor
open Go.RowKit Go.ChangeShapes Go.WideShapes

end Go.Proofs.YtjaipdenahlheaaGreatDoor

/-
  The contract of the reference's right. Conditions: terms of moderate length.
-/
namespace Go.Proofs.YtjaipdenahlheaaGreatDoor
open Go.RowKit Go.ChangeShapes Go.WideShapes Go.Sort

end Go.Proofs.YtjaipdenahlheaaGreatDoor
