/-
  Several of my texts in one: RefA, Chn.
-/
import Derived.Test.YtjaipdenahlheaaGreatDoorKAsG
import Derived.Test.YtjaipdenahlheaaGreatDoorKPureA
import Derived.Lib.QuietBelow
import Derived.Deep.RegionWith
import Derived.Deep.RegionHeld3
import Derived.Deep.DeepCutAuto
set_option linter.unusedVariables false
set_option linter.unusedSimpArgs false
/-
  The contracts of the reference for package term: the makers. Conditions: texts of up to maxLen bytes.
-/
namespace Go.Proofs.YtjaipdenahlheaaGreatDoor
open Go.RowKit Go.ChangeShapes Go.WideShapes Go.Sort

/-- A string of these bytes. -/
def bs (l : List UInt8) : ByteArray := ⟨l.toArray⟩
theorem bs_data (l : List UInt8) : (bs l).data.toList = l := rfl
theorem bs_eq {r : ByteArray} {l : List UInt8} (h : r.data.toList = l) : r = bs l := by rw [← h]; rfl
@[go_sem] theorem bs_size (l : List UInt8) : (bs l).size = l.length := rfl
@[go_sem] theorem bs_app (l m : List UInt8) : bs l ++ bs m = bs (l ++ m) := bs_eq (by rw [data_append, bs_data, bs_data])
theorem bs_inj {l m : List UInt8} (h : bs l = bs m) : l = m := by rw [← bs_data l, h, bs_data]
theorem bs_toList (l : List UInt8) : (bs l).toList = l := ByteArray.toList_eq _
theorem ret_bs {r : ByteArray} {l : List UInt8} (h : r.data.toList = l) : Ending.returned (.string r) = .returned (.string (bs l)) := by rw [bs_eq h]
theorem ofNat_mod (n : Nat) : UInt8.ofNat (n % 256) = UInt8.ofNat n := by
  apply UInt8.toNat_inj.1
  simp
/-- The text of a term, or of none. -/
def tx (o : Option Tm) : ByteArray := bs (txt o)
/-- It returns these bytes. -/
def Says (l : List UInt8) (w : World) (e : Ending) (w' : World) : Prop := e = .returned (.string (bs l)) ∧ Below w.heap.size w w'
attribute [go_sem] q4_len
end Go.Proofs.YtjaipdenahlheaaGreatDoor

/-
  The contracts of the reference for package term: the makers but Exp. Conditions: texts are of moderate length.
-/
namespace Go.Proofs.YtjaipdenahlheaaGreatDoor
open Go.RowKit Go.ChangeShapes Go.WideShapes Go.Sort

/-- Strings that hold these bytes. -/
def Txs (w : World) (v : Value) (ls : List (List UInt8)) : Prop := Strs 0 w v (ls.map bs)
theorem Txs.below {w w' : World} {v : Value} {ls : List (List UInt8)} (h : Txs w v ls) (hb : Below w.heap.size w w') : Txs w' v ls := Strs.below h hb
theorem txs_nil (w : World) (c : Nat) : Txs w (.slice none 0 c) [] := ⟨none, c, rfl, Sl.nil_⟩
theorem Txs.open_ {w : World} {v : Value} {ls : List (List UInt8)} (h : Txs w v ls) : ∃ A c, v = .slice A ls.length c ∧ ∀ k, (hk : k < ls.length) → ∃ ad, A = some ad ∧ ad.block < w.heap.size ∧ w.cell? (ad.add k) = some (.string (bs ls[k])) := by
  obtain ⟨A, c, rfl, hs⟩ := h
  refine ⟨A, c, by simp, fun k hk => ?_⟩
  obtain ⟨ad, h1, h2, h3⟩ := hs.str (k := k) (by simpa using hk)
  exact ⟨ad, h1, h2, by simpa using h3⟩
end Go.Proofs.YtjaipdenahlheaaGreatDoor

/-
  The contracts of the reference for package term: Derive and List. Conditions: texts are of moderate length.
-/
namespace Go.Proofs.YtjaipdenahlheaaGreatDoor
open Go.RowKit Go.ChangeShapes Go.WideShapes Go.Sort

@[go_sem] theorem nums_bs (c : Nat) : strOfNums [(c : Int)] = bs [UInt8.ofNat c] := bs_eq (by rw [strOfNums_data]; simp)
end Go.Proofs.YtjaipdenahlheaaGreatDoor

/-
  code's number and text: a number's four bytes, a text behind its length.
-/
namespace Go.Proofs.YtjaipdenahlheaaGreatDoor
open Go.RowKit Go.ChangeShapes Go.WideShapes
section
variable {w : World}
set_option maxHeartbeats 4000000 in
theorem wNum_any (n : Nat) (w : World) (h1 : n < 4294967296) : Calls Tryz.prog 128 #[.int .u32 n] w (Says (q4 n) w) := by
  have h0 : (0 : Int) ≤ n := by omega
  go_enter Tryz.func128, Tryz.ntmps128
  go_wp2
  go_ret
  refine ⟨ret_bs ?_, by (repeat (first | exact Below.refl _ _ | refine below_drewN ?_ _ | refine Below.drew ?_ | refine Below.alloc ?_ (by first | omega | (simp; done) | (simp; omega)) _ | refine Below.setCell ?_ (by first | omega | (simp; done) | (simp; omega)) _ | refine bel_alloc ?_ _ | refine bel_trans ?_ (by assumption) | refine Below.trans ?_ (Below.mono (by assumption) (by first | omega | (simp; done) | (simp; omega)))))⟩
  rw [strOfNums_data, q4]
  have e1 : ((n : Int) / 16777216).toNat = n / 16777216 := by omega
  have e2 : ((n : Int) / 65536 % 256).toNat = n / 65536 % 256 := by omega
  have e3 : ((n : Int) / 256 % 256).toNat = n / 256 % 256 := by omega
  have e4 : ((n : Int) % 256).toNat = n % 256 := by omega
  simp only [List.map_cons, List.map_nil, e1, e2, e3, e4, ofNat_mod]
end
end Go.Proofs.YtjaipdenahlheaaGreatDoor

/-
  code's head, kind by kind (2 and 5, whose places draw their order, are not here): a view's leading bytes. Printed alike for each kind.
-/
namespace Go.Proofs.YtjaipdenahlheaaGreatDoor
open Go.RowKit Go.ChangeShapes Go.WideShapes
end Go.Proofs.YtjaipdenahlheaaGreatDoor

/-
  code's head at the kinds 2 and 5, whose places draw their order; head of any term that may be.
-/
namespace Go.Proofs.YtjaipdenahlheaaGreatDoor
open Go.RowKit Go.ChangeShapes Go.WideShapes Go.Sort
end Go.Proofs.YtjaipdenahlheaaGreatDoor

/-
  The contracts of the reference's number4 and text4. Conditions: texts are of moderate length.
-/
namespace Go.Proofs.YtjaipdenahlheaaGreatDoor
open Go.RowKit Go.ChangeShapes Go.WideShapes

end Go.Proofs.YtjaipdenahlheaaGreatDoor

/-
  The contract of the reference's right. Conditions: terms of moderate length.
-/
namespace Go.Proofs.YtjaipdenahlheaaGreatDoor
open Go.RowKit Go.ChangeShapes Go.WideShapes Go.Sort

theorem add_nil_ (ad : Addr) : ad.add 0 = ad := by simp [Addr.add]
theorem add_succ_ (ad : Addr) (m : Nat) : ad.add (m + 1) = ⟨ad.block, ad.off + (m + 1), none⟩ := by simp [Addr.add]
end Go.Proofs.YtjaipdenahlheaaGreatDoor
namespace Go.Proofs.YtjaipdenahlheaaGreatDoor
open Go.RowKit
/-- A fault's value. -/
def errV (b : Nat) : Value := .iface 117 (.pointer (some ⟨b, 0, none⟩))
/-- An error's number within places. -/
def IsErr (w : World) : Value → List (List UInt8) → Int → Prop
  | v, [], k => v = .iface 36 (.int .i64 k)
  | v, s :: r, k => ∃ b v', v = errV b ∧ Blk w b 119 #[.string (bs s), v'] ∧ IsErr w v' r k
theorem IsErr.below {w w' : World} (hb : Below w.heap.size w w') : ∀ {ps : List (List UInt8)} {v : Value} {k : Int}, IsErr w v ps k → IsErr w' v ps k
  | [], _, _, h => h
  | _ :: _, _, _, h => by
    obtain ⟨b, v', e, hB, h2⟩ := h
    exact ⟨b, v', e, hB.below hb hB.lt, IsErr.below hb h2⟩
theorem IsErr.own {w w' : World} {g : Nat} {t : TypeId} {cs : Array Value} (hg : Blk w g t cs) (hne : t ≠ 119) (hb : w.grownBy w' (some g)) : ∀ {ps : List (List UInt8)} {v : Value} {k : Int}, IsErr w v ps k → IsErr w' v ps k
  | [], _, _, h => h
  | _ :: _, _, _, h => by
    obtain ⟨b, v', e, hB, h2⟩ := h
    exact ⟨b, v', e, hB.grown hb (fun e2 => Blk.ne_ hg hB hne (Option.some.inj e2).symm), IsErr.own hg hne hb h2⟩
section
variable {w : World}
theorem fof_any (s : ByteArray) (k : Int) (hk : (k == 0) = false) (w : World) : Calls Tryz.prog 39 #[.string s, .int .i64 k] w (fun e w' => ∃ b, e = .returned (errV b) ∧ IsErr w' (errV b) [s.data.toList] k ∧ Below w.heap.size w w') := by
  go_enter Tryz.func39, Tryz.ntmps39
  go_wp2
  go_ret
  exact ⟨w.heap.size, rfl, ⟨_, _, rfl, Blk.new _ _ _, rfl⟩, by (repeat (first | exact Below.refl _ _ | refine below_drewN ?_ _ | refine Below.drew ?_ | refine Below.alloc ?_ (by first | omega | (simp; done) | (simp; omega)) _ | refine Below.setCell ?_ (by first | omega | (simp; done) | (simp; omega)) _ | refine bel_alloc ?_ _ | refine bel_trans ?_ (by assumption) | refine Below.trans ?_ (Below.mono (by assumption) (by first | omega | (simp; done) | (simp; omega)))))⟩
theorem fof_nil (s : ByteArray) (w : World) : Calls Tryz.prog 39 #[.string s, .int .i64 0] w (fun e w' => e = .returned .nilIface ∧ w' = w) := by
  go_enter Tryz.func39, Tryz.ntmps39
  go_wp2
  go_ret
  exact ⟨rfl, rfl⟩
theorem fat_any (s : ByteArray) (b : Nat) {ps : List (List UInt8)} {k : Int} (h : IsErr w (errV b) ps k) : Calls Tryz.prog 27 #[.string s, errV b] w (fun e w' => ∃ b', e = .returned (errV b') ∧ IsErr w' (errV b') (s.data.toList :: ps) k ∧ Below w.heap.size w w') := by
  have H := hide (fun w' (hb : Below w.heap.size w w') => h.below hb)
  unfold errV
  clear h
  go_enter Tryz.func27, Tryz.ntmps27
  go_wp2
  go_ret
  exact ⟨w.heap.size, rfl, ⟨_, _, rfl, Blk.new _ _ _, H.out _ (by (repeat (first | exact Below.refl _ _ | refine below_drewN ?_ _ | refine Below.drew ?_ | refine Below.alloc ?_ (by first | omega | (simp; done) | (simp; omega)) _ | refine Below.setCell ?_ (by first | omega | (simp; done) | (simp; omega)) _ | refine bel_alloc ?_ _ | refine bel_trans ?_ (by assumption) | refine Below.trans ?_ (Below.mono (by assumption) (by first | omega | (simp; done) | (simp; omega))))))⟩, by (repeat (first | exact Below.refl _ _ | refine below_drewN ?_ _ | refine Below.drew ?_ | refine Below.alloc ?_ (by first | omega | (simp; done) | (simp; omega)) _ | refine Below.setCell ?_ (by first | omega | (simp; done) | (simp; omega)) _ | refine bel_alloc ?_ _ | refine bel_trans ?_ (by assumption) | refine Below.trans ?_ (Below.mono (by assumption) (by first | omega | (simp; done) | (simp; omega)))))⟩
theorem fat_nil (s : ByteArray) (w : World) : Calls Tryz.prog 27 #[.string s, .nilIface] w (fun e w' => e = .returned .nilIface ∧ w' = w) := by
  go_enter Tryz.func27, Tryz.ntmps27
  go_wp2
  go_ret
  exact ⟨rfl, rfl⟩
theorem own_belowN {B0 size n : Nat} {t : TypeId} {v : Value} {xs : List Value} {w w' : World} (h : w.ownsRow B0 t size v n xs) (hb : Below w.heap.size w w') : w'.ownsRow B0 t size v n xs := by
  refine h.kept (only_of_below hb none) ?_
  cases eo : v.ownBlock with
  | none => exact .inl rfl
  | some i => exact .inr (fun e => by cases e)
theorem own_slN {w : World} {base : Nat} {e : TypeId} {size n : Nat} {v : Value} {xs : List Value} (h : w.ownsRow base e size v n xs) : ∃ A c, v = .slice A n c := by
  rcases h.2 with ⟨rfl, rfl⟩ | ⟨g', cap, cur, rfl, _⟩
  · exact ⟨none, 0, rfl⟩
  · exact ⟨_, _, rfl⟩
theorem reads_blkN {W : World} {b : Nat} {t : TypeId} {us : List Value} {size m : Nat} (h : Blk W b t us.toArray) (hl : us.length = m * size) : Reads W W.heap.size size (some ⟨b, 0, none⟩) m us :=
  ⟨hl, fun _ => ⟨_, rfl, h.lt, fun j u hu => by rw [add_zero_, h.cell j]; simpa using hu⟩⟩
theorem info_partsN {o : Option TypeInfo} {z : Option Value} {n b : Nat} (h : o.map (fun i => (i.zero, i.size, i.bytes)) = some (z, n, b)) : ∃ i, o = some i ∧ i.zero = z ∧ i.size = n ∧ i.bytes = b := by
  cases o with
  | none => cases h
  | some i =>
    simp only [Option.map_some, Option.some.injEq, Prod.mk.injEq] at h
    exact ⟨i, rfl, h.1, h.2.1, h.2.2⟩
theorem infoStN : (Tryz.prog.info? 9).map (fun i => (i.zero, i.size, i.bytes)) = some (some (.string ⟨#[]⟩), 1, 16) := by kernel_rfl
def lenV : Value → Nat
  | .slice _ n _ => n
  | _ => 0
/-- A path that is being gathered. -/
structure PathI (w : World) (ps : List (List UInt8)) (k : Int) (tb : Nat) (i : Nat) (A : Option Addr) (c : Nat) (vi : Value) (wr : World) : Prop where
  err : IsErr w vi (ps.drop i) k
  own : wr.ownsRow w.heap.size 9 1 (.slice A i c) i (((ps.take i).map bs).map Value.string)
  blk : ∃ p, Blk wr tb 117 #[.pointer p]
  bel : Below w.heap.size w wr
end
end Go.Proofs.YtjaipdenahlheaaGreatDoor
