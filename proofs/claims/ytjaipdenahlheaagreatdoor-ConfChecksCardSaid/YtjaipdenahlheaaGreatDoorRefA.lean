/-
  Several of my texts in one: RefT, RefM, RefN, Head, HeadK, HeadL, Parse, Right.
-/
import Derived.Test.YtjaipdenahlheaaGreatDoorBaseG
import Derived.Test.YtjaipdenahlheaaGreatDoorPureA
import Derived.Lib.QuietBelow
import Derived.Deep.RegionWith
set_option linter.unusedVariables false
set_option linter.unusedSimpArgs false
/-
  The contracts of the reference for package term: the makers. Conditions: texts of up to maxLen bytes.
-/
namespace Go.Proofs.YtjaipdenahlheaaGreatDoor
open Go.RowKit Go.ChangeShapes Go.WideShapes Go.Sort

/-- A string of these bytes. -/
def bs (l : List UInt8) : ByteArray := ⟨l.toArray⟩
theorem bs_data (l : List UInt8) : (bs l).data.toList = l := rfl
theorem bs_of (s : ByteArray) : bs s.data.toList = s := rfl
theorem bs_eq {r : ByteArray} {l : List UInt8} (h : r.data.toList = l) : r = bs l := by rw [← h]; rfl
@[go_sem] theorem bs_size (l : List UInt8) : (bs l).size = l.length := rfl
@[go_sem] theorem bs_app (l m : List UInt8) : bs l ++ bs m = bs (l ++ m) := bs_eq (by rw [data_append, bs_data, bs_data])
theorem bs_inj {l m : List UInt8} (h : bs l = bs m) : l = m := by rw [← bs_data l, h, bs_data]
theorem bs_toList (l : List UInt8) : (bs l).toList = l := ByteArray.toList_eq _
theorem ret_bs {r : ByteArray} {l : List UInt8} (h : r.data.toList = l) : Ending.returned (.string r) = .returned (.string (bs l)) := by rw [bs_eq h]
theorem ofNat_mod (n : Nat) : UInt8.ofNat (n % 256) = UInt8.ofNat n := by
  apply UInt8.toNat_inj.1
  simp
/-- The text of a term, or of none. -/
def tx (o : Option Tm) : ByteArray := bs (txt o)
theorem tx_none : tx none = ⟨#[]⟩ := rfl
theorem tx_len {o : Option Tm} (h : fineO o) : (txt o).length ≤ 131072 := by
  cases o with
  | none => exact Nat.zero_le _
  | some t => exact (h t rfl).2
/-- It returns these bytes. -/
def Says (l : List UInt8) (w : World) (e : Ending) (w' : World) : Prop := e = .returned (.string (bs l)) ∧ Below w.heap.size w w'
theorem rU32_any (n : Nat) (w : World) (h1 : n < 4294967296) : Calls Tryz.prog 138 #[.int .i64 n] w (Says (q4 n) w) := by
  have h0 : (0 : Int) ≤ n := by omega
  go_enter Tryz.func138, Tryz.ntmps138
  go_wp2
  go_ret
  refine ⟨ret_bs ?_, by (repeat (first | exact Below.refl _ _ | refine below_drewN ?_ _ | refine Below.drew ?_ | refine Below.alloc ?_ (by first | omega | (simp; done) | (simp; omega)) _ | refine Below.setCell ?_ (by first | omega | (simp; done) | (simp; omega)) _ | refine bel_alloc ?_ _ | refine bel_trans ?_ (by assumption) | refine Below.trans ?_ (Below.mono (by assumption) (by first | omega | (simp; done) | (simp; omega)))))⟩
  rw [strOfNums_data, q4]
  have e1 : ((n : Int) / 16777216 % 256).toNat = n / 16777216 % 256 := by omega
  have e2 : ((n : Int) / 65536 % 256).toNat = n / 65536 % 256 := by omega
  have e3 : ((n : Int) / 256 % 256).toNat = n / 256 % 256 := by omega
  have e4 : ((n : Int) % 256).toNat = n % 256 := by omega
  simp only [List.map_cons, List.map_nil, e1, e2, e3, e4, ofNat_mod]
/-- Bytes, if they are not too many. -/
def fitsL (l : List UInt8) : List UInt8 := if l.length ≤ 131072 then l else []
attribute [go_sem] q4_len
/-- The kind of a term, or 0. -/
def kindO (o : Option Tm) : Nat := match o with
  | some t => t.k
  | none => 0
theorem txt_head {o : Option Tm} (h : fineO o) : o = none ∨ ∃ t r, o = some t ∧ txt o = UInt8.ofNat (240 + t.k) :: r ∧ 1 ≤ t.k ∧ t.k ≤ 10 := by
  cases o with
  | none => exact .inl rfl
  | some t =>
    obtain ⟨r, hr⟩ := enc_head t (h t rfl).1
    exact .inr ⟨t, r, rfl, hr, good_k (h t rfl).1⟩
theorem enc_data (s : ByteArray) : [UInt8.ofNat (240 + 1)] ++ q4 s.size ++ s.data.toList = enc (.mk 1 0 0 s []) := by
  simp [enc, head, mid, encs]
theorem fits_lim (t : Tm) : fitsL (enc t) = txt (lim t) := by
  unfold lim fitsL
  split <;> rfl
end Go.Proofs.YtjaipdenahlheaaGreatDoor

/-
  The contracts of the reference for package term: the makers but Exp. Conditions: texts are of moderate length.
-/
namespace Go.Proofs.YtjaipdenahlheaaGreatDoor
open Go.RowKit Go.ChangeShapes Go.WideShapes Go.Sort

theorem ret_bsb {l m : List UInt8} (h : l = m) : Ending.returned (.string (bs l)) = .returned (.string (bs m)) := by rw [h]
theorem bs_size_i (l : List UInt8) (n : Nat) (h : l.length ≤ n) : ((bs l).size : Int) ≤ n := by rw [bs_size]; omega
theorem enc_isE (t : Tm) : (bs (enc t)).toList.isEmpty = false := by
  rw [bs_toList]
  cases e : enc t with
  | nil => exact absurd e (enc_ne t)
  | cons => rfl
theorem lim_txt {t : Tm} {l : List UInt8} (h : l = enc t) : fitsL l = txt (lim t) := by
  subst h
  exact fits_lim t
theorem okN_nat {n : Int} (h : okN n = true) : ∃ a : Nat, n = a ∧ a < 2147483648 := by
  have := okN_iff.1 h
  exact ⟨n.toNat, by omega, by omega⟩
theorem kindO_isKo {o : Option Tm} {k : Nat} (hk : k ≠ 0) : isKo o k = ((kindO o : Int) == k) := by
  cases o with
  | none => simp [isKo, kindO]; omega
  | some t => rfl
/-- Strings that hold these bytes. -/
def Txs (w : World) (v : Value) (ls : List (List UInt8)) : Prop := Strs 0 w v (ls.map bs)
theorem Txs.below {w w' : World} {v : Value} {ls : List (List UInt8)} (h : Txs w v ls) (hb : Below w.heap.size w w') : Txs w' v ls := Strs.below h hb
theorem txs_nil (w : World) (c : Nat) : Txs w (.slice none 0 c) [] := ⟨none, c, rfl, Sl.nil_⟩
theorem Txs.open_ {w : World} {v : Value} {ls : List (List UInt8)} (h : Txs w v ls) : ∃ A c, v = .slice A ls.length c ∧ ∀ k, (hk : k < ls.length) → ∃ ad, A = some ad ∧ ad.block < w.heap.size ∧ w.cell? (ad.add k) = some (.string (bs ls[k])) := by
  obtain ⟨A, c, rfl, hs⟩ := h
  refine ⟨A, c, by simp, fun k hk => ?_⟩
  obtain ⟨ad, h1, h2, h3⟩ := hs.str (k := k) (by simpa using hk)
  exact ⟨ad, h1, h2, by simpa using h3⟩
theorem flat_snoc (ls : List (List UInt8)) {k : Nat} (hk : k < ls.length) : (ls.take (k + 1)).flatten = (ls.take k).flatten ++ ls[k] := by
  rw [List.take_succ_eq_append_getElem hk, List.flatten_append]
  simp
theorem flat_le (ls : List (List UInt8)) (k : Nat) : (ls.take k).flatten.length ≤ ls.flatten.length := by
  conv => rhs; rw [← List.take_append_drop k ls]
  rw [List.flatten_append, List.length_append]
  omega
theorem flats_at (ls : List (List UInt8)) {k : Nat} (hk : k < ls.length) : (ls.take k).flatten.length + ls[k].length ≤ ls.flatten.length := by
  have := flat_le ls (k + 1)
  rw [flat_snoc ls hk, List.length_append] at this
  exact this
theorem head5_len (l : List UInt8) (n : Nat) : (head 5 0 0 l n).length = 9 + l.length := by
  simp [head, mid, q4_len]
  omega
theorem tBase_share {l : List UInt8} (h : 1 ≤ l.length ∧ l.length ≤ 2100) : fitsL (head 5 0 0 l ([] : List (List UInt8)).length ++ ([] : List (List UInt8)).flatten) = txt (tBase (bs l)) := by
  unfold tBase fitsL
  rw [if_pos (by rw [List.length_append, head5_len]; simp; omega), if_pos (by rw [bs_size]; exact h)]
  simp [txt, enc, encs, bs_data]
end Go.Proofs.YtjaipdenahlheaaGreatDoor

/-
  The contracts of the reference for package term: Derive and List. Conditions: texts are of moderate length.
-/
namespace Go.Proofs.YtjaipdenahlheaaGreatDoor
open Go.RowKit Go.ChangeShapes Go.WideShapes Go.Sort

@[go_sem] theorem nums_bs (c : Nat) : strOfNums [(c : Int)] = bs [UInt8.ofNat c] := bs_eq (by rw [strOfNums_data]; simp)
theorem tList_at {os : List (Option Tm)} {r : List Tm} (h : os.length ≤ 32) (hr : os = r.map some) : tList os = lim (.mk 10 0 0 eB r) := by
  unfold tList
  rw [if_pos h, hr, alls_some]
theorem tList_none {os : List (Option Tm)} (h : none ∈ os) : tList os = none := by
  unfold tList
  split
  · rw [alls_none h]
  · rfl
/-- The head of a list. -/
def head10 (n : Nat) : List UInt8 := UInt8.ofNat (240 + 10) :: q4 n
theorem head10_len (n : Nat) : (head10 n).length = 5 := rfl
theorem enc_list (r : List Tm) : enc (.mk 10 0 0 eB r) = head10 r.length ++ encs r := by simp [enc, head, mid, head10]
/-- A list that is too long whatever follows. -/
theorem tList_big {os : List (Option Tm)} {r : List Tm} {k : Nat} (hk : os.take k = r.map some) (h : 131072 < 5 + (encs r).length) : tList os = none := by
  unfold tList
  split
  · cases e : alls os with
    | none => rfl
    | some m =>
      have hm := alls_mem e
      have h2 : m.take k = r := by
        rw [hm, ← List.map_take] at hk
        exact (List.map_inj_right fun _ _ e => by injection e).1 hk
      have h3 : encs m = encs r ++ encs (m.drop k) := by
        rw [← h2, ← encs_append, List.take_append_drop]
      show lim _ = none
      unfold lim
      rw [if_neg]
      rw [enc_list, List.length_append, head10_len, h3, List.length_append]
      omega
  · rfl
end Go.Proofs.YtjaipdenahlheaaGreatDoor

/-
  code's number and text: a number's four bytes, a text behind its length.
-/
namespace Go.Proofs.YtjaipdenahlheaaGreatDoor
open Go.RowKit Go.ChangeShapes Go.WideShapes
section
variable {w : World}
set_option maxHeartbeats 4000000 in
theorem wNum_any (n : Nat) (w : World) (h1 : n < 4294967296) : Calls Tryz.prog 128 #[.int .u32 n] w (Says (q4 n) w) := by
  have h0 : (0 : Int) ≤ n := by omega
  go_enter Tryz.func128, Tryz.ntmps128
  go_wp2
  go_ret
  refine ⟨ret_bs ?_, by (repeat (first | exact Below.refl _ _ | refine below_drewN ?_ _ | refine Below.drew ?_ | refine Below.alloc ?_ (by first | omega | (simp; done) | (simp; omega)) _ | refine Below.setCell ?_ (by first | omega | (simp; done) | (simp; omega)) _ | refine bel_alloc ?_ _ | refine bel_trans ?_ (by assumption) | refine Below.trans ?_ (Below.mono (by assumption) (by first | omega | (simp; done) | (simp; omega)))))⟩
  rw [strOfNums_data, q4]
  have e1 : ((n : Int) / 16777216).toNat = n / 16777216 := by omega
  have e2 : ((n : Int) / 65536 % 256).toNat = n / 65536 % 256 := by omega
  have e3 : ((n : Int) / 256 % 256).toNat = n / 256 % 256 := by omega
  have e4 : ((n : Int) % 256).toNat = n % 256 := by omega
  simp only [List.map_cons, List.map_nil, e1, e2, e3, e4, ofNat_mod]
end
end Go.Proofs.YtjaipdenahlheaaGreatDoor

/-
  code's head, kind by kind (2 and 5, whose places draw their order, are not here): a view's leading bytes. Printed alike for each kind.
-/
namespace Go.Proofs.YtjaipdenahlheaaGreatDoor
open Go.RowKit Go.ChangeShapes Go.WideShapes
section
variable {w : World}
end
end Go.Proofs.YtjaipdenahlheaaGreatDoor

/-
  code's head at the kinds 2 and 5, whose places draw their order; head of any term that may be.
-/
namespace Go.Proofs.YtjaipdenahlheaaGreatDoor
open Go.RowKit Go.ChangeShapes Go.WideShapes Go.Sort
section
variable {w : World}
end
end Go.Proofs.YtjaipdenahlheaaGreatDoor

/-
  The contracts of the reference's number4 and text4. Conditions: texts are of moderate length.
-/
namespace Go.Proofs.YtjaipdenahlheaaGreatDoor
open Go.RowKit Go.ChangeShapes Go.WideShapes

theorem drop4 {s : ByteArray} {p : Nat} (h : p + 4 ≤ s.size) : s.data.toList.drop p = s[p] :: s[p + 1] :: s[p + 2] :: s[p + 3] :: s.data.toList.drop (p + 4) := by
  have hl : s.data.toList.length = s.size := rfl
  rw [drop_cons (p := p) (by omega), drop_cons (p := p + 1) (by omega), drop_cons (p := p + 1 + 1) (by omega), drop_cons (p := p + 1 + 1 + 1) (by omega)]
  rfl
theorem ext_bs (s : ByteArray) (a b : Nat) : s.extract a b = bs ((s.data.toList.drop a).take (b - a)) := bs_eq (by rw [Lib.extract_data])
end Go.Proofs.YtjaipdenahlheaaGreatDoor

/-
  The contract of the reference's right. Conditions: terms of moderate length.
-/
namespace Go.Proofs.YtjaipdenahlheaaGreatDoor
open Go.RowKit Go.ChangeShapes Go.WideShapes Go.Sort

theorem add_nil_ (ad : Addr) : ad.add 0 = ad := by simp [Addr.add]
theorem add_succ_ (ad : Addr) (m : Nat) : ad.add (m + 1) = ⟨ad.block, ad.off + (m + 1), none⟩ := by simp [Addr.add]
theorem len_two {l : List Tm} (h : l.length = 2) : ∃ t u, l = [t, u] := by
  match l, h with
  | [t, u], _ => exact ⟨t, u, rfl⟩
/-- May a term that was taken apart be? -/
def RightB (k a b : Nat) (s : ByteArray) (l : List Tm) : Prop := hd k a b s l.length ∧ kids k l
def Righted (k a b : Nat) (s : ByteArray) (l : List Tm) (w : World) (e : Ending) (w' : World) : Prop := ∃ rb : Bool, e = .returned (.bool rb) ∧ (rb = true ↔ RightB k a b s l) ∧ Below w.heap.size w w'
theorem righted_mk {k a b : Nat} {s : ByteArray} {l : List Tm} {w w' : World} (rb : Bool) (h : rb = true ↔ RightB k a b s l) (hb : Below w.heap.size w w') : Righted k a b s l w (.returned (.bool rb)) w' := ⟨rb, rfl, h, hb⟩
theorem txs_at {w : World} {A : Option Addr} {n c : Nat} {l : List Tm} (hS : Txs w (.slice A n c) (l.map enc)) {i : Nat} (hi : i < l.length) : ∃ ad, A = some ad ∧ n = l.length ∧ w.cell? (ad.add i) = some (.string (bs (enc l[i]))) ∧ ad.block < w.heap.size := by
  obtain ⟨A', c', e, hc⟩ := hS.open_
  obtain ⟨ad, h1, h2, h3⟩ := hc i (by simpa using hi)
  injection e with e1 e2 e3
  subst e1 e2
  exact ⟨ad, h1, by simp, by simpa using h3, h2⟩
end Go.Proofs.YtjaipdenahlheaaGreatDoor
