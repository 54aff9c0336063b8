/-
  The contracts of the reference for package term: the makers. Conditions: texts of up to maxLen bytes.
-/
import Derived.Test.YtkpikfdfekggbaaGreatDoorBase3
import Derived.Test.YtkpikfdfekggbaaGreatDoorPureA
import Derived.Lib.QuietBelow
import Derived.Deep.RegionWith
namespace Go.Proofs.YtkpikfdfekggbaaGreatDoor
open Go.RowKit Go.ChangeShapes Go.WideShapes Go.Sort

/-- A string of these bytes. -/
def bs (l : List UInt8) : ByteArray := ⟨l.toArray⟩
theorem bs_data (l : List UInt8) : (bs l).data.toList = l := rfl
theorem bs_of (s : ByteArray) : bs s.data.toList = s := rfl
theorem bs_eq {r : ByteArray} {l : List UInt8} (h : r.data.toList = l) : r = bs l := by rw [← h]; rfl
@[go_sem] theorem bs_size (l : List UInt8) : (bs l).size = l.length := rfl
@[go_sem] theorem bs_app (l m : List UInt8) : bs l ++ bs m = bs (l ++ m) := bs_eq (by rw [data_append, bs_data, bs_data])
theorem bs_inj {l m : List UInt8} (h : bs l = bs m) : l = m := by rw [← bs_data l, h, bs_data]
theorem bs_toList (l : List UInt8) : (bs l).toList = l := ByteArray.toList_eq _
theorem ret_bs {r : ByteArray} {l : List UInt8} (h : r.data.toList = l) : Ending.returned (.string r) = .returned (.string (bs l)) := by rw [bs_eq h]
theorem ofNat_mod (n : Nat) : UInt8.ofNat (n % 256) = UInt8.ofNat n := by
  apply UInt8.toNat_inj.1
  simp
/-- The text of a term, or of none. -/
def tx (o : Option Tm) : ByteArray := bs (txt o)
theorem tx_none : tx none = ⟨#[]⟩ := rfl
theorem tx_len {o : Option Tm} (h : fineO o) : (txt o).length ≤ 131072 := by
  cases o with
  | none => exact Nat.zero_le _
  | some t => exact (h t rfl).2
/-- It returns these bytes. -/
def Says (l : List UInt8) (w : World) (e : Ending) (w' : World) : Prop := e = .returned (.string (bs l)) ∧ Below w.heap.size w w'
theorem rU32_any (n : Nat) (w : World) (h1 : n < 4294967296) : Calls Tryz.prog 18 #[.int .i64 n] w (Says (q4 n) w) := by
  have h0 : (0 : Int) ≤ n := by omega
  go_enter Tryz.func18, Tryz.ntmps18
  go_wp2
  go_ret
  refine ⟨ret_bs ?_, by (repeat (first | exact Below.refl _ _ | refine below_drewN ?_ _ | refine Below.drew ?_ | refine Below.alloc ?_ (by first | omega | (simp; done) | (simp; omega)) _ | refine Below.setCell ?_ (by first | omega | (simp; done) | (simp; omega)) _ | refine bel_alloc ?_ _ | refine bel_trans ?_ (by assumption) | refine Below.trans ?_ (Below.mono (by assumption) (by first | omega | (simp; done) | (simp; omega)))))⟩
  rw [strOfNums_data, q4]
  have e1 : ((n : Int) / 16777216 % 256).toNat = n / 16777216 % 256 := by omega
  have e2 : ((n : Int) / 65536 % 256).toNat = n / 65536 % 256 := by omega
  have e3 : ((n : Int) / 256 % 256).toNat = n / 256 % 256 := by omega
  have e4 : ((n : Int) % 256).toNat = n % 256 := by omega
  simp only [List.map_cons, List.map_nil, e1, e2, e3, e4, ofNat_mod]
theorem rTag_any (k : Nat) (w : World) (h1 : k ≤ 15) : Calls Tryz.prog 110 #[.int .i64 k] w (Says [UInt8.ofNat (240 + k)] w) := by
  have h0 : (0 : Int) ≤ k := by omega
  have h2 : (k : Int) ≤ 15 := by omega
  go_enter Tryz.func110, Tryz.ntmps110
  go_wp2
  go_ret
  refine ⟨ret_bs ?_, by (repeat (first | exact Below.refl _ _ | refine below_drewN ?_ _ | refine Below.drew ?_ | refine Below.alloc ?_ (by first | omega | (simp; done) | (simp; omega)) _ | refine Below.setCell ?_ (by first | omega | (simp; done) | (simp; omega)) _ | refine bel_alloc ?_ _ | refine bel_trans ?_ (by assumption) | refine Below.trans ?_ (Below.mono (by assumption) (by first | omega | (simp; done) | (simp; omega)))))⟩
  rw [strOfNums_data]
  have e1 : (240 + (k : Int)).toNat = 240 + k := by omega
  simp only [List.map_cons, List.map_nil, e1]
/-- Bytes, if they are not too many. -/
def fitsL (l : List UInt8) : List UInt8 := if l.length ≤ 131072 then l else []
attribute [go_sem] q4_len
theorem rFits_any (l : List UInt8) (w : World) (h : l.length ≤ 1000000000) : Calls Tryz.prog 109 #[.string (bs l)] w (Says (fitsL l) w) := by
  unfold fitsL
  by_cases hl : l.length ≤ 131072
  · rw [if_pos hl]
    have hi : ¬ (131072 : Int) < l.length := by omega
    go_enter Tryz.func109, Tryz.ntmps109
    go_wp2
    go_ret
    exact ⟨rfl, by (repeat (first | exact Below.refl _ _ | refine below_drewN ?_ _ | refine Below.drew ?_ | refine Below.alloc ?_ (by first | omega | (simp; done) | (simp; omega)) _ | refine Below.setCell ?_ (by first | omega | (simp; done) | (simp; omega)) _ | refine bel_alloc ?_ _ | refine bel_trans ?_ (by assumption) | refine Below.trans ?_ (Below.mono (by assumption) (by first | omega | (simp; done) | (simp; omega)))))⟩
  · rw [if_neg hl]
    have hi : (131072 : Int) < l.length := by omega
    go_enter Tryz.func109, Tryz.ntmps109
    go_wp2
    go_ret
    exact ⟨rfl, by (repeat (first | exact Below.refl _ _ | refine below_drewN ?_ _ | refine Below.drew ?_ | refine Below.alloc ?_ (by first | omega | (simp; done) | (simp; omega)) _ | refine Below.setCell ?_ (by first | omega | (simp; done) | (simp; omega)) _ | refine bel_alloc ?_ _ | refine bel_trans ?_ (by assumption) | refine Below.trans ?_ (Below.mono (by assumption) (by first | omega | (simp; done) | (simp; omega)))))⟩
theorem rNumber_any (n : Int) (w : World) : Calls Tryz.prog 111 #[.int .i64 n] w fun e w' => e = .returned (.bool (okN n)) ∧ w = w' := by
  go_enter Tryz.func111, Tryz.ntmps111
  go_wp2
  all_goals go_ret
  all_goals exact ⟨ret_bool (by unfold okN; (first | (simp_all; done) | (simp_all; omega) | (rw [Bool.eq_iff_iff]; simp_all; done) | (rw [Bool.eq_iff_iff]; simp_all; omega))), rfl⟩
theorem rText_any (s : ByteArray) (m : Int) (w : World) (hs : s.size ≤ 9223372036854775807) : Calls Tryz.prog 108 #[.string s, .int .i64 m] w fun e w' => e = .returned (.bool (decide (1 ≤ s.size ∧ (s.size : Int) ≤ m))) ∧ w = w' := by
  go_enter Tryz.func108, Tryz.ntmps108
  go_wp2
  all_goals go_ret
  all_goals exact ⟨ret_bool (by (first | (simp_all; done) | (simp_all; omega) | (rw [Bool.eq_iff_iff]; simp_all; done) | (rw [Bool.eq_iff_iff]; simp_all; omega))), rfl⟩
/-- The kind of a term, or 0. -/
def kindO (o : Option Tm) : Nat := match o with
  | some t => t.k
  | none => 0
theorem txt_head {o : Option Tm} (h : fineO o) : o = none ∨ ∃ t r, o = some t ∧ txt o = UInt8.ofNat (240 + t.k) :: r ∧ 1 ≤ t.k ∧ t.k ≤ 10 := by
  cases o with
  | none => exact .inl rfl
  | some t =>
    obtain ⟨r, hr⟩ := enc_head t (h t rfl).1
    exact .inr ⟨t, r, rfl, hr, good_k (h t rfl).1⟩
set_option maxRecDepth 100000 in
theorem rKind_any {o : Option Tm} (h : fineO o) (w : World) : Calls Tryz.prog 58 #[.string (tx o)] w fun e w' => e = .returned (.int .i64 (kindO o)) ∧ w = w' := by
  rcases txt_head h with rfl | ⟨t, r, rfl, ht, h1, h2⟩
  · rw [tx_none]
    go_enter Tryz.func58, Tryz.ntmps58
    go_wp2
    go_ret
    exact ⟨rfl, rfl⟩
  · have hl := tx_len h
    unfold tx
    rw [ht] at hl ⊢
    have hz : 0 < (bs (UInt8.ofNat (240 + t.k) :: r)).size := by rw [bs_size]; simp
    have hz2 : (bs (UInt8.ofNat (240 + t.k) :: r)).size ≤ 131072 := by rw [bs_size]; exact hl
    have hb : (bs (UInt8.ofNat (240 + t.k) :: r))[0].toNat = 240 + t.k := by
      show (UInt8.ofNat (240 + t.k)).toNat = _
      rw [UInt8.toNat_ofNat']
      omega
    generalize bs (UInt8.ofNat (240 + t.k) :: r) = s at hz hz2 hb
    have hb1 : (241 : Int) ≤ (s[0].toNat : Int) := by omega
    have hb2 : (s[0].toNat : Int) ≤ 250 := by omega
    have Hb := hide hb
    clear hl ht h hb
    have hzi : (0 : Int) < (s.size : Int) := by omega
    have hzn : ((s.size : Int) == 0) = false := beq_eq_false_iff_ne.2 (by omega)
    go_enter Tryz.func58, Tryz.ntmps58
    go_wp2_with fail
    go_ret
    exact ⟨ret_int (by have := Hb.out; show _ = ((t.k : Nat) : Int); omega), rfl⟩
theorem enc_data (s : ByteArray) : [UInt8.ofNat (240 + 1)] ++ q4 s.size ++ s.data.toList = enc (.mk 1 0 0 s []) := by
  simp [enc, head, mid, encs]
theorem fits_lim (t : Tm) : fitsL (enc t) = txt (lim t) := by
  unfold lim fitsL
  split <;> rfl
end Go.Proofs.YtkpikfdfekggbaaGreatDoor
