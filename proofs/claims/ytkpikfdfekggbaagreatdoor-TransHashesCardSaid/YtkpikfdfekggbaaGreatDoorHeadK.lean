/-
  code's head, kind by kind (2 and 5, whose places draw their order, are not here): a view's leading bytes. Printed alike for each kind.
-/
import Derived.Test.YtkpikfdfekggbaaGreatDoorHead
namespace Go.Proofs.YtkpikfdfekggbaaGreatDoor
open Go.RowKit Go.ChangeShapes Go.WideShapes
section
variable {w : World}
set_option maxHeartbeats 4000000 in
theorem cHead1 (a b : Nat) (l : List UInt8) (A : Option Addr) (n c : Nat) (w : World) (ha : a < 4294967296) (hb : b < 4294967296) (hn : n < 4294967296) (hl : l.length < 4294967296) :
    Calls Tryz.prog 89 #[.agg #[.int .i64 1, .int .i64 a, .int .i64 b, .string (bs l), .slice A n c]] w (Says (head 1 a b l n) w) := by
  go_enter Tryz.func89, Tryz.ntmps89
  go_wp2_with (first
    | (go_at_call 124; refine (cText_any l _ hl).mono ?_; rintro e w1 ⟨rfl, hb1⟩)
    | (go_at_call 125; refine (cNum_any _ _ (by omega)).mono ?_; rintro e w1 ⟨rfl, hb1⟩))
  go_ret
  refine ⟨ret_bs ?_, by (repeat (first | exact Below.refl _ _ | refine below_drewN ?_ _ | refine Below.drew ?_ | refine Below.alloc ?_ (by first | omega | (simp; done) | (simp; omega)) _ | refine Below.setCell ?_ (by first | omega | (simp; done) | (simp; omega)) _ | refine bel_alloc ?_ _ | refine bel_trans ?_ (by assumption) | refine Below.trans ?_ (Below.mono (by assumption) (by first | omega | (simp; done) | (simp; omega)))))⟩
  simp [head, mid, strOfNums_data, bs]
set_option maxHeartbeats 4000000 in
theorem cHead3 (a b : Nat) (l : List UInt8) (A : Option Addr) (n c : Nat) (w : World) (ha : a < 4294967296) (hb : b < 4294967296) (hn : n < 4294967296) (hl : l.length < 4294967296) :
    Calls Tryz.prog 89 #[.agg #[.int .i64 3, .int .i64 a, .int .i64 b, .string (bs l), .slice A n c]] w (Says (head 3 a b l n) w) := by
  go_enter Tryz.func89, Tryz.ntmps89
  go_wp2_with (first
    | (go_at_call 124; refine (cText_any l _ hl).mono ?_; rintro e w1 ⟨rfl, hb1⟩)
    | (go_at_call 125; refine (cNum_any _ _ (by omega)).mono ?_; rintro e w1 ⟨rfl, hb1⟩))
  go_ret
  refine ⟨ret_bs ?_, by (repeat (first | exact Below.refl _ _ | refine below_drewN ?_ _ | refine Below.drew ?_ | refine Below.alloc ?_ (by first | omega | (simp; done) | (simp; omega)) _ | refine Below.setCell ?_ (by first | omega | (simp; done) | (simp; omega)) _ | refine bel_alloc ?_ _ | refine bel_trans ?_ (by assumption) | refine Below.trans ?_ (Below.mono (by assumption) (by first | omega | (simp; done) | (simp; omega)))))⟩
  simp [head, mid, strOfNums_data, bs]
set_option maxHeartbeats 4000000 in
theorem cHead4 (a b : Nat) (l : List UInt8) (A : Option Addr) (n c : Nat) (w : World) (ha : a < 4294967296) (hb : b < 4294967296) (hn : n < 4294967296) (hl : l.length < 4294967296) :
    Calls Tryz.prog 89 #[.agg #[.int .i64 4, .int .i64 a, .int .i64 b, .string (bs l), .slice A n c]] w (Says (head 4 a b l n) w) := by
  go_enter Tryz.func89, Tryz.ntmps89
  go_wp2_with (first
    | (go_at_call 124; refine (cText_any l _ hl).mono ?_; rintro e w1 ⟨rfl, hb1⟩)
    | (go_at_call 125; refine (cNum_any _ _ (by omega)).mono ?_; rintro e w1 ⟨rfl, hb1⟩))
  go_ret
  refine ⟨ret_bs ?_, by (repeat (first | exact Below.refl _ _ | refine below_drewN ?_ _ | refine Below.drew ?_ | refine Below.alloc ?_ (by first | omega | (simp; done) | (simp; omega)) _ | refine Below.setCell ?_ (by first | omega | (simp; done) | (simp; omega)) _ | refine bel_alloc ?_ _ | refine bel_trans ?_ (by assumption) | refine Below.trans ?_ (Below.mono (by assumption) (by first | omega | (simp; done) | (simp; omega)))))⟩
  simp [head, mid, strOfNums_data, bs]
set_option maxHeartbeats 4000000 in
theorem cHead6 (a b : Nat) (l : List UInt8) (A : Option Addr) (n c : Nat) (w : World) (ha : a < 4294967296) (hb : b < 4294967296) (hn : n < 4294967296) (hl : l.length < 4294967296) :
    Calls Tryz.prog 89 #[.agg #[.int .i64 6, .int .i64 a, .int .i64 b, .string (bs l), .slice A n c]] w (Says (head 6 a b l n) w) := by
  go_enter Tryz.func89, Tryz.ntmps89
  go_wp2_with (first
    | (go_at_call 124; refine (cText_any l _ hl).mono ?_; rintro e w1 ⟨rfl, hb1⟩)
    | (go_at_call 125; refine (cNum_any _ _ (by omega)).mono ?_; rintro e w1 ⟨rfl, hb1⟩))
  go_ret
  refine ⟨ret_bs ?_, by (repeat (first | exact Below.refl _ _ | refine below_drewN ?_ _ | refine Below.drew ?_ | refine Below.alloc ?_ (by first | omega | (simp; done) | (simp; omega)) _ | refine Below.setCell ?_ (by first | omega | (simp; done) | (simp; omega)) _ | refine bel_alloc ?_ _ | refine bel_trans ?_ (by assumption) | refine Below.trans ?_ (Below.mono (by assumption) (by first | omega | (simp; done) | (simp; omega)))))⟩
  simp [head, mid, strOfNums_data, bs]
set_option maxHeartbeats 4000000 in
theorem cHead7 (a b : Nat) (l : List UInt8) (A : Option Addr) (n c : Nat) (w : World) (ha : a < 4294967296) (hb : b < 4294967296) (hn : n < 4294967296) (hl : l.length < 4294967296) :
    Calls Tryz.prog 89 #[.agg #[.int .i64 7, .int .i64 a, .int .i64 b, .string (bs l), .slice A n c]] w (Says (head 7 a b l n) w) := by
  go_enter Tryz.func89, Tryz.ntmps89
  go_wp2_with (first
    | (go_at_call 124; refine (cText_any l _ hl).mono ?_; rintro e w1 ⟨rfl, hb1⟩)
    | (go_at_call 125; refine (cNum_any _ _ (by omega)).mono ?_; rintro e w1 ⟨rfl, hb1⟩))
  go_ret
  refine ⟨ret_bs ?_, by (repeat (first | exact Below.refl _ _ | refine below_drewN ?_ _ | refine Below.drew ?_ | refine Below.alloc ?_ (by first | omega | (simp; done) | (simp; omega)) _ | refine Below.setCell ?_ (by first | omega | (simp; done) | (simp; omega)) _ | refine bel_alloc ?_ _ | refine bel_trans ?_ (by assumption) | refine Below.trans ?_ (Below.mono (by assumption) (by first | omega | (simp; done) | (simp; omega)))))⟩
  simp [head, mid, strOfNums_data, bs]
set_option maxHeartbeats 4000000 in
theorem cHead9 (a b : Nat) (l : List UInt8) (A : Option Addr) (n c : Nat) (w : World) (ha : a < 4294967296) (hb : b < 4294967296) (hn : n < 4294967296) (hl : l.length < 4294967296) :
    Calls Tryz.prog 89 #[.agg #[.int .i64 9, .int .i64 a, .int .i64 b, .string (bs l), .slice A n c]] w (Says (head 9 a b l n) w) := by
  go_enter Tryz.func89, Tryz.ntmps89
  go_wp2_with (first
    | (go_at_call 124; refine (cText_any l _ hl).mono ?_; rintro e w1 ⟨rfl, hb1⟩)
    | (go_at_call 125; refine (cNum_any _ _ (by omega)).mono ?_; rintro e w1 ⟨rfl, hb1⟩))
  go_ret
  refine ⟨ret_bs ?_, by (repeat (first | exact Below.refl _ _ | refine below_drewN ?_ _ | refine Below.drew ?_ | refine Below.alloc ?_ (by first | omega | (simp; done) | (simp; omega)) _ | refine Below.setCell ?_ (by first | omega | (simp; done) | (simp; omega)) _ | refine bel_alloc ?_ _ | refine bel_trans ?_ (by assumption) | refine Below.trans ?_ (Below.mono (by assumption) (by first | omega | (simp; done) | (simp; omega)))))⟩
  simp [head, mid, strOfNums_data, bs]
set_option maxHeartbeats 4000000 in
theorem cHead10 (a b : Nat) (l : List UInt8) (A : Option Addr) (n c : Nat) (w : World) (ha : a < 4294967296) (hb : b < 4294967296) (hn : n < 4294967296) (hl : l.length < 4294967296) :
    Calls Tryz.prog 89 #[.agg #[.int .i64 10, .int .i64 a, .int .i64 b, .string (bs l), .slice A n c]] w (Says (head 10 a b l n) w) := by
  go_enter Tryz.func89, Tryz.ntmps89
  go_wp2_with (first
    | (go_at_call 124; refine (cText_any l _ hl).mono ?_; rintro e w1 ⟨rfl, hb1⟩)
    | (go_at_call 125; refine (cNum_any _ _ (by omega)).mono ?_; rintro e w1 ⟨rfl, hb1⟩))
  go_ret
  refine ⟨ret_bs ?_, by (repeat (first | exact Below.refl _ _ | refine below_drewN ?_ _ | refine Below.drew ?_ | refine Below.alloc ?_ (by first | omega | (simp; done) | (simp; omega)) _ | refine Below.setCell ?_ (by first | omega | (simp; done) | (simp; omega)) _ | refine bel_alloc ?_ _ | refine bel_trans ?_ (by assumption) | refine Below.trans ?_ (Below.mono (by assumption) (by first | omega | (simp; done) | (simp; omega)))))⟩
  simp [head, mid, strOfNums_data, bs]
set_option maxHeartbeats 4000000 in
theorem cHead8 (a b : Nat) (l : List UInt8) (A : Option Addr) (n c : Nat) (w : World) (ha : a < 4294967296) (hb : b < 256) (hn : n < 4294967296) (hl : l.length < 4294967296) :
    Calls Tryz.prog 89 #[.agg #[.int .i64 8, .int .i64 a, .int .i64 b, .string (bs l), .slice A n c]] w (Says (head 8 a b l n) w) := by
  have h8 : (b : Int) % 256 = b := by omega
  go_enter Tryz.func89, Tryz.ntmps89
  go_wp2_with (first
    | (go_at_call 124; refine (cText_any l _ hl).mono ?_; rintro e w1 ⟨rfl, hb1⟩)
    | (go_at_call 125; refine (cNum_any _ _ (by omega)).mono ?_; rintro e w1 ⟨rfl, hb1⟩))
  go_ret
  refine ⟨ret_bs ?_, by (repeat (first | exact Below.refl _ _ | refine below_drewN ?_ _ | refine Below.drew ?_ | refine Below.alloc ?_ (by first | omega | (simp; done) | (simp; omega)) _ | refine Below.setCell ?_ (by first | omega | (simp; done) | (simp; omega)) _ | refine bel_alloc ?_ _ | refine bel_trans ?_ (by assumption) | refine Below.trans ?_ (Below.mono (by assumption) (by first | omega | (simp; done) | (simp; omega)))))⟩
  simp [head, mid, strOfNums_data, bs]
end
end Go.Proofs.YtkpikfdfekggbaaGreatDoor
