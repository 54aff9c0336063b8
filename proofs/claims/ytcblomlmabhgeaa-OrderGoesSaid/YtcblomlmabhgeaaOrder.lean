/-
  The contracts of package order's functions. Conditions: none.
-/
import Derived.Test.YtcblomlmabhgeaaSchemaW
import Derived.Test.YtcblomlmabhgeaaBase2
namespace Go.Proofs.Ytcblomlmabhgeaa
open Go.RowKit

def ofKex (n : Int) : Bool := decide (30 ≤ n) && decide (n ≤ 49)
theorem ofKex_any (n : Int) (w : World) : Calls Try.prog 34 #[.int .i64 n] w fun e w' => e = .returned (.bool (ofKex n)) ∧ w = w' := by
  go_enter Try.func34, Try.ntmps34
  go_wp2
  all_goals (go_ret; refine ⟨ret_bool ?_, rfl⟩; (first | (simp_all [ofKex]; done) | (simp_all [ofKex]; omega) | (rw [Bool.eq_iff_iff]; simp_all [ofKex]; done) | (rw [Bool.eq_iff_iff]; simp_all [ofKex]; omega)))
def chatter (n : Int) : Bool := decide (2 ≤ n) && decide (n ≤ 4)
theorem chatter_any (n : Int) (w : World) : Calls Try.prog 35 #[.int .i64 n] w fun e w' => e = .returned (.bool (chatter n)) ∧ w = w' := by
  go_enter Try.func35, Try.ntmps35
  go_wp2
  all_goals (go_ret; refine ⟨ret_bool ?_, rfl⟩; (first | (simp_all [chatter]; done) | (simp_all [chatter]; omega) | (rw [Bool.eq_iff_iff]; simp_all [chatter]; done) | (rw [Bool.eq_iff_iff]; simp_all [chatter]; omega)))
def within (p : Int) (f : Bool) (n : Int) : Int := if (p = 1 ∧ n = 20) ∨ (p = 2 ∧ ofKex n = true) ∨ (p = 3 ∧ n = 21) then 1 else if chatter n = true ∧ f = false then 2 else 0
set_option maxHeartbeats 400000 in
theorem within_any (p n : Int) (f : Bool) (w : World) : Calls Try.prog 30 #[.int .i64 p, .bool f, .int .i64 n] w fun e w' => e = .returned (.int .i64 (within p f n)) ∧ w = w' := by
  go_enter Try.func30, Try.ntmps30
  go_wp2_with (first | (go_at_call 34; refine (ofKex_any _ _).mono ?_; rintro e w' ⟨rfl, rfl⟩) | (go_at_call 35; refine (chatter_any _ _).mono ?_; rintro e w' ⟨rfl, rfl⟩))
  all_goals (go_ret; refine ⟨ret_int ?_, rfl⟩; simp_all [within])
theorem wanted_any (b : Bool) (w : World) : Calls Try.prog 36 #[.bool b] w fun e w' => e = .returned (.int .i64 (if b then 1 else 0)) ∧ w = w' := by
  go_enter Try.func36, Try.ntmps36
  go_wp2
  all_goals (go_ret; refine ⟨ret_int ?_, rfl⟩; simp_all)
def oopen (s : Bool) (n : Int) : Int :=
  if n = 20 then 1 else if n = 2 ∨ n = 3 ∨ n = 4 then 2 else if n = 5 ∨ n = 50 then (if s then 1 else 0) else if n = 7 then (if s then 2 else 1)
  else if n = 6 ∨ n = 51 ∨ n = 52 ∨ n = 53 ∨ n = 60 then (if s then 0 else 1) else if known n = true ∨ ofKex n = true then 0 else 3
set_option maxHeartbeats 1000000 in
theorem oopen_any (n : Int) (s : Bool) (w : World) : Calls Try.prog 31 #[.bool s, .int .i64 n] w fun e w' => e = .returned (.int .i64 (oopen s n)) ∧ Below w.heap.size w w' := by
  go_enter Try.func31, Try.ntmps31
  go_wp2_with (first | (go_at_call 34; refine (ofKex_any _ _).mono ?_; rintro e w' ⟨rfl, rfl⟩) | (go_at_call 36; refine (wanted_any _ _).mono ?_; rintro e w' ⟨rfl, rfl⟩) | (go_at_call 21; refine (known_any _ _).mono ?_; rintro e w' ⟨rfl, hb⟩))
  all_goals (go_ret; refine ⟨ret_int ?_, by first | assumption | exact Below.refl _ _⟩; simp_all [oopen])
def judge (p : Int) (f s : Bool) (n : Int) : Int :=
  if n < 0 ∨ 255 < n then 0 else if p = 1 ∨ p = 2 ∨ p = 3 then (if n = 1 then 4 else within p f n) else if p = 4 then (if n = 1 then 4 else oopen s n) else 0
set_option maxHeartbeats 1000000 in
theorem judge_any (p n : Int) (f s : Bool) (w : World) : Calls Try.prog 14 #[.int .i64 p, .bool f, .bool s, .int .i64 n] w fun e w' => e = .returned (.int .i64 (judge p f s n)) ∧ Below w.heap.size w w' := by
  go_enter Try.func14, Try.ntmps14
  go_wp2_with (first | (go_at_call 30; refine (within_any _ _ _ _).mono ?_; rintro e w' ⟨rfl, rfl⟩) | (go_at_call 31; refine (oopen_any _ _ _).mono ?_; rintro e w' ⟨rfl, hb⟩))
  all_goals (go_ret; refine ⟨ret_int ?_, by first | assumption | exact Below.refl _ _⟩; unfold judge; (repeat (first | rfl | rw [if_pos (by first | omega | (simp_all; done) | (simp_all; omega))] | rw [if_neg (by first | omega | (simp_all; done) | (simp_all; omega))])))
def may (x : Bool) (n : Int) : Bool := if n < 1 ∨ 255 < n then false else if x then decide (n ≤ 4) || (decide (20 ≤ n) && decide (n ≤ 49)) else decide (n ≠ 21) && !ofKex n
set_option maxHeartbeats 1000000 in
theorem may_any (x : Bool) (n : Int) (w : World) : Calls Try.prog 25 #[.bool x, .int .i64 n] w fun e w' => e = .returned (.bool (may x n)) ∧ w = w' := by
  go_enter Try.func25, Try.ntmps25
  go_wp2_with (go_at_call 34; refine (ofKex_any _ _).mono ?_; rintro e w' ⟨rfl, rfl⟩)
  all_goals (go_ret; refine ⟨ret_bool ?_, rfl⟩; unfold may)
  all_goals (first | (simp_all; done) | (simp_all; omega) | (rw [Bool.eq_iff_iff]; simp_all; done) | (rw [Bool.eq_iff_iff]; simp_all; omega))
def phaseW (n : Int) : ByteArray := if n = 0 then ⟨#[108, 105, 110, 101]⟩ else if n = 1 then ⟨#[105, 110, 105, 116]⟩ else if n = 2 then ⟨#[107, 101, 120]⟩ else if n = 3 then ⟨#[110, 101, 119]⟩ else if n = 4 then ⟨#[111, 112, 101, 110]⟩ else if n = 5 then ⟨#[100, 101, 97, 100]⟩ else ⟨#[]⟩
theorem phaseW_any (n : Int) (w : World) : Calls Try.prog 27 #[.int .i64 n] w fun e w' => e = .returned (.string (phaseW n)) ∧ w = w' := by
  go_enter Try.func27, Try.ntmps27
  go_wp2
  all_goals (go_ret; refine ⟨?_, rfl⟩; simp_all [phaseW])
def verdictW (n : Int) : ByteArray := if n = 0 then ⟨#[119, 114, 111, 110, 103]⟩ else if n = 1 then ⟨#[116, 97, 107, 101]⟩ else if n = 2 then ⟨#[112, 97, 115, 115]⟩ else if n = 3 then ⟨#[115, 116, 114, 97, 110, 103, 101]⟩ else if n = 4 then ⟨#[99, 108, 111, 115, 101]⟩ else ⟨#[]⟩
theorem verdictW_any (n : Int) (w : World) : Calls Try.prog 29 #[.int .i64 n] w fun e w' => e = .returned (.string (verdictW n)) ∧ w = w' := by
  go_enter Try.func29, Try.ntmps29
  go_wp2
  all_goals (go_ret; refine ⟨?_, rfl⟩; simp_all [verdictW])
end Go.Proofs.Ytcblomlmabhgeaa
