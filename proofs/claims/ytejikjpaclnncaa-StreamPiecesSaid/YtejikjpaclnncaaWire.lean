/-
  The contracts of code.U32 and of package wire's reader as package frame uses it. Conditions: numbers fit their kinds.
-/
import Derived.Test.YtejikjpaclnncaaBase3
namespace Go.Proofs.Ytejikjpaclnncaa
open Go.RowKit

def u32b (n : Nat) : List UInt8 := [UInt8.ofNat (n / 16777216), UInt8.ofNat (n / 65536), UInt8.ofNat (n / 256), UInt8.ofNat n]
theorem ofNat_mod (n : Nat) : UInt8.ofNat (n % 256) = UInt8.ofNat n := by
  apply UInt8.toNat_inj.1
  simp
theorem u32_any (n : Int) (w : World) (h0 : 0 ≤ n) (h1 : n < 4294967296) : Calls Try.prog 42 #[.int .u32 n] w fun e w' => ∃ r, e = .returned (.string r) ∧ r.data.toList = u32b n.toNat ∧ r.size ≤ 4 ∧ Below w.heap.size w w' := by
  go_enter Try.func42, Try.ntmps42
  go_wp2
  go_ret
  refine ⟨_, rfl, ?_, by rw [strOfNums_size]; simp, by (repeat (first | exact Below.refl _ _ | refine below_drewN ?_ _ | refine Below.drew ?_ | refine Below.alloc ?_ (by first | omega | (simp; done) | (simp; omega)) _ | refine Below.setCell ?_ (by first | omega | (simp; done) | (simp; omega)) _ | refine bel_alloc ?_ _ | refine bel_trans ?_ (by assumption) | refine Below.trans ?_ (Below.mono (by assumption) (by first | omega | (simp; done) | (simp; omega)))))⟩
  rw [strOfNums_data, u32b]
  have e1 : (n / 16777216).toNat = n.toNat / 16777216 := by omega
  have e2 : (n / 65536 % 256).toNat = n.toNat / 65536 % 256 := by omega
  have e3 : (n / 256 % 256).toNat = n.toNat / 256 % 256 := by omega
  have e4 : (n % 256).toNat = n.toNat % 256 := by omega
  simp only [List.map_cons, List.map_nil, e1, e2, e3, e4, ofNat_mod]
def numb (l : List UInt8) : Nat := l.foldl (fun a b => a * 256 % 4294967296 + b.toNat) 0
theorem numb_snoc (l : List UInt8) (b : UInt8) : numb (l ++ [b]) = numb l * 256 % 4294967296 + b.toNat := by
  unfold numb
  rw [List.foldl_append]
  rfl
theorem numb_lt (l : List UInt8) : numb l < 4294967296 := by
  have h : ∀ (l : List UInt8) (a : Nat), a < 4294967296 → l.foldl (fun a b => a * 256 % 4294967296 + b.toNat) a < 4294967296 := by
    intro l
    induction l with
    | nil => exact fun a h => h
    | cons b l ih =>
      intro a _
      refine ih _ ?_
      have := b.toNat_lt
      show a * 256 % 4294967296 + b.toNat < 4294967296
      omega
  exact h l 0 (by omega)
theorem or_low (y b : Nat) (hb : b < 256) : bits .or .u32 ((y : Int) * 256 % 4294967296) ((b : Int) % 4294967296) = ((y * 256 % 4294967296 + b : Nat) : Int) := by
  have e1 : ((y : Int) * 256 % 4294967296) = ((y * 256 % 4294967296 : Nat) : Int) := by omega
  have e2 : ((b : Int) % 4294967296) = ((b : Nat) : Int) := by omega
  rw [e1, e2, u32_or_nat _ _ (by omega) (by omega)]
  have e3 : y * 256 % 4294967296 = (y % 16777216) <<< 8 := by rw [Nat.shiftLeft_eq]; omega
  rw [e3, Nat.shiftLeft_add_eq_or_of_lt (by omega)]
theorem number_any (s : ByteArray) (w : World) (hs : s.size ≤ 9223372036854775807) : Calls Try.prog 59 #[.string s] w fun e w' => e = .returned (.int .u32 (numb s.data.toList)) ∧ w = w' := by
  go_enter Try.func59, Try.ntmps59
  go_wp2
  go_loop [3, 7] (fun v i => ∃ k y : Nat, y < 4294967296 ∧ k ≤ s.size ∧ i = .int .i64 k ∧ v = .int .u32 y ∧ Hid (y = numb (s.data.toList.take k))) (fun _ i => s.size - (intOf i).toNat)
  case atStart => exact ⟨0, 0, by omega, Nat.zero_le _, rfl, rfl, hide rfl⟩
  case round =>
    obtain ⟨k, y, hy, hk, rfl, rfl, H⟩ := hrel
    by_cases hlt : k < s.size
    · have Hb := hide (or_low y s[k].toNat s[k].toNat_lt)
      go_wp2
      rw [Hb.out]
      go_round
      case rel =>
        refine ⟨k + 1, _, ?_, hlt, by go_num, rfl, hide ?_⟩
        · have := s[k].toNat_lt
          omega
        · rw [H.out]
          have hl : k < s.data.toList.length := hlt
          rw [List.take_succ_eq_append_getElem hl, numb_snoc]
          rfl
      case measure => simp [intOf]; omega
    · go_wp2
      go_ret
      exact ⟨ret_int (by rw [H.out, List.take_of_length_le (by show s.size ≤ k; omega)]), rfl⟩
/-- A reader of package wire: its bytes, its place and its error, in block g. -/
def Rd (w : World) (g : Nat) (s : ByteArray) (p : Nat) (e : Int) : Prop := Blk w g 81 #[.string s, .int .i64 p, .int .i64 e]
theorem new_any (s : ByteArray) (w : World) : Calls Try.prog 43 #[.string s] w fun e w' => e = .returned (.pointer (some ⟨w.heap.size, 0, none⟩)) ∧ Rd w' w.heap.size s 0 0 ∧ Below w.heap.size w w' := by
  go_enter Try.func43, Try.ntmps43
  go_wp2
  go_ret
  exact ⟨rfl, Blk.new _ _ _, by (repeat (first | exact Below.refl _ _ | refine below_drewN ?_ _ | refine Below.drew ?_ | refine Below.alloc ?_ (by first | omega | (simp; done) | (simp; omega)) _ | refine Below.setCell ?_ (by first | omega | (simp; done) | (simp; omega)) _ | refine bel_alloc ?_ _ | refine bel_trans ?_ (by assumption) | refine Below.trans ?_ (Below.mono (by assumption) (by first | omega | (simp; done) | (simp; omega)))))⟩
theorem err_any {s : ByteArray} {g p : Nat} {x : Int} {w : World} (h : Rd w g s p x) : Calls Try.prog 66 #[.pointer (some ⟨g, 0, none⟩)] w fun e w' => e = .returned (.int .i64 x) ∧ w = w' := by
  have h0 : w.cell? ⟨g, 2, none⟩ = some (.int .i64 x) := Blk.cell h 2
  go_enter Try.func66, Try.ntmps66
  go_wp2
  go_ret
  exact ⟨rfl, rfl⟩
theorem left_any {s : ByteArray} {g p : Nat} {x : Int} {w : World} (h : Rd w g s p x) (hp : p ≤ s.size) (hs : s.size ≤ 9223372036854775807) : Calls Try.prog 67 #[.pointer (some ⟨g, 0, none⟩)] w fun e w' => e = .returned (.int .i64 ((s.size : Int) - p)) ∧ ∃ n, w' = w.drewN n := by
  have h0 : w.cell? ⟨g, 0, none⟩ = some (.string s) := Blk.cell h 0
  have h1 : w.cell? ⟨g, 1, none⟩ = some (.int .i64 p) := Blk.cell h 1
  go_enter Try.func67, Try.ntmps67
  go_wp2
  go_quiet (fail)
  go_wp2
  go_ret
  exact ⟨rfl, _, rfl⟩
theorem all_any (s : ByteArray) (w : World) : Calls Try.prog 61 #[.string s] w fun e w' => e = .returned (.bool true) ∧ w = w' := by
  go_enter Try.func61, Try.ntmps61
  go_wp2
  go_ret
  exact ⟨rfl, rfl⟩
end Go.Proofs.Ytejikjpaclnncaa
