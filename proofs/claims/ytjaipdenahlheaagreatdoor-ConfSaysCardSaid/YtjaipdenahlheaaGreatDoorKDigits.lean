/-
  The contracts of kexinit.Cookie and of the reference's: seven bytes of seven bits. Conditions: none.
-/
import Derived.Test.YtjaipdenahlheaaGreatDoorKAsG
import Derived.Laws.Bits128
set_option linter.unusedVariables false
set_option linter.unusedSimpArgs false
namespace Go.Proofs.YtjaipdenahlheaaGreatDoor
open Go.RowKit

def dgN (N j : Nat) : Nat := N / 128 ^ (6 - j) % 128
def row7 (N k : Nat) : List Int := (List.range 7).map fun j => if 7 - k ≤ j then (dgN N j : Int) else 0
def dig (N : Nat) : List UInt8 := (List.range 7).map fun j => UInt8.ofNat (dgN N j)
theorem digs_len (N : Nat) : (dig N).length = 7 := by simp [dig]
theorem row7_len (N k : Nat) : (row7 N k).length = 7 := by simp [row7]
theorem row7_zero (N : Nat) : row7 N 0 = [0, 0, 0, 0, 0, 0, 0] := by
  unfold row7
  rw [show List.range 7 = [0, 1, 2, 3, 4, 5, 6] from rfl]
  simp
theorem row7_succ (N k : Nat) (h : k < 7) : (row7 N k).set (6 - k) ((N / 128 ^ k % 128 : Nat) : Int) = row7 N (k + 1) := by
  refine List.ext_getElem? fun j => ?_
  rw [List.getElem?_set]
  simp only [row7, List.length_map, List.length_range, List.getElem?_map]
  by_cases h7 : j < 7
  · rw [List.getElem?_range h7]
    simp only [Option.map_some]
    by_cases hj : 6 - k = j
    · subst hj
      rw [if_pos rfl, if_pos (by omega), if_pos (by omega)]
      unfold dgN
      rw [show 6 - (6 - k) = k by omega]
    · rw [if_neg hj]
      congr 1
      by_cases h1 : 7 - k ≤ j
      · rw [if_pos h1, if_pos (by omega)]
      · rw [if_neg h1, if_neg (by omega)]
  · rw [List.getElem?_eq_none (l := List.range 7) (by simp; omega)]
    rw [if_neg (by omega)]
    rfl
theorem row7_done (N : Nat) : (row7 N 7).map (fun x => UInt8.ofNat x.toNat) = dig N := by
  simp [row7, dig]
theorem div_step (N k : Nat) : N / 128 ^ k / 128 = N / 128 ^ (k + 1) := by rw [Nat.div_div_eq_div_mul, Nat.pow_succ]
set_option maxHeartbeats 1000000 in
theorem digits_any (n : Int) (w : World) (h1 : n ≤ 9223372036854775807) : Calls Tryz.prog 86 #[.int .i64 n] w fun e w' => ∃ r, e = .returned (.string r) ∧ r.data.toList = dig n.toNat ∧ r.size ≤ 7 ∧ Below w.heap.size w w' := by
  obtain ⟨N, hN, hmax⟩ : ∃ N : Nat, n.toNat = N ∧ (n < 0 ∧ N = 0 ∨ n = N) := ⟨n.toNat, rfl, by omega⟩
  have hb : N ≤ 9223372036854775807 := by omega
  rw [hN]
  clear hN
  have hmk : ∀ w, (Instr.makeSlice 163 (.int .i64 7) (.int .i64 7)).run Tryz.prog w = .ok (.slice (some ⟨w.heap.size, 0, none⟩) 7 7) (w.alloc (.cells #[.int .u8 0, .int .u8 0, .int .u8 0, .int .u8 0, .int .u8 0, .int .u8 0, .int .u8 0] 5)) := fun _ => by kernel_rfl
  have h0 := Blk.new w 5 ((row7 N 0).map (Value.int .u8)).toArray
  rw [row7_zero] at h0
  have H0 := hide h0
  clear h0
  rcases hmax with ⟨hneg, hz⟩ | rfl
  all_goals
    first | (have HZ := hide hz; clear hz) | have HZ := hide (rfl : N = N)
    go_enter Tryz.func86, Tryz.ntmps86
    go_wp2
    go_loopw [10, 4, 0] (fun i _ x wr => ∃ k m : Nat, k ≤ 7 ∧ i = .int .i64 k ∧ x = .int .i64 m ∧ m ≤ 9223372036854775807 ∧ Hid (m = N / 128 ^ k) ∧ Blk wr w.heap.size 5 ((row7 N k).map (Value.int .u8)).toArray ∧ Below w.heap.size w wr) (fun i _ _ _ => 7 - (intOf i).toNat)
  case atStart => exact ⟨0, 0, by omega, rfl, rfl, by omega, hide (by rw [HZ.out]), by rw [row7_zero]; exact H0.out, by (repeat (first | exact Below.refl _ _ | refine below_drewN ?_ _ | refine Below.drew ?_ | refine Below.alloc ?_ (by first | omega | (simp; done) | (simp; omega)) _ | refine Below.setCell ?_ (by first | omega | (simp; done) | (simp; omega)) _ | refine bel_alloc ?_ _ | refine bel_trans ?_ (by assumption) | refine Below.trans ?_ (Below.mono (by assumption) (by first | omega | (simp; done) | (simp; omega)))))⟩
  case atStart => exact ⟨0, N, by omega, rfl, rfl, by omega, hide (by simp), by rw [row7_zero]; exact H0.out, by (repeat (first | exact Below.refl _ _ | refine below_drewN ?_ _ | refine Below.drew ?_ | refine Below.alloc ?_ (by first | omega | (simp; done) | (simp; omega)) _ | refine Below.setCell ?_ (by first | omega | (simp; done) | (simp; omega)) _ | refine bel_alloc ?_ _ | refine bel_trans ?_ (by assumption) | refine Below.trans ?_ (Below.mono (by assumption) (by first | omega | (simp; done) | (simp; omega)))))⟩
  all_goals
    obtain ⟨k, m, hk7, rfl, rfl, hm, H, hB, hbr⟩ := hrel
    by_cases hlt : k < 7
    · have hki : (k : Int) < 7 := by omega
      obtain ⟨q, hq⟩ : ∃ q, q = 6 - k := ⟨_, rfl⟩
      have hq6 : q ≤ 6 := by omega
      have hsub : (6 : Int) - k = (q : Int) := by omega
      have hfz := hB.frozen q
      have hq7 : q < (row7 N k).length := by rw [row7_len]; omega
      have hcl : wr.cell? ⟨w.heap.size, q, none⟩ = some (.int .u8 ((row7 N k)[q]'hq7)) := by
        rw [hB.cell q]
        simp [hq7]
      generalize (row7 N k)[q]'hq7 = old at hcl
      have hand := i64_and127 (m : Int)
      have Hq := hide hq
      clear hq hq7
      go_wp2
      go_round
      case rel =>
        refine ⟨k + 1, m / 128, by omega, by go_num, by go_num, by omega, hide (by rw [H.out, div_step]), ?_, by (repeat (first | exact Below.refl _ _ | refine below_drewN ?_ _ | refine Below.drew ?_ | refine Below.alloc ?_ (by first | omega | (simp; done) | (simp; omega)) _ | refine Below.setCell ?_ (by first | omega | (simp; done) | (simp; omega)) _ | refine bel_alloc ?_ _ | refine bel_trans ?_ (by assumption) | refine Below.trans ?_ (Below.mono (by assumption) (by first | omega | (simp; done) | (simp; omega)))))⟩
        have h2 := hB.set_ q (.int .u8 ((m : Int) % 128))
        have h3 := row7_succ N k hlt
        rw [← Hq.out, ← H.out] at h3
        rw [← h3]
        simpa using h2
      case measure => simp [intOf]; omega
    · have hki : ¬ (k : Int) < 7 := by omega
      obtain rfl : k = 7 := by omega
      have hcv := conv_top wr (row7 N 7) 7 w.heap.size 7 (row7_len _ _) _ rfl _ hB
      have hr := row7_done N
      go_wp2
      go_ret
      refine ⟨_, rfl, ?_, ?_, hbr⟩
      · rw [strOfNums_data]
        exact hr
      · rw [strOfNums_size, row7_len]
        exact Nat.le_refl _
def cookie (a b : Int) : List UInt8 := 99 :: (dig a.toNat ++ (dig b.toNat ++ [107]))
theorem cookie_len (a b : Int) : (cookie a b).length = 16 := by simp [cookie, digs_len]
theorem cookie_any (a b : Int) (w : World) (ha : a ≤ 9223372036854775807) (hb : b ≤ 9223372036854775807) : Calls Tryz.prog 37 #[.int .i64 a, .int .i64 b] w fun e w' => ∃ r, e = .returned (.string r) ∧ r.data.toList = cookie a b ∧ Below w.heap.size w w' := by
  have h1 := hide (fun w => digits_any a w ha)
  have h2 := hide (fun w => digits_any b w hb)
  go_enter Tryz.func37, Tryz.ntmps37
  go_wp2_with fail
  refine (h1.out _).mono ?_
  rintro e w1 ⟨r1, rfl, hr1, hs1, hb1⟩
  have Hr1 := hide hr1
  clear hr1
  go_wp2_with fail
  refine (h2.out _).mono ?_
  rintro e w2 ⟨r2, rfl, hr2, hs2, hb2⟩
  have Hr2 := hide hr2
  clear hr2
  have hb3 := bel_trans hb1 hb2
  go_wp2
  go_ret
  refine ⟨_, rfl, ?_, hb3⟩
  simp only [data_append, Hr1.out, Hr2.out, cookie]
  simp
end Go.Proofs.YtjaipdenahlheaaGreatDoor
