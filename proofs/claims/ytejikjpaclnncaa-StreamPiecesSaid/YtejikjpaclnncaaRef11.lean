/-
  The contracts of the reference for package frame. Conditions: texts of up to maxLen bytes.
-/
import Derived.Test.YtejikjpaclnncaaFrameNeed
import Derived.Deep.RegionWith
namespace Go.Proofs.Ytejikjpaclnncaa
open Go.RowKit

theorem rU32_any (n : Nat) (w : World) (h1 : n < 4294967296) : Calls Try.prog 46 #[.int .i64 n] w fun e w' => ∃ r, e = .returned (.string r) ∧ r.data.toList = u32b n ∧ r.size ≤ 4 ∧ Below w.heap.size w w' := by
  have h0 : (0 : Int) ≤ n := by omega
  go_enter Try.func46, Try.ntmps46
  go_wp2
  go_ret
  refine ⟨_, rfl, ?_, by rw [strOfNums_size]; simp, by (repeat (first | exact Below.refl _ _ | refine below_drewN ?_ _ | refine Below.drew ?_ | refine Below.alloc ?_ (by first | omega | (simp; done) | (simp; omega)) _ | refine Below.setCell ?_ (by first | omega | (simp; done) | (simp; omega)) _ | refine bel_alloc ?_ _ | refine bel_trans ?_ (by assumption) | refine Below.trans ?_ (Below.mono (by assumption) (by first | omega | (simp; done) | (simp; omega)))))⟩
  rw [strOfNums_data, u32b]
  have e1 : ((n : Int) / 16777216 % 256).toNat = n / 16777216 % 256 := by omega
  have e2 : ((n : Int) / 65536 % 256).toNat = n / 65536 % 256 := by omega
  have e3 : ((n : Int) / 256 % 256).toNat = n / 256 % 256 := by omega
  have e4 : ((n : Int) % 256).toNat = n % 256 := by omega
  simp only [List.map_cons, List.map_nil, e1, e2, e3, e4, ofNat_mod]
theorem rUnit_any (s : ByteArray) (w : World) (hs : s.size ≤ 1000000) : Calls Try.prog 17 #[.string s] w fun e w' => ∃ r, e = .returned (.string r) ∧ r.data.toList = unitB s.data.toList ∧ r.size ≤ s.size + 4 ∧ Below w.heap.size w w' := by
  go_enter Try.func17, Try.ntmps17
  go_wp2_with fail
  refine (rU32_any s.size _ (by omega)).mono ?_
  rintro e w2 ⟨r, rfl, hr, hz, hb⟩
  have Hr := hide hr
  clear hr
  go_wp2
  go_ret
  refine ⟨_, rfl, ?_, ?_, hb⟩
  · rw [data_append, Hr.out]
    rfl
  · rw [ByteArray.size_append]
    omega
theorem zeros_any (n : Nat) (w : World) (hn : n ≤ 1000000) : Calls Try.prog 45 #[.int .i64 n] w fun e w' => ∃ r, e = .returned (.string r) ∧ r.data.toList = List.replicate n 0 ∧ r.size = n ∧ Below w.heap.size w w' := by
  obtain ⟨w1, hmk, hblk, hb1⟩ := make_bytes w n hn
  have hcv := conv_blk (c := n) hblk (List.replicate n 0) n (by simp) (by
    intro j hj
    rw [Array.getElem?_replicate, if_pos (by simpa using hj)]
    simp)
  go_enter Try.func45, Try.ntmps45
  go_wp2
  go_ret
  exact ⟨⟨(List.replicate n 0).toArray⟩, rfl, rfl, by simp [ByteArray.size], hb1⟩
set_option maxHeartbeats 2000000 in
theorem rPack_any (s : ByteArray) (w : World) (hs : s.size ≤ 40000) : Calls Try.prog 16 #[.string s] w fun e w' => ∃ r, e = .returned (.string r) ∧ r.data.toList = unitB (packB s.data.toList) ∧ Below w.heap.size w w' := by
  have hsz : s.data.toList.length = s.size := rfl
  go_enter Try.func16, Try.ntmps16
  go_wp2
  go_loop [3] (fun v => ∃ k : Nat, 4 ≤ k ∧ k ≤ padN s.size ∧ v = .int .i64 k) (fun v => padN s.size - (intOf v).toNat)
  case atStart => exact ⟨4, by omega, (padN_le _).1, rfl⟩
  case round =>
    obtain ⟨k, h4, hk, rfl⟩ := hrel
    have hk15 : k ≤ 15 := by have := padN_le s.size; omega
    by_cases hlt : k = padN s.size
    · have hm : (5 + s.size + k) % 8 = 0 := by rw [hlt]; unfold padN; split <;> omega
      have hz : ((5 + (s.size : Int) + k) % 8 != 0) = false := by rw [bne_eq_false_iff_eq]; omega
      have Hk := hide hlt
      clear hlt hm hk
      have hwk : IntKind.u8.wrap (k : Int) = k := IntWalk.u8_in _ ⟨by omega, by omega⟩
      go_wp2
      go_region_with (first
        | (go_at_call 45; refine (zeros_any k _ (by omega)).mono ?_; rintro e w2 ⟨r2, rfl, hr2, hz2, hb2⟩; have Hr2 := hide hr2; have hz2' : r2.size ≤ 15 := (by omega); clear hr2 hz2; try have hcv := conv1_below hb2)
        | (go_at_call 17; refine (rUnit_any _ _ (by rw [sizeApp, sizeApp, sizeNums1]; omega)).mono ?_; rintro e w3 ⟨r3, rfl, hr3, hz3, hb3⟩; have Hr3 := hide hr3; clear hr3 hz3))
      all_goals go_wp2
      all_goals go_ret
      all_goals refine ⟨r3, rfl, ?_, by (repeat (first | exact Below.refl _ _ | refine below_drewN ?_ _ | refine Below.drew ?_ | refine Below.alloc ?_ (by first | omega | (simp; done) | (simp; omega)) _ | refine Below.setCell ?_ (by first | omega | (simp; done) | (simp; omega)) _ | refine bel_alloc ?_ _ | refine bel_trans ?_ (by assumption) | refine Below.trans ?_ (Below.mono (by assumption) (by first | omega | (simp; done) | (simp; omega)))))⟩
      all_goals rw [Hr3.out, data_append, data_append, Hr2.out, strOfNums_data, packB, hsz, ← Hk.out]
      all_goals simp
    · have hm : (5 + s.size + k) % 8 ≠ 0 := by unfold padN at hk hlt; split at hk <;> simp_all <;> omega
      have hz : ((5 + (s.size : Int) + k) % 8 != 0) = true := by rw [bne_iff_ne]; omega
      go_wp2
      go_round
      case rel => exact ⟨k + 1, by omega, by omega, by go_num⟩
      case measure => simp [intOf]; omega
end Go.Proofs.Ytejikjpaclnncaa
