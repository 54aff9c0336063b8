/-
  The law FramePads: whatever the padding is, and of how many bytes, the payload is the same. Conditions: none.
-/
import Derived.Test.YtejikjpaclnncaaFramePlain
import Derived.Test.YtejikjpaclnncaaFrameNeeds
namespace Go.Proofs.Ytejikjpaclnncaa
open Go.ChangeShapes Go.WideShapes Go.ChangeAt Go.RowKit
open Go.ChangeMaps (open_string shut_string)

/-- A row of n bytes, of which the first k are the byte c, and the others are 0. -/
def padCells (n k : Nat) (c : Int) : Array Value := (List.replicate k (Value.int .u8 c) ++ List.replicate (n - k) (Value.int .u8 0)).toArray
theorem padCells_0 (n : Nat) (c : Int) : padCells n 0 c = Array.replicate n (.int .u8 0) := by simp [padCells]
theorem padCells_at {n k : Nat} (c : Int) (h : k < n) : (padCells n k c)[k]? = some (.int .u8 0) := by
  rw [padCells, List.getElem?_toArray, List.getElem?_append_right (by simp), List.length_replicate, Nat.sub_self, List.getElem?_replicate, if_pos (by omega)]
theorem padCells_set {n k : Nat} (c : Int) (h : k < n) : (padCells n k c).setIfInBounds k (.int .u8 c) = padCells n (k + 1) c := by
  unfold padCells
  rw [List.setIfInBounds_toArray]
  congr 1
  rw [List.set_append_right _ _ (by simp), List.length_replicate, Nat.sub_self, show n - k = (n - (k + 1)) + 1 from by omega, List.replicate_succ, List.set_cons_zero, List.replicate_succ', List.append_assoc]
  rfl
set_option maxHeartbeats 2000000 in
theorem framePads_any (s : ByteArray) (n : Nat) (c : Nat) (w : World) (hs : s.size ≤ maxLen) (hn : n ≤ 255) (hcc : c ≤ 255) : Calls Try.prog 6 #[.string s, .int .u8 n, .int .u8 c] w fun e w' => e = .returned (.bool true) ∧ Below w.heap.size w w' := by
  unfold maxLen at hs
  have hsz : s.data.toList.length = s.size := rfl
  by_cases h2 : 300 < s.size
  · go_enter Try.func6, Try.ntmps6
    go_wp2_with (go_at_call 10; refine (awake11 _).mono ?_; rintro e w1 ⟨rfl, hb1⟩)
    go_ret
    exact ⟨rfl, hb1⟩
  obtain ⟨w1, hmk, hblk, hb1⟩ := make_bytes w n (by omega)
  rw [← padCells_0 n c] at hblk
  go_enter Try.func6, Try.ntmps6
  go_wp2
  clear hmk

  go_loopw [8] (fun i wr => ∃ k : Nat, k ≤ n ∧ i = .int .i64 k ∧ Below w.heap.size w wr ∧ Blk wr w.heap.size 5 (padCells n k c)) (fun i _ => n - (intOf i).toNat)
  case atStart => exact ⟨0, Nat.zero_le _, rfl, hb1, hblk⟩
  case round =>
    obtain ⟨k, hk, rfl, hbr, hbk⟩ := hrel
    by_cases hlt : k < n
    · have hc0 : wr.cell? ⟨w.heap.size, k, none⟩ = some (.int .u8 0) := by rw [hbk.cell k]; exact padCells_at c hlt
      have f0 := hbk.frozen k
      have hset := hbk.set_ k (.int .u8 c)
      rw [padCells_set c hlt] at hset
      have hb2 : Below w.heap.size w (wr.setCell ⟨w.heap.size, k, none⟩ (.int .u8 c)) := hbr.setCell (Nat.le_refl _) _
      clear hbk
      go_wp2
      go_roundw
      case rel => exact ⟨k + 1, hlt, by go_num, hb2, hset⟩
      case measure => simp [intOf]; omega
    · obtain rfl : k = n := by omega
      have hcv := conv_blk (c := k) (hbk.alloc (.cells #[.int .u8 (k : Int)] 5)) (List.replicate k (UInt8.ofNat c)) k (by simp) (by
        intro j hj
        have hj' : j < k := by simpa using hj
        rw [padCells, List.getElem?_toArray, List.getElem?_append_left (by simpa using hj'), List.getElem?_replicate, if_pos hj']
        simp
        omega)
      generalize hrb : (⟨(List.replicate k (UInt8.ofNat c)).toArray⟩ : ByteArray) = rb at hcv
      have hrd : rb.data.toList = List.replicate k (UInt8.ofNat c) := by rw [← hrb]
      have hrz : rb.size ≤ 255 := by have h := size_le_of hrd; rw [List.length_replicate] at h; omega
      have Hrd := hide hrd
      clear hrd hrb hbk hblk
      have Hs := hide hsz
      clear hsz
      go_wp2_with fail
      refine (rUnit_any _ _ (by rw [sizeApp, sizeApp, sizeNums1]; omega)).mono ?_
      rintro e w2 ⟨u, rfl, hu, huz, hb2⟩
      have hud : u.data.toList = unitB (UInt8.ofNat k :: (s.data.toList ++ List.replicate k (UInt8.ofNat c))) := by
        rw [hu, data_append, data_append, Hrd.out, strOfNums_data]
        simp
      have hul : u.size ≤ 560 := by rw [sizeApp, sizeApp, sizeNums1] at huz; omega
      have Hul := hide (show u.size = 5 + s.size + k by
        have h : u.data.toList.length = u.size := rfl
        rw [← h, hud, length_unit, List.length_cons, List.length_append, List.length_replicate, Hs.out]
        omega)
      have hk := unpackF_unit s.data.toList (List.replicate k (UInt8.ofNat c)) k (by omega) (by simp) (by rw [Hs.out]; omega)
      rw [← hud, Hs.out] at hk
      have Hk := hide hk
      clear hu hud huz hk
      go_wp2_with fail
      refine (unpack_any u _ (by omega)).mono ?_
      rw [Hk.out]
      rintro e w3 ⟨r, rfl, hr, hb3⟩
      have Hr := hide hr
      clear hr
      by_cases hc : (5 + s.size + k) % 8 ≠ 0 ∨ k < 4 ∨ 64 < k ∨ s.data.toList = []
      · rw [if_pos hc]
        have hr := Hr.out
        rw [if_pos hc] at hr
        obtain rfl : r = ⟨#[]⟩ := data_inj hr
        have Hc := hide hc
        clear hc hr
        go_wp2_with (go_at_call 10; refine (awake11 _).mono ?_; rintro e w4 ⟨rfl, hb4⟩)
        all_goals first
          | (go_ret; exact ⟨rfl, by (repeat (first | exact Below.refl _ _ | refine below_drewN ?_ _ | refine Below.drew ?_ | refine Below.alloc ?_ (by first | omega | (simp; done) | (simp; omega)) _ | refine Below.setCell ?_ (by first | omega | (simp; done) | (simp; omega)) _ | refine bel_alloc ?_ _ | refine bel_trans ?_ (by assumption) | refine Below.trans ?_ (Below.mono (by assumption) (by first | omega | (simp; done) | (simp; omega)))))⟩)
          | (exfalso
             have g1 := Hul.out
             have g2 := Hc.out
             rcases g2 with h | h | h | h
             · omega
             · omega
             · omega
             · simp_all [ByteArray.toList_eq])
      · rw [if_neg hc, if_neg (by omega)]
        have hr := Hr.out
        rw [if_neg hc, if_neg (by omega)] at hr
        obtain rfl : s = r := (data_inj hr).symm
        have Hc := hide hc
        clear hc hr
        go_wp2_with (go_at_call 10; refine (awake11 _).mono ?_; rintro e w4 ⟨rfl, hb4⟩)
        all_goals first
          | (go_ret; exact ⟨rfl, by (repeat (first | exact Below.refl _ _ | refine below_drewN ?_ _ | refine Below.drew ?_ | refine Below.alloc ?_ (by first | omega | (simp; done) | (simp; omega)) _ | refine Below.setCell ?_ (by first | omega | (simp; done) | (simp; omega)) _ | refine bel_alloc ?_ _ | refine bel_trans ?_ (by assumption) | refine Below.trans ?_ (Below.mono (by assumption) (by first | omega | (simp; done) | (simp; omega)))))⟩)
          | (exfalso
             have g1 := Hul.out
             have g2 := Hc.out
             first
               | omega
               | (refine g2 (.inr (.inr (.inr ?_))); simp_all [ByteArray.toList_eq]; done))
theorem framePads_all (s : ByteArray) (n c : Int) (w : World) (hs : s.size ≤ maxLen) (hn : (Lit.int .u8 n).wf = true) (hc : (Lit.int .u8 c).wf = true) : Calls Try.prog 6 #[.string s, .int .u8 n, .int .u8 c] w fun e w' => e = .returned (.bool true) ∧ Below w.heap.size w w' := by
  have h1 := bounds_u8 hn
  have h2 := bounds_u8 hc
  obtain ⟨a, rfl⟩ := Int.eq_ofNat_of_zero_le h1.1
  obtain ⟨b, rfl⟩ := Int.eq_ofNat_of_zero_le h2.1
  exact framePads_any s a b w hs (by omega) (by omega)

set_option maxRecDepth 100000 in
theorem lifted_FramePads (os : Os) (started : os.Started) (H : Type) (enc : TypeId × Value → H) :
    ReturnsInHanded {} Try.checked os 6 .any (Rows.framePadsSpec.pre6 enc Try.prog Try.f6 Rows.framePadsRow.domain false) (Rows.framePadsSpec.post enc Try.prog Try.f6 false true false false) := by
  refine returnsInHanded_of_change_shaped (C := Try.checked) own started (by kernel_rfl) Try.func6
    (ChangeSpec.witness6 (enc := enc) (C := Try.checked) false ⟨#[], #[.string ByteArray.empty, .int .u8 0, .int .u8 0], []⟩ 8 (by kernel_rfl) (by kernel_rfl) (by kernel_rfl) (by kernel_rfl)) ?_
  intro W base args ds gs before hval0 hW hcnd hsz hsh _
  have hval : ∀ (j : Nat) t v, Try.f6.params[j]? = some t → args[j]? = some v → Value.okWide Try.prog W .any base t v := hval0
  have hW' := hW
  obtain ⟨p, q, hA0, hV, rfl, hfz, hnd⟩ := hW
  have hA : DataW.TrodAll enc Try.prog W 0 (fun _ => true) true Try.f6.params.toList args.toList ds p := hA0
  rw [Try.params6] at hA hval
  obtain ⟨v0, vs0, d0, ds0, p0, q0, hargs, rfl, rfl, h0, r0⟩ := trodAll_cons hA
  obtain ⟨v1, vs1, d1, ds1, p1, q1, rfl, rfl, rfl, h1, r1⟩ := trodAll_cons r0
  obtain ⟨v2, vs2, d2, ds2, p2, q2, rfl, rfl, rfl, h2, r2⟩ := trodAll_cons r1
  obtain ⟨rfl, rfl, rfl⟩ := trodAll_nil r2
  obtain rfl : args = #[v0, v1, v2] := by cases args; simp_all
  obtain ⟨s, rfl, _, _, w0⟩ := open_string Try.underlying9 (hval 0 9 v0 rfl rfl) h0
  obtain ⟨n, rfl, _, _, w1⟩ := open_int Try.underlying5 (hval 1 5 v1 rfl rfl) h1
  obtain ⟨c, rfl, _, _, w2⟩ := open_int Try.underlying5 (hval 2 5 v2 rfl rfl) h2
  refine (framePads_all s n c W w0 w1 w2).mono fun e W' ⟨he, bel⟩ => ?_
  subst he
  exact ⟨_, rfl, law_post 4 laidOut (by kernel_rfl) rfl Try.underlying4 rfl hW' (fun ds' hl _ => by match ds', hl with | [x0, x1, x2], _ => rfl) bel⟩

theorem over_FramePads : Rows.framePadsRow.holds Try.pinned (OpenSpec.ofChange Rows.framePadsSpec) :=
  OpenClaim.holds_of_wide 6 Try.f6 rfl rfl rfl rfl rfl rfl rfl ⟨rfl, rfl, rfl, rfl, rfl⟩ rfl rfl rfl rfl rfl (by kernel_rfl) Try.func6 (by kernel_rfl)
    (of_decide_eq_true (by kernel_rfl)) (by unfold Func.isWrapper; first | (rw [if_pos (by decide +kernel)]; kernel_rfl) | (rw [if_neg (by decide +kernel)]; exact ⟨rfl, rfl⟩))
    (fun os started H enc _ => lifted_FramePads os started H enc)

/-- The given statement. -/
theorem framePads_holds : Rows.FramePadsSaid := over_FramePads

#print axioms framePads_holds
end Go.Proofs.Ytejikjpaclnncaa
