/-
  The law FrameLong: what is too long is refused. Conditions: none.
-/
import Derived.Test.YtejikjpaclnncaaFramePlain
import Derived.Test.YtejikjpaclnncaaFrameNeeds
namespace Go.Proofs.Ytejikjpaclnncaa
open Go.ChangeShapes Go.WideShapes Go.ChangeAt Go.RowKit
open Go.ChangeMaps (open_string shut_string)

def zerosB (n : Nat) : ByteArray := ⟨(List.replicate n 0).toArray⟩
theorem zerosB_data (n : Nat) : (zerosB n).data.toList = List.replicate n 0 := rfl
theorem zerosB_size (n : Nat) : (zerosB n).size = n := by
  show (zerosB n).data.toList.length = n
  rw [zerosB_data, List.length_replicate]
theorem make_int (x : Int) (N : Nat) (hx : x = N) (hN : N ≤ 1000000) (w : World) :
    (Instr.makeSlice 30 (.int .i64 x) (.int .i64 x)).run Try.prog w = .ok (.slice (some ⟨w.heap.size, 0, none⟩) N N) (w.alloc (.cells (madeCells #[.int .u8 0] N) 5)) := by
  subst hx
  exact run_make_row' 30 5 _ 1 Try.underlying30 u8_info rfl .i64 .i64 N (by omega) (by omega) w
@[go_sem] theorem conv_made (w : World) (b n c : Nat) (t : TypeId) (hb : b = w.heap.size) :
    (convert 30 9 (.slice (some ⟨b, 0, none⟩) n c)).run Try.prog (w.alloc (.cells (madeCells #[.int .u8 0] n) t)) = .ok (.string (zerosB n)) (w.alloc (.cells (madeCells #[.int .u8 0] n) t)) := by
  subst hb
  refine conv_blk (Blk.new w t _) (List.replicate n 0) n (by simp) fun j hj => ?_
  rw [made_bytes, Array.getElem?_replicate, if_pos (by simpa using hj)]
  simp
set_option maxHeartbeats 2000000 in
theorem frameLong_any (a b : Nat) (w : World) (ha : a ≤ 255) (hb : b ≤ 255) : Calls Try.prog 5 #[.int .u8 a, .int .u8 b] w fun e w' => e = .returned (.bool true) ∧ Below w.heap.size w w' := by
  obtain ⟨N, hN⟩ : ∃ N : Nat, N = 32760 + a % 16 := ⟨_, rfl⟩
  obtain ⟨M, hM⟩ : ∃ M : Nat, M = 262140 + b % 11 := ⟨_, rfl⟩
  obtain ⟨L, hL⟩ : ∃ L : Nat, L = 40003 := ⟨_, rfl⟩
  have E1 := hide (show (32760 + (a : Int) % 16) = (N : Int) by omega)
  have E2 := hide (show (262140 + (b : Int) % 11) = (M : Int) by omega)
  have hN1 : 32760 ≤ N := by omega
  have hN2 : N ≤ 32775 := by omega
  have hM1 : 262140 ≤ M := by omega
  have hM2 : M ≤ 262150 := by omega
  have hL1 : 40003 ≤ L := by omega
  have hL2 : L ≤ 40003 := by omega
  have H3 := hide (make_int 40003 L (by omega) (by omega))
  have H1 := hide (make_int (32760 + (a : Int) % 16) N (by omega) (by omega))
  have H2 := hide (make_int (262140 + (b : Int) % 11) M (by omega) (by omega))
  have hNa : (N : Int) ≤ 32760 + (a : Int) % 16 := by omega
  have hNb : 32760 + (a : Int) % 16 ≤ (N : Int) := by omega
  have hMa : (M : Int) ≤ 262140 + (b : Int) % 11 := by omega
  have hMb : 262140 + (b : Int) % 11 ≤ (M : Int) := by omega
  clear hN hM hL
  have zd := zerosB_data N
  have zs := zerosB_size N
  have zdM := zerosB_data M
  have zsM := zerosB_size M
  have zsL := zerosB_size L
  have Hzs := hide zs
  have HzsM := hide zsM
  have HzsL := hide zsL
  have hzs1 : (zerosB N).size ≤ 32775 := by omega
  have hzs2 : (zerosB M).size ≤ 262150 := by omega
  have hzs3 : (zerosB L).size ≤ 40003 := by omega
  have hne : ∀ n, 0 < n → List.replicate n (0 : UInt8) ≠ [] := fun n h e => by
    have := congrArg List.length e
    rw [List.length_replicate] at this
    simp at this
    omega
  have hP : packF (zerosB N).data.toList = if 32768 < N then ([], 2) else (unitB (packB (List.replicate N 0)), 0) := by
    rw [packF, zd, if_neg (hne N (by omega)), List.length_replicate]
  have hU : unitF (zerosB M).data.toList = if 262144 < M then ([], 2) else (unitB (List.replicate M 0), 0) := by
    rw [unitF, zdM, if_neg (hne M (by omega)), List.length_replicate]
  have hK : unpackF (unitB (4 :: List.replicate L 0)) = ([], 2) := by
    have h := unpackF_unit (List.replicate (L - 4) 0) (List.replicate 4 0) 4 (by omega) (by simp) (by simp; omega)
    rw [List.replicate_append_replicate, show L - 4 + 4 = L from by omega, List.length_replicate] at h
    rw [show (4 : UInt8) = UInt8.ofNat 4 from rfl, h, if_neg, if_pos (by omega)]
    intro hc
    rcases hc with hc | hc | hc | hc
    · omega
    · omega
    · omega
    · exact hne _ (by omega) hc
  have hZ : needF (unitB (List.replicate M 0)) = if 262144 < M then (0, 2) else if M = 0 then (0, 3) else (4 + (M : Int), 0) := by
    rw [needF_any _ (by rw [List.length_replicate]; omega), List.length_replicate]
  have hadd : (⟨#[4]⟩ ++ zerosB L : ByteArray).data.toList = 4 :: List.replicate L 0 := by
    rw [data_append, zerosB_data]
    rfl
  have HS4 : Hid ((⟨#[4]⟩ ++ zerosB L : ByteArray).size ≤ 40004) := hide (by rw [sizeApp]; have e : (⟨#[4]⟩ : ByteArray).size = 1 := rfl; omega)
  have HP := hide hP
  have HU := hide hU
  have HK := hide hK
  have HZ := hide hZ
  have HA := hide hadd
  have HD := hide zd
  have HDM := hide zdM
  clear hP hU hK hZ zd zdM zs zsM zsL hne hadd
  by_cases c1 : 32768 < N
  · by_cases c2 : 262144 < M
    · have hm1 := H1.out
      have hm2 := H2.out
      have hm3 := H3.out
      go_enter Try.func5, Try.ntmps5
      go_wp2_with fail
      refine (pack_any (zerosB N) _ (by omega)).mono ?_
      rw [HP.out, if_pos c1]
      rintro e w1 ⟨p, rfl, hp, hb1⟩
      obtain rfl : p = ⟨#[]⟩ := data_inj hp
      clear hp
      go_wp2_with fail
      refine (unit_any (zerosB M) _ (by omega)).mono ?_
      rw [HU.out, if_pos c2]
      rintro e w2 ⟨u, rfl, hu, hb2⟩
      obtain rfl : u = ⟨#[]⟩ := data_inj hu
      clear hu
      go_wp2_with (first
        | (go_at_call 10; refine (awake11 _).mono ?_; rintro e w4 ⟨rfl, hb4⟩)
        | (go_at_call 17; refine (rUnit_any (zerosB M) _ (by omega)).mono ?_; rw [HDM.out]; rintro e w4 ⟨u2, rfl, hq, hqz, hb6⟩; have Hq := hide hq; have hqz2 : u2.size ≤ 262154 := (by omega); clear hq hqz)
        | (go_at_call 15; refine (need_any u2 _ (by omega)).mono ?_; rw [Hq.out, HZ.out, if_pos c2]; rintro e w4 ⟨rfl, hb7⟩))
      all_goals first
        | (exfalso; omega)
        | (exfalso; have g := Hul.out; omega)
        | (go_ret; exact ⟨rfl, by (repeat (first | exact Below.refl _ _ | refine below_drewN ?_ _ | refine Below.drew ?_ | refine Below.alloc ?_ (by first | omega | (simp; done) | (simp; omega)) _ | refine Below.setCell ?_ (by first | omega | (simp; done) | (simp; omega)) _ | refine bel_alloc ?_ _ | refine bel_trans ?_ (by assumption) | refine Below.trans ?_ (Below.mono (by assumption) (by first | omega | (simp; done) | (simp; omega)))))⟩)
        | (go_ret
           refine ⟨ret_bool ?_, by (repeat (first | exact Below.refl _ _ | refine below_drewN ?_ _ | refine Below.drew ?_ | refine Below.alloc ?_ (by first | omega | (simp; done) | (simp; omega)) _ | refine Below.setCell ?_ (by first | omega | (simp; done) | (simp; omega)) _ | refine bel_alloc ?_ _ | refine bel_trans ?_ (by assumption) | refine Below.trans ?_ (Below.mono (by assumption) (by first | omega | (simp; done) | (simp; omega)))))⟩
           rw [beq_iff_eq]
           have g := Hul.out
           omega)
    · have hm1 := H1.out
      have hm2 := H2.out
      have hm3 := H3.out
      go_enter Try.func5, Try.ntmps5
      go_wp2_with fail
      refine (pack_any (zerosB N) _ (by omega)).mono ?_
      rw [HP.out, if_pos c1]
      rintro e w1 ⟨p, rfl, hp, hb1⟩
      obtain rfl : p = ⟨#[]⟩ := data_inj hp
      clear hp
      go_wp2_with fail
      refine (unit_any (zerosB M) _ (by omega)).mono ?_
      rw [HU.out, if_neg c2]
      rintro e w2 ⟨u, rfl, hu, hb2⟩
      have hul : u.data.toList.length = u.size := rfl
      have Hul := hide (show (u.size : Int) = M + 4 by
        rw [← hul, hu, length_unit, List.length_replicate]
        omega)
      have hul2 : u.size ≤ 262154 := by have := Hul.out; omega
      have Hu := hide hu
      clear hu hul
      go_wp2_with (first
        | (go_at_call 10; refine (awake11 _).mono ?_; rintro e w4 ⟨rfl, hb4⟩)
        | (go_at_call 17; refine (rUnit_any _ _ (Nat.le_trans HS4.out (by omega))).mono ?_; rw [HA.out]; rintro e w4 ⟨u2, rfl, hq, hqz, hb6⟩; have Hq := hide hq; have hqz2 : u2.size ≤ 40010 := (by have g := HS4.out; omega); clear hq hqz)
        | (go_at_call 13; refine (unpack_any u2 _ (by omega)).mono ?_; rw [Hq.out, HK.out]; rintro e w4 ⟨r2, rfl, _, hb7⟩))
      all_goals first
        | (exfalso; omega)
        | (exfalso; have g := Hul.out; omega)
        | (go_ret; exact ⟨rfl, by (repeat (first | exact Below.refl _ _ | refine below_drewN ?_ _ | refine Below.drew ?_ | refine Below.alloc ?_ (by first | omega | (simp; done) | (simp; omega)) _ | refine Below.setCell ?_ (by first | omega | (simp; done) | (simp; omega)) _ | refine bel_alloc ?_ _ | refine bel_trans ?_ (by assumption) | refine Below.trans ?_ (Below.mono (by assumption) (by first | omega | (simp; done) | (simp; omega)))))⟩)
        | (go_ret
           refine ⟨ret_bool ?_, by (repeat (first | exact Below.refl _ _ | refine below_drewN ?_ _ | refine Below.drew ?_ | refine Below.alloc ?_ (by first | omega | (simp; done) | (simp; omega)) _ | refine Below.setCell ?_ (by first | omega | (simp; done) | (simp; omega)) _ | refine bel_alloc ?_ _ | refine bel_trans ?_ (by assumption) | refine Below.trans ?_ (Below.mono (by assumption) (by first | omega | (simp; done) | (simp; omega)))))⟩
           rw [beq_iff_eq]
           have g := Hul.out
           omega)
  · by_cases c2 : 262144 < M
    · have hm1 := H1.out
      have hm2 := H2.out
      have hm3 := H3.out
      go_enter Try.func5, Try.ntmps5
      go_wp2_with fail
      refine (pack_any (zerosB N) _ (by omega)).mono ?_
      rw [HP.out, if_neg c1]
      rintro e w1 ⟨p, rfl, hp, hb1⟩
      have Hp := hide hp
      clear hp
      go_wp2_with fail
      refine (unit_any (zerosB M) _ (by omega)).mono ?_
      rw [HU.out, if_pos c2]
      rintro e w2 ⟨u, rfl, hu, hb2⟩
      obtain rfl : u = ⟨#[]⟩ := data_inj hu
      clear hu
      go_wp2_with (first
        | (go_at_call 10; refine (awake11 _).mono ?_; rintro e w4 ⟨rfl, hb4⟩)
        | (go_at_call 16; refine (rPack_any (zerosB N) _ (by omega)).mono ?_; rintro e w4 ⟨b2, rfl, hq, hb5⟩; obtain rfl : p = b2 := data_inj (Hp.out.trans (by rw [hq, HD.out])); clear hq)
        | (go_at_call 17; refine (rUnit_any (zerosB M) _ (by omega)).mono ?_; rw [HDM.out]; rintro e w4 ⟨u2, rfl, hq, hqz, hb6⟩; have Hq := hide hq; have hqz2 : u2.size ≤ 262154 := (by omega); clear hq hqz)
        | (go_at_call 15; refine (need_any u2 _ (by omega)).mono ?_; rw [Hq.out, HZ.out, if_pos c2]; rintro e w4 ⟨rfl, hb7⟩))
      all_goals first
        | (exfalso; omega)
        | (exfalso; have g := Hul.out; omega)
        | (go_ret; exact ⟨rfl, by (repeat (first | exact Below.refl _ _ | refine below_drewN ?_ _ | refine Below.drew ?_ | refine Below.alloc ?_ (by first | omega | (simp; done) | (simp; omega)) _ | refine Below.setCell ?_ (by first | omega | (simp; done) | (simp; omega)) _ | refine bel_alloc ?_ _ | refine bel_trans ?_ (by assumption) | refine Below.trans ?_ (Below.mono (by assumption) (by first | omega | (simp; done) | (simp; omega)))))⟩)
        | (go_ret
           refine ⟨ret_bool ?_, by (repeat (first | exact Below.refl _ _ | refine below_drewN ?_ _ | refine Below.drew ?_ | refine Below.alloc ?_ (by first | omega | (simp; done) | (simp; omega)) _ | refine Below.setCell ?_ (by first | omega | (simp; done) | (simp; omega)) _ | refine bel_alloc ?_ _ | refine bel_trans ?_ (by assumption) | refine Below.trans ?_ (Below.mono (by assumption) (by first | omega | (simp; done) | (simp; omega)))))⟩
           rw [beq_iff_eq]
           have g := Hul.out
           omega)
    · have hm1 := H1.out
      have hm2 := H2.out
      have hm3 := H3.out
      go_enter Try.func5, Try.ntmps5
      go_wp2_with fail
      refine (pack_any (zerosB N) _ (by omega)).mono ?_
      rw [HP.out, if_neg c1]
      rintro e w1 ⟨p, rfl, hp, hb1⟩
      have Hp := hide hp
      clear hp
      go_wp2_with fail
      refine (unit_any (zerosB M) _ (by omega)).mono ?_
      rw [HU.out, if_neg c2]
      rintro e w2 ⟨u, rfl, hu, hb2⟩
      have hul : u.data.toList.length = u.size := rfl
      have Hul := hide (show (u.size : Int) = M + 4 by
        rw [← hul, hu, length_unit, List.length_replicate]
        omega)
      have hul2 : u.size ≤ 262154 := by have := Hul.out; omega
      have Hu := hide hu
      clear hu hul
      go_wp2_with (first
        | (go_at_call 10; refine (awake11 _).mono ?_; rintro e w4 ⟨rfl, hb4⟩)
        | (go_at_call 16; refine (rPack_any (zerosB N) _ (by omega)).mono ?_; rintro e w4 ⟨b2, rfl, hq, hb5⟩; obtain rfl : p = b2 := data_inj (Hp.out.trans (by rw [hq, HD.out])); clear hq)
        | (go_at_call 17; refine (rUnit_any _ _ (Nat.le_trans HS4.out (by omega))).mono ?_; rw [HA.out]; rintro e w4 ⟨u2, rfl, hq, hqz, hb6⟩; have Hq := hide hq; have hqz2 : u2.size ≤ 40010 := (by have g := HS4.out; omega); clear hq hqz)
        | (go_at_call 13; refine (unpack_any u2 _ (by omega)).mono ?_; rw [Hq.out, HK.out]; rintro e w4 ⟨r2, rfl, _, hb7⟩))
      all_goals first
        | (exfalso; omega)
        | (exfalso; have g := Hul.out; omega)
        | (go_ret; exact ⟨rfl, by (repeat (first | exact Below.refl _ _ | refine below_drewN ?_ _ | refine Below.drew ?_ | refine Below.alloc ?_ (by first | omega | (simp; done) | (simp; omega)) _ | refine Below.setCell ?_ (by first | omega | (simp; done) | (simp; omega)) _ | refine bel_alloc ?_ _ | refine bel_trans ?_ (by assumption) | refine Below.trans ?_ (Below.mono (by assumption) (by first | omega | (simp; done) | (simp; omega)))))⟩)
        | (go_ret
           refine ⟨ret_bool ?_, by (repeat (first | exact Below.refl _ _ | refine below_drewN ?_ _ | refine Below.drew ?_ | refine Below.alloc ?_ (by first | omega | (simp; done) | (simp; omega)) _ | refine Below.setCell ?_ (by first | omega | (simp; done) | (simp; omega)) _ | refine bel_alloc ?_ _ | refine bel_trans ?_ (by assumption) | refine Below.trans ?_ (Below.mono (by assumption) (by first | omega | (simp; done) | (simp; omega)))))⟩
           rw [beq_iff_eq]
           have g := Hul.out
           omega)
theorem frameLong_all (a b : Int) (w : World) (ha : (Lit.int .u8 a).wf = true) (hb : (Lit.int .u8 b).wf = true) : Calls Try.prog 5 #[.int .u8 a, .int .u8 b] w fun e w' => e = .returned (.bool true) ∧ Below w.heap.size w w' := by
  have h1 := bounds_u8 ha
  have h2 := bounds_u8 hb
  obtain ⟨x, rfl⟩ := Int.eq_ofNat_of_zero_le h1.1
  obtain ⟨y, rfl⟩ := Int.eq_ofNat_of_zero_le h2.1
  exact frameLong_any x y w (by omega) (by omega)

set_option maxRecDepth 100000 in
theorem lifted_FrameLong (os : Os) (started : os.Started) (H : Type) (enc : TypeId × Value → H) :
    ReturnsInHanded {} Try.checked os 5 .any (Rows.frameLongSpec.pre6 enc Try.prog Try.f5 Rows.frameLongRow.domain false) (Rows.frameLongSpec.post enc Try.prog Try.f5 false true false false) := by
  refine returnsInHanded_of_change_shaped (C := Try.checked) own started (by kernel_rfl) Try.func5
    (ChangeSpec.witness6 (enc := enc) (C := Try.checked) false ⟨#[], #[.int .u8 0, .int .u8 0], []⟩ 8 (by kernel_rfl) (by kernel_rfl) (by kernel_rfl) (by kernel_rfl)) ?_
  intro W base args ds gs before hval0 hW hcnd hsz hsh _
  have hval : ∀ (j : Nat) t v, Try.f5.params[j]? = some t → args[j]? = some v → Value.okWide Try.prog W .any base t v := hval0
  have hW' := hW
  obtain ⟨p, q, hA0, hV, rfl, hfz, hnd⟩ := hW
  have hA : DataW.TrodAll enc Try.prog W 0 (fun _ => true) true Try.f5.params.toList args.toList ds p := hA0
  rw [Try.params5] at hA hval
  obtain ⟨v0, vs0, d0, ds0, p0, q0, hargs, rfl, rfl, h0, r0⟩ := trodAll_cons hA
  obtain ⟨v1, vs1, d1, ds1, p1, q1, rfl, rfl, rfl, h1, r1⟩ := trodAll_cons r0
  obtain ⟨rfl, rfl, rfl⟩ := trodAll_nil r1
  obtain rfl : args = #[v0, v1] := by cases args; simp_all
  obtain ⟨a, rfl, _, _, w0⟩ := open_int Try.underlying5 (hval 0 5 v0 rfl rfl) h0
  obtain ⟨b, rfl, _, _, w1⟩ := open_int Try.underlying5 (hval 1 5 v1 rfl rfl) h1
  refine (frameLong_all a b W w0 w1).mono fun e W' ⟨he, bel⟩ => ?_
  subst he
  exact ⟨_, rfl, law_post 4 laidOut (by kernel_rfl) rfl Try.underlying4 rfl hW' (fun ds' hl _ => by match ds', hl with | [x0, x1], _ => rfl) bel⟩

theorem over_FrameLong : Rows.frameLongRow.holds Try.pinned (OpenSpec.ofChange Rows.frameLongSpec) :=
  OpenClaim.holds_of_wide 5 Try.f5 rfl rfl rfl rfl rfl rfl rfl ⟨rfl, rfl, rfl, rfl, rfl⟩ rfl rfl rfl rfl rfl (by kernel_rfl) Try.func5 (by kernel_rfl)
    (of_decide_eq_true (by kernel_rfl)) (by unfold Func.isWrapper; first | (rw [if_pos (by decide +kernel)]; kernel_rfl) | (rw [if_neg (by decide +kernel)]; exact ⟨rfl, rfl⟩))
    (fun os started H enc _ => lifted_FrameLong os started H enc)

/-- The given statement. -/
theorem frameLong_holds : Rows.FrameLongSaid := over_FrameLong

#print axioms frameLong_holds
end Go.Proofs.Ytejikjpaclnncaa
