/-
  Law MsgLong: the walk of the statement. Conditions: the library's handle and number are as they were laid.
-/
import Derived.Test.YtcjafkanckcfbaaGreatDoorMsgX
import Derived.Deep.OwnRows
import Derived.Lib.BufferWrite
import Derived.Lib.SlBuf
set_option linter.unusedVariables false
set_option linter.unusedSimpArgs false
namespace Go.Proofs.YtcjafkanckcfbaaGreatDoor
open Go.RowKit Go.ChangeShapes Go.WideShapes Go.Sort
theorem u8_infoM : (Tryz.prog.info? 5).map (fun i => (i.zero, i.size, i.bytes)) = some (some (.int .u8 0), 1, 1) := by kernel_rfl
theorem made_bytesM (n : Nat) : madeCells #[Value.int .u8 0] n = Array.replicate n (Value.int .u8 0) := by
  apply Array.ext
  · simp [madeCells]
  · intro i h1 h2
    simp [madeCells, Nat.mod_one]
def zerosM (n : Nat) : List UInt8 := List.replicate n 0
theorem zerosM_len (n : Nat) : (zerosM n).length = n := List.length_replicate
theorem make_intM (x : Int) (N : Nat) (hx : x = N) (hN : N ≤ 1000000) (w : World) :
    (Instr.makeSlice 44 (.int .i64 x) (.int .i64 x)).run Tryz.prog w = .ok (.slice (some ⟨w.heap.size, 0, none⟩) N N) (w.alloc (.cells (madeCells #[.int .u8 0] N) 5)) := by
  subst hx
  exact run_make_row' 44 5 _ 1 Tryz.underlying44 u8_infoM rfl .i64 .i64 N (by omega) (by omega) w
@[go_sem] theorem conv_madeM (w : World) (b n c : Nat) (t : TypeId) (hb : b = w.heap.size) :
    (convert 44 9 (.slice (some ⟨b, 0, none⟩) n c)).run Tryz.prog (w.alloc (.cells (madeCells #[.int .u8 0] n) t)) = .ok (.string (bs (zerosM n))) (w.alloc (.cells (madeCells #[.int .u8 0] n) t)) := by
  subst hb
  have hB := Blk.new w t (madeCells #[.int .u8 0] n)
  have key := run_convert_bytes_back (w.alloc (.cells (madeCells #[.int .u8 0] n) t)) 44 9 5 ⟨w.heap.size, 0, none⟩ c (zerosM n) Tryz.underlying44 Tryz.underlying5 Tryz.underlying9 (fun j hj => by
    rw [add_zero_, hB.cell, made_bytesM, Array.getElem?_replicate, if_pos (by rw [zerosM_len] at hj; exact hj)]
    simp [zerosM])
  rw [zerosM_len] at key
  exact key
theorem enc_long {s : List UInt8} (h : 32768 < 5 + s.length) : encS 2 [⟨115, 0, s, []⟩] = .long := by
  have h1 : fit 2 ([⟨115, 0, s, []⟩] : List Fld).length = (⟨#[115]⟩, true) := by
    show fit 2 1 = _
    kernel_rfl
  have hp : putF ⟨115, 0, s, []⟩ = (0, textL s) := rfl
  unfold encS
  rw [h1, if_pos rfl]
  show encGo [115] [⟨115, 0, s, []⟩] 0 [2] = _
  simp only [encGo]
  rw [if_pos ⟨rfl, by simp [plainF, cntF]⟩, hp, if_pos rfl, if_pos]
  simp only [textL, List.length_append, List.length_cons, List.length_nil, q4_len]
  omega
theorem enc_short {s : List UInt8} (h : ¬ 32768 < 5 + s.length) : encS 2 [⟨115, 0, s, []⟩] = .ok ([2] ++ textL s) := by
  have h1 : fit 2 ([⟨115, 0, s, []⟩] : List Fld).length = (⟨#[115]⟩, true) := by
    show fit 2 1 = _
    kernel_rfl
  have hp : putF ⟨115, 0, s, []⟩ = (0, textL s) := rfl
  unfold encS
  rw [h1, if_pos rfl]
  show encGo [115] [⟨115, 0, s, []⟩] 0 [2] = _
  simp only [encGo]
  rw [if_pos ⟨rfl, by simp [plainF, cntF]⟩, hp, if_pos rfl, if_neg]
  simp only [textL, List.length_append, List.length_cons, List.length_nil, q4_len]
  omega
theorem dec_zero {N : Nat} (h0 : 0 < N) : decS (zerosM N) = if 32768 < N then .all 2 else .all 6 := by
  obtain ⟨M, rfl⟩ : ∃ M, N = M + 1 := ⟨N - 1, by omega⟩
  have e : zerosM (M + 1) = 0 :: zerosM M := rfl
  rw [e]
  have hl : (0 :: zerosM M).length = M + 1 := by simp [zerosM_len]
  by_cases h : 32768 < M + 1
  · rw [if_pos h, decS_long (by rw [hl]; exact h)]
  · rw [if_neg h, decS_none (by rw [hl]; exact h) (by kernel_rfl)]
section
variable {w : World}
set_option maxHeartbeats 8000000 in
set_option maxRecDepth 100000 in
theorem msgLong_any (hE : Hand w) (hM : MaxL w) (a : Nat) (ha : a ≤ 255) : Calls Tryz.prog 5 #[.int .u8 a] w (fun e w' => e = .returned (.bool true) ∧ Below w.heap.size w w') := by
  obtain ⟨N, hN⟩ : ∃ N : Nat, N = 32755 + a % 21 := ⟨_, rfl⟩
  obtain ⟨K, hK⟩ : ∃ K : Nat, N = K + 5 := ⟨N - 5, by omega⟩
  have E1 : (32755 + (a : Int) % 21) = (N : Int) := by omega
  have E2 : (N : Int) - 5 = (K : Int) := by omega
  have hN1 : 32755 ≤ N := by omega
  have hN2 : N ≤ 32775 := by omega
  have HA := hide (fun W => awake07_any W)
  have hmk1 := make_intM (K : Int) K rfl (by omega)
  have hmk2 := make_intM (N : Int) N rfl (by omega)
  have HL := hide (And.intro hE hM)
  have hkl : (zerosM K).length = K := zerosM_len K
  have hnl : (zerosM N).length = N := zerosM_len N
  have hlong := enc_long (s := zerosM K)
  have hshort := enc_short (s := zerosM K)
  rw [hkl] at hlong hshort
  have hdec := dec_zero (N := N) (by omega)
  have hwa : wrap64 (a : Int) = a := by unfold wrap64; omega
  have hwn : wrap64 (32755 + (wrap64 (a : Int)).tmod 21) = (N : Int) := by
    rw [hwa, Int.tmod_eq_emod_of_nonneg (by omega)]
    unfold wrap64
    omega
  have hwk : IntKind.i64.wrap ((N : Int) - 5) = (K : Int) := by rw [wrap_small _ (by omega) (by omega)]; omega
  have hwk2 : wrap64 ((N : Int) - 5) = (K : Int) := by unfold wrap64; omega
  have Hwn := hide hwn
  clear hE hM hN ha hwa hwn
  go_enter Tryz.func5, Tryz.ntmps5
  go_upto_region 2 with fail
  rw [Hwn.out]
  generalize wrap64 (a : Int) = a1
  go_upto_region 3 with fail
  obtain ⟨W3, hW3⟩ : ∃ W3, W3 = (((w.alloc (.cells (madeCells #[.int .u8 0] K) 5)).alloc (.cells #[.int .u8 115, .int .i64 0, .string (bs (zerosM K)), .slice none 0 0] 47)).alloc (.cells #[.int .i64 2, .slice (some ⟨w.heap.size + 1, 0, none⟩) 1 1] 24)) := ⟨_, rfl⟩
  have hb3 : Below w.heap.size w W3 := by rw [hW3]; (repeat (first | exact Below.refl _ _ | refine below_drewN ?_ _ | refine Below.drew ?_ | refine Below.alloc ?_ (by first | omega | (simp; done) | (simp; omega)) _ | refine Below.setCell ?_ (by first | omega | (simp; done) | (simp; omega)) _ | refine bel_alloc ?_ _ | refine bel_trans ?_ (by assumption) | refine Below.trans ?_ (Below.mono (by assumption) (by first | omega | (simp; done) | (simp; omega)))))
  have hFb : Blk W3 (w.heap.size + 1) 47 #[.int .u8 115, .int .i64 0, .string (bs (zerosM K)), .slice none 0 0] := by rw [hW3]; exact (blk_new2 w _ _ _).alloc _
  have hMb : Blk W3 (w.heap.size + 1 + 1) 24 #[.int .i64 2, .slice (some ⟨w.heap.size + 1, 0, none⟩) 1 1] := by
    rw [hW3]
    have := Blk.new ((w.alloc (.cells (madeCells #[.int .u8 0] K) 5)).alloc (.cells #[.int .u8 115, .int .i64 0, .string (bs (zerosM K)), .slice none 0 0] 47)) 24 #[.int .i64 2, .slice (some ⟨w.heap.size + 1, 0, none⟩) 1 1]
    simpa using this
  rw [← hW3]
  clear hW3
  have m0 := hMb.cell 0
  have m1 := hMb.cell 1
  simp at m0 m1
  have HEn := hide (encode_anyM (w := W3) 2 (c := 1) (flds_one (k := 115) (n := 0) (s := zerosM K) hFb (by decide)) (fun x hx => by
    simp only [List.mem_singleton] at hx
    subst hx
    exact ⟨by show (zerosM K).length ≤ 100000; omega, by simp, by simp⟩) (by simp))
  clear hMb hFb
  generalize zerosM K = z at HEn hlong hshort hkl ⊢
  go_wp2_with fail
  refine HEn.out.mono ?_
  have HW1 := hide (show bs (atL [(word 2).data.toList]) = (⟨#[105, 103, 110, 111, 114, 101, 32]⟩ : ByteArray) from by kernel_rfl)
  have HW2 := hide (show bs (atL [msgB]) = (⟨#[109, 101, 115, 115, 97, 103, 101, 32]⟩ : ByteArray) from by kernel_rfl)
  have hmsg : ∀ p ∈ ([msgB] : List (List UInt8)), p.length ≤ 1000 := fun p hp => by simp only [List.mem_singleton] at hp; subst hp; decide
  have hign : ∀ p ∈ ([(word 2).data.toList] : List (List UInt8)), p.length ≤ 1000 := fun p hp => by simp only [List.mem_singleton] at hp; subst hp; exact word_lenL 2
  rintro e w4 ⟨hb4, hr4⟩
  have hb04 := hb3.trans (hb4.mono hb3.size)
  clear m0 m1 hb3 hb4
  by_cases hl : 32768 < N
  · have hl' : (32768 : Int) < N := by omega
    rw [if_pos hl] at hdec
    have hen := hlong (by omega)
    rcases hr4 with ⟨s, hs, _⟩ | ⟨b, ps, k, hk, rfl, hi⟩
    · rw [hen] at hs
      cases hs
    · rw [hen] at hk
      cases hk
      have Her := hide hi
      clear hi hen hl
      unfold errV
      have HDc := hide (fun (W : World) (hb : Below w4.heap.size w4 W) => decode_anyM (w := W) (bs (zerosM N)) (by rw [bs_size, hnl]; omega) (HL.out.2.below (hb04.trans (hb.mono hb04.size))))
      rw [bs_data, hdec] at HDc
      have Hi := hide (And.intro hb04 True.intro)
      have HBX := hide ((Below.refl w4.heap.size w4).alloc (Nat.le_refl _) (.cells (madeCells #[.int .u8 0] N) 5))
      clear hb04 HEn hdec hlong hshort hkl hnl hmk1 hwk hwk2 E1 E2 hK
      go_wp2_with (first
        | (go_at_call 13; refine (HDc.out _ HBX.out).mono ?_; rintro e w5 ⟨hb5, ⟨n5, l5, A5, c5, hd5, _⟩ | ⟨b5, ps5, k5, hd5, rfl, hi5⟩⟩)
        | fail)
      · cases hd5
        have hb45 := HBX.out.trans (hb5.mono HBX.out.size)
        have hb05 := Hi.out.1.trans (hb45.mono Hi.out.1.size)
        have HX7 := hide ((Below.refl w5.heap.size w5).alloc (Nat.le_refl _) (.cells #[.int .i64 0, .slice none 0 0] 24))
        have HG1 := hide (fun (W : World) (hb : Below w5.heap.size w5 W) => wrgN_any (w := W) b (k := 2) (by simp) hign ((Her.out.below hb45).below hb) (HL.out.1.below (hb05.trans (hb.mono hb05.size))))
        have HG2 := hide (fun (W : World) (hb : Below w5.heap.size w5 W) => wrgN_any (w := W) b5 (k := 2) (by simp) hmsg (hi5.below hb) (HL.out.1.below (hb05.trans (hb.mono hb05.size))))
        rw [HW1.out] at HG1
        rw [HW2.out] at HG2
        have Hb05 := hide hb05
        clear hb45 hb05 hi5 Her HDc HBX hb5 hmk2
        unfold errV at HG1 HG2
        unfold errV
        go_wp2_with (first
          | (go_at_call 9; refine (HA.out _).mono ?_; rintro e w6 ⟨rfl, hb6⟩; have hb56 := HX7.out.trans (hb6.mono HX7.out.size))
          | (go_at_call 12; (with_reducible refine (HG1.out _ hb56).mono ?_); rintro e w7 ⟨rfl, hb7⟩; have hb57 := hb56.trans (hb7.mono hb56.size))
          | (go_at_call 12; refine (HG2.out _ hb57).mono ?_; rintro e w8 ⟨rfl, hb8⟩)
          | fail)
        go_ret
        exact ⟨rfl, Hb05.out.trans ((hb57.trans (hb8.mono hb57.size)).mono Hb05.out.size)⟩
  · have hl' : ¬ (32768 : Int) < N := by omega
    rw [if_neg hl] at hdec
    have hen := hshort (by omega)
    rcases hr4 with ⟨s, hs, rfl⟩ | ⟨b, ps, k, hk, _, _⟩
    · rw [hen] at hs
      injection hs with hs
      have hsl : s.length = N := by
        rw [← hs]
        simp only [textL, List.length_append, List.length_cons, List.length_nil, q4_len]
        omega
      have hse : (((bs s).size : Int) == (N : Int)) = true := by rw [bs_size, hsl]; exact beq_self_eq_true _
      have hse2 : ((s.length : Int) == (N : Int)) = true := by rw [hsl]; exact beq_self_eq_true _
      clear hs hen hl hsl
      have HDc := hide (fun (W : World) (hb : Below w4.heap.size w4 W) => decode_anyM (w := W) (bs (zerosM N)) (by rw [bs_size, hnl]; omega) (HL.out.2.below (hb04.trans (hb.mono hb04.size))))
      rw [bs_data, hdec] at HDc
      have Hi := hide (And.intro hb04 True.intro)
      have HBX := hide ((Below.refl w4.heap.size w4).alloc (Nat.le_refl _) (.cells (madeCells #[.int .u8 0] N) 5))
      clear hb04 HEn hdec hlong hshort hkl hnl hmk1 hwk hwk2 E1 E2 hK
      go_wp2_with (first
        | (go_at_call 13; refine (HDc.out _ HBX.out).mono ?_; rintro e w5 ⟨hb5, ⟨n5, l5, A5, c5, hd5, _⟩ | ⟨b5, ps5, k5, hd5, rfl, hi5⟩⟩)
        | fail)
      · cases hd5
        have hb45 := HBX.out.trans (hb5.mono HBX.out.size)
        have hb05 := Hi.out.1.trans (hb45.mono Hi.out.1.size)
        have HX7 := hide ((Below.refl w5.heap.size w5).alloc (Nat.le_refl _) (.cells #[.int .i64 0, .slice none 0 0] 24))
        have HG2 := hide (fun (W : World) (hb : Below w5.heap.size w5 W) => wrgN_any (w := W) b5 (k := 6) (by simp) hmsg (hi5.below hb) (HL.out.1.below (hb05.trans (hb.mono hb05.size))))
        rw [HW2.out] at HG2
        have Hb05 := hide hb05
        clear hb45 hb05 hi5 HDc HBX hb5 hmk2
        unfold errV at HG2
        unfold errV
        go_wp2_with (first
          | (go_at_call 9; refine (HA.out _).mono ?_; rintro e w6 ⟨rfl, hb6⟩; have hb56 := HX7.out.trans (hb6.mono HX7.out.size))
          | (go_at_call 12; refine (HG2.out _ hb56).mono ?_; rintro e w8 ⟨rfl, hb8⟩)
          | fail)
        go_ret
        exact ⟨rfl, Hb05.out.trans ((hb56.trans (hb8.mono hb56.size)).mono Hb05.out.size)⟩
    · rw [hen] at hk
      cases hk
end
end Go.Proofs.YtcjafkanckcfbaaGreatDoor
