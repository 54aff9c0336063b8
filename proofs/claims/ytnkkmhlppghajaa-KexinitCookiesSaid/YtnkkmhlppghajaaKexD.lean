/-
  The law KexinitCookies, a part: the first is not small. Conditions: what its name says.
-/
import Derived.Test.YtnkkmhlppghajaaKexA
import Derived.Deep.RegionHeld3
import Derived.Lib.QuietBelow
import Derived.Deep.DeepCutAuto
namespace Go.Proofs.Ytnkkmhlppghajaa
open Go.ChangeShapes Go.WideShapes Go.ChangeAt Go.RowKit Go.Sort
open Go.ChangeMaps (open_string shut_string)

set_option maxHeartbeats 8000000 in
set_option maxRecDepth 100000 in
theorem cookies_f {a0 a1 b0 b1 : Int} {us1 us2 : List Value} {x y : Ini} {w : World} (ha0 : a0 ≤ 9223372036854775807) (ha1 : a1 ≤ 9223372036854775807) (hb0 : b0 ≤ 9223372036854775807) (hb1 : b1 ≤ 9223372036854775807) (h1 : IniV w us1 x) (h2 : IniV w us2 y) (fx : ¬ fewI x = true) :
    Calls Try.prog 3 #[.agg #[.int .i64 a0, .int .i64 a1], .agg #[.int .i64 b0, .int .i64 b1], .agg (us1 ++ us2).toArray] w fun e w' => e = .returned (.bool true) ∧ Below w.heap.size w w' := by
  have HC := hide (fun w => cookie_any a0 a1 w ha0 ha1)
  have HD := hide (fun w => cookie_any b0 b1 w hb0 hb1)
  have HR := hide (fun w => rcookie_any a0 a1 w ha0 ha1)
  have HF1 := hide (fun w2 (hb2 : Below w.heap.size w w2) => few16_any (h1.below hb2))
  have HF2 := hide (fun w2 (hb2 : Below w.heap.size w w2) => few16_any (h2.below hb2))
  obtain ⟨⟨v0, v1, v2, v3, v4, v5, v6, v7, l0, l1, rfl, p1, p2, p3⟩, p4, p5, p6⟩ := h1
  obtain ⟨⟨u0, u1, u2, u3, u4, u5, u6, u7, m0, m1, rfl, q1, q2, q3⟩, q4, q5, q6⟩ := h2
  obtain ⟨c, ss, x0, x1, e0, e1, e2, e3, e4⟩ := x
  obtain ⟨d, ts, y0, y1, f0, f1, f2, f3, f4⟩ := y
  simp only at *
  have HK := hide (fun (fx : fewI ⟨c, ss, x0, x1, e0, e1, e2, e3, e4⟩ = true) (fy : fewI ⟨d, ts, y0, y1, f0, f1, f2, f3, f4⟩ = true) w2 (hb2 : Below w.heap.size w w2) => ksame_any (c := c) (d := d) (a0 := e0) (a1 := e1) (a2 := e2) (a3 := e3) (a4 := e4) (b0 := f0) (b1 := f1) (b2 := f2) (b3 := f3) (b4 := f4) (p1.below hb2) (q1.below hb2) (p2.below hb2) (p3.below hb2) (q2.below hb2) (q3.below hb2) p5 p6 q5 q6 (fewI_len fx) (fewI_len fy))
  have HL := hide (fun w2 (hb2 : Below w.heap.size w w2) => lsame16_any (c := c) (d := d) (a0 := e0) (a1 := e1) (a2 := e2) (a3 := e3) (a4 := e4) (b0 := f0) (b1 := f1) (b2 := f2) (b3 := f3) (b4 := f4) (p1.below hb2) (q1.below hb2) (p2.below hb2) (p3.below hb2) (q2.below hb2) (q3.below hb2) p5 p6 q5 q6)
  clear p1 p2 p3 q1 q2 q3 p4 p5 p6 q4 q5 q6
  simp only [List.cons_append, List.nil_append]
  go_enter Try.func3, Try.ntmps3
  go_wp2
  have hB3 := Blk.new ((w.alloc (.cells #[.int .i64 a0, .int .i64 a1] 22)).alloc (.cells #[.int .i64 b0, .int .i64 b1] 22)) 29 #[.string c, v0, v1, v2, v3, v4, v5, v6, v7, l0, l1, .bool e0, .bool e1, .bool e2, .bool e3, .bool e4, .string d, u0, u1, u2, u3, u4, u5, u6, u7, m0, m1, .bool f0, .bool f1, .bool f2, .bool f3, .bool f4]
  rw [World.size_alloc, World.size_alloc] at hB3
  have HB3 := hide hB3
  clear hB3
  obtain ⟨X, hX⟩ : ∃ X : Array Value, X = #[.string c, v0, v1, v2, v3, v4, v5, v6, v7, l0, l1, .bool e0, .bool e1, .bool e2, .bool e3, .bool e4, .string d, u0, u1, u2, u3, u4, u5, u6, u7, m0, m1, .bool f0, .bool f1, .bool f2, .bool f3, .bool f4] := ⟨_, rfl⟩
  rw [← hX] at HB3 ⊢
  have HX := hide hX
  clear hX
  go_region_held3 (fun w' => w'.cell? ⟨w.heap.size, 0, none⟩ = some (.int .i64 a0) ∧ w'.cell? ⟨w.heap.size, 1, none⟩ = some (.int .i64 a1) ∧ w'.cell? ⟨w.heap.size + 1, 0, none⟩ = some (.int .i64 b0) ∧ w'.cell? ⟨w.heap.size + 1, 1, none⟩ = some (.int .i64 b1) ∧ Blk w' (w.heap.size + 1 + 1) 29 X ∧ Below w.heap.size w w')
    (first | exact ⟨by go_simp, by go_simp, by go_simp, by go_simp, HB3.out.drew, by (repeat (first | exact Below.refl _ _ | refine below_drewN ?_ _ | refine Below.drew ?_ | refine Below.alloc ?_ (by first | omega | (simp; done) | (simp; omega)) _ | refine Below.setCell ?_ (by first | omega | (simp; done) | (simp; omega)) _ | refine bel_alloc ?_ _ | refine bel_trans ?_ (by assumption) | refine Below.trans ?_ (Below.mono (by assumption) (by first | omega | (simp; done) | (simp; omega)))))⟩ | assumption | exact keepC (by assumption) (by assumption))
    (first
    | (go_at_call 4; (with_reducible refine (HC.out _).mono ?_); rintro e w1 ⟨r1, rfl, hr1, hb1⟩; have Hr1 := hide hr1; clear hr1)
    | (go_at_call 4; (with_reducible refine (HD.out _).mono ?_); rintro e w2 ⟨r2, rfl, hr2, hb2⟩; have Hr2 := hide hr2; clear hr2))
  obtain ⟨d1, d2, d3, d4, hB3, hW⟩ := ‹_ ∧ _ ∧ _ ∧ _ ∧ Blk _ _ _ X ∧ Below _ _ _›
  clear HB3
  have hz1 : r1.size = 16 := by
    have := cookie_len a0 a1
    rw [← Hr1.out] at this
    exact this
  go_wp2_with (go_at_call 5; refine (HR.out _).mono ?_; rintro e w3 ⟨r3, rfl, hr3, hb3⟩; obtain rfl : r3 = r1 := dataI (hr3.trans Hr1.out.symm); obtain ⟨hc3, hf3⟩ := bcell hb3; clear hr3)
  have l1 : w.heap.size < w2.heap.size := World.block_lt_of_cell? w2 _ d1
  have l2 : w.heap.size + 1 < w2.heap.size := World.block_lt_of_cell? w2 _ d3
  have c1 := (hc3 w.heap.size 0 l1).trans d1
  have c2 := (hc3 w.heap.size 1 l1).trans d2
  have c3 := (hc3 (w.heap.size + 1) 0 l2).trans d3
  have c4 := (hc3 (w.heap.size + 1) 1 l2).trans d4
  have hB4 := hide (hB3.below hb3 hB3.lt)
  have hW3 := bel_trans hW hb3
  clear hc3 hf3 hb3 hB3 hW d1 d2 d3 d4 l1 l2 hb1 hb2
  have P0 : ∀ (x : Bool), (x = true ↔ (0 ≤ a0 ∧ a0 < 562949953421312) ∧ (0 ≤ b0 ∧ b0 < 562949953421312)) → True := fun _ _ => trivial
  go_loop [9, 10] (fun s i => (i = .int .i64 0 ∧ s = .bool true) ∨ (i = .int .i64 1 ∧ ∃ x : Bool, s = .bool x ∧ Hid (x = true ↔ (0 ≤ a0 ∧ a0 < 562949953421312) ∧ (0 ≤ b0 ∧ b0 < 562949953421312))) ∨ (i = .int .i64 2 ∧ ∃ x : Bool, s = .bool x ∧ Hid (x = true ↔ ((0 ≤ a0 ∧ a0 < 562949953421312) ∧ (0 ≤ b0 ∧ b0 < 562949953421312)) ∧ ((0 ≤ a1 ∧ a1 < 562949953421312) ∧ (0 ≤ b1 ∧ b1 < 562949953421312))))) (fun _ i => 2 - (intOf i).toNat)
  case atStart => exact .inl ⟨rfl, rfl⟩
  case round =>
    rcases hrel with ⟨rfl, rfl⟩ | ⟨rfl, x1', rfl, Hx⟩ | ⟨rfl, x2', rfl, Hx⟩
    · go_wp2
      all_goals
        go_round
        case rel => exact .inr (.inl ⟨rfl, _, rfl, hide (by simp; omega)⟩)
        case measure => simp [intOf]
    · cases x1' with
      | false =>
        go_wp2
        go_round
        case rel => exact .inr (.inr ⟨rfl, _, rfl, hide (by have := Hx.out; simp at this ⊢; omega)⟩)
        case measure => simp [intOf]
      | true =>
        go_wp2
        all_goals
          go_round
          case rel => exact .inr (.inr ⟨rfl, _, rfl, hide (by have := Hx.out; simp at this ⊢; omega)⟩)
          case measure => simp [intOf]
    · clear P0
      have hg : Try.prog.eqGuardType Try.prog.depth 22 = false := by kernel_rfl
      have hcase : (x2' = false ∧ ∀ w : World, (binOp .eql 22 (.agg #[.int .i64 a0, .int .i64 a1]) (.agg #[.int .i64 b0, .int .i64 b1])).run Try.prog w = .ok (.bool (a0 == b0 && a1 == b1)) w) ∨ (x2' = true ∧ ∃ z : Bool, (r3.toList == r2.toList) = z ∧ ∀ w : World, (binOp .eql 22 (.agg #[.int .i64 a0, .int .i64 a1]) (.agg #[.int .i64 b0, .int .i64 b1])).run Try.prog w = .ok (.bool z) w) := by
        cases x2' with
        | false => exact .inl ⟨rfl, eqArr2 a0 a1 b0 b1⟩
        | true =>
          obtain ⟨⟨⟨k1, k2⟩, k3, k4⟩, ⟨k5, k6⟩, k7, k8⟩ := Hx.out.1 rfl
          refine .inr ⟨rfl, (a0 == b0 && a1 == b1), ?_, eqArr2 a0 a1 b0 b1⟩
          by_cases hab : a0 = b0 ∧ a1 = b1
          · obtain ⟨rfl, rfl⟩ := hab
            rw [dataI (Hr1.out.trans Hr2.out.symm)]
            simp
          · rw [show (a0 == b0 && a1 == b1) = false by simpa using hab]
            refine bytes_ne ?_
            rintro rfl
            exact hab (cookie_inj k1 k2 k5 k6 k3 k4 k7 k8 (Hr1.out.symm.trans Hr2.out))
      have hX := HX.out
      subst hX
      have hcl := hB4.out.cell
      have hlt3 := hB4.out.lt
      clear HX hB4 Hr1 Hr2 Hx HC HD HR
      go_upto_region 9 with fail
      go_cut [71] (fun s71 wx => s71 = .bool false ∧ w3 = wx)
      case first =>
        rcases hcase with ⟨rfl, hq⟩ | ⟨rfl, z0, hne, hq⟩
        all_goals go_wp2
        all_goals go_meet
        all_goals exact ⟨rfl, rfl⟩
      case rest =>
        as_aux_lemma =>
          obtain ⟨rfl, rfl⟩ := hcut
          clear hcase
          go_wp2
          have k0 := fun dd oo => cell_regrown (v := (.string c)) (hcl 0) dd oo
          have k1 := fun dd oo => cell_regrown (v := v0) (hcl 1) dd oo
          have k2 := fun dd oo => cell_regrown (v := v1) (hcl 2) dd oo
          have k3 := fun dd oo => cell_regrown (v := v2) (hcl 3) dd oo
          have k4 := fun dd oo => cell_regrown (v := v3) (hcl 4) dd oo
          have k5 := fun dd oo => cell_regrown (v := v4) (hcl 5) dd oo
          have k6 := fun dd oo => cell_regrown (v := v5) (hcl 6) dd oo
          have k7 := fun dd oo => cell_regrown (v := v6) (hcl 7) dd oo
          have k8 := fun dd oo => cell_regrown (v := v7) (hcl 8) dd oo
          have k9 := fun dd oo => cell_regrown (v := l0) (hcl 9) dd oo
          have k10 := fun dd oo => cell_regrown (v := l1) (hcl 10) dd oo
          have k11 := fun dd oo => cell_regrown (v := (.bool e0)) (hcl 11) dd oo
          have k12 := fun dd oo => cell_regrown (v := (.bool e1)) (hcl 12) dd oo
          have k13 := fun dd oo => cell_regrown (v := (.bool e2)) (hcl 13) dd oo
          have k14 := fun dd oo => cell_regrown (v := (.bool e3)) (hcl 14) dd oo
          have k15 := fun dd oo => cell_regrown (v := (.bool e4)) (hcl 15) dd oo
          have k16 := fun dd oo => cell_regrown (v := (.string d)) (hcl 16) dd oo
          have k17 := fun dd oo => cell_regrown (v := u0) (hcl 17) dd oo
          have k18 := fun dd oo => cell_regrown (v := u1) (hcl 18) dd oo
          have k19 := fun dd oo => cell_regrown (v := u2) (hcl 19) dd oo
          have k20 := fun dd oo => cell_regrown (v := u3) (hcl 20) dd oo
          have k21 := fun dd oo => cell_regrown (v := u4) (hcl 21) dd oo
          have k22 := fun dd oo => cell_regrown (v := u5) (hcl 22) dd oo
          have k23 := fun dd oo => cell_regrown (v := u6) (hcl 23) dd oo
          have k24 := fun dd oo => cell_regrown (v := u7) (hcl 24) dd oo
          have k25 := fun dd oo => cell_regrown (v := m0) (hcl 25) dd oo
          have k26 := fun dd oo => cell_regrown (v := m1) (hcl 26) dd oo
          have k27 := fun dd oo => cell_regrown (v := (.bool f0)) (hcl 27) dd oo
          have k28 := fun dd oo => cell_regrown (v := (.bool f1)) (hcl 28) dd oo
          have k29 := fun dd oo => cell_regrown (v := (.bool f2)) (hcl 29) dd oo
          have k30 := fun dd oo => cell_regrown (v := (.bool f3)) (hcl 30) dd oo
          have k31 := fun dd oo => cell_regrown (v := (.bool f4)) (hcl 31) dd oo
          clear hcl
          have G1 := hide (fun dd oo => Calls.regrown_of (HF1.out _ (hW3.trans ((below_regrown w3 dd oo).mono hW3.size))))
          have G2 := hide (fun dd oo => Calls.regrown_of (HF2.out _ (hW3.trans ((below_regrown w3 dd oo).mono hW3.size))))
          rw [(Bool.not_eq_true _).mp fx] at G1
          clear HK HL HF1 HF2 G2 fx
          refine wp_region_quiet_below (by kernel_rfl) (by kernel_rfl) ?_
          clear k16 k17 k18 k19 k20 k21 k22 k23 k24 k25 k26 k27 k28 k29 k30 k31
          first | go_big_quiet_skip | quiet_step (fail)
          first | go_big_quiet_skip | quiet_step (fail)
          clear k0 k1 k2 k3 k4 k5 k6 k7 k8 k9 k10 k11 k12 k13 k14 k15
          quiet_step ((go_at_call 6; with_reducible exact G1.out _ _))
          first | go_big_quiet_skip | quiet_step (fail)
          first | go_big_quiet_skip | quiet_step (fail)
          as_aux_lemma =>
            first | go_big_quiet_skip | quiet_step (fail)
            first | go_big_quiet_skip | quiet_step (fail)
            first | go_big_quiet_skip | quiet_step (fail)
            first | go_big_quiet_skip | quiet_step (fail)
            first | go_big_quiet_skip | quiet_step (fail)
            as_aux_lemma =>
              first | go_big_quiet_skip | quiet_step (fail)
              first | go_big_quiet_skip | quiet_step (fail)
              first | go_big_quiet_skip | quiet_step (fail)
              first | go_big_quiet_skip | quiet_step (fail)
              first | go_big_quiet_skip | quiet_step (fail)
              as_aux_lemma =>
                first | go_big_quiet_skip | quiet_step (fail)
                first | go_big_quiet_skip | quiet_step (fail)
                first | go_big_quiet_skip | quiet_step (fail)
                first | go_big_quiet_skip | quiet_step (fail)
                first | go_big_quiet_skip | quiet_step (fail)
                first | go_big_quiet_skip | quiet_step (fail)
                refine wpQuiet_nil ?_
                intro _ hwq
                obtain ⟨⟨dq, osq⟩, hwqq⟩ := hwq
                subst hwqq
                have hbq := below_regrown w3 dq osq
                generalize grow (redrawn w3 dq) osq = wq at hbq ⊢
                go_wp2_with (go_at_call 9; refine (awake16 _).mono ?_; rintro e wz ⟨rfl, hbz⟩)
                go_ret
                exact ⟨rfl, bel_trans (bel_trans hW3 hbq) hbz⟩
end Go.Proofs.Ytnkkmhlppghajaa
