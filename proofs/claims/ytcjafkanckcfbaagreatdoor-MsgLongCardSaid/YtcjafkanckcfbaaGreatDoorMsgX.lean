/-
  Law MsgEncodes: the walk of the statement. Conditions: the library's handle and number are as they were laid.
-/
import Derived.Test.YtcjafkanckcfbaaGreatDoorSameM
set_option linter.unusedVariables false
set_option linter.unusedSimpArgs false
namespace Go.Proofs.YtcjafkanckcfbaaGreatDoor
open Go.RowKit Go.ChangeShapes Go.WideShapes Go.Sort
theorem dig_len : ∀ i < 1000, (Lib.decDigits i).length ≤ 1000 := by decide +kernel
theorem readFs_idx {f r : List UInt8} {i e j : Nat} (h : readFs f r i = .no e j) : j < i + f.length := by
  induction f generalizing r i with
  | nil =>
    simp only [readFs] at h
    split at h <;> cases h
  | cons c f ih =>
    cases hg : getF c.toNat r with
    | no e2 =>
      rw [readFs_no hg] at h
      injection h with h1 h2
      simp only [List.length_cons]
      omega
    | ok x r2 =>
      rw [readFs_of hg] at h
      cases hr : readFs f r2 (i + 1) with
      | no e2 j2 =>
        rw [hr] at h
        injection h with h1 h2
        subst h1 h2
        have := ih hr
        simp only [List.length_cons]
        omega
      | ok l => rw [hr] at h; cases h
      | tail => rw [hr] at h; cases h
theorem encGo_idx {f : List UInt8} {l : List Fld} {i e j : Nat} {out : List UInt8} (h : encGo f l i out = .bad e j) : j < i + f.length := by
  induction f generalizing l i out with
  | nil => cases l <;> cases h
  | cons c f ih =>
    cases l with
    | nil => cases h
    | cons x l =>
      simp only [encGo] at h
      simp only [List.length_cons]
      split at h
      · split at h
        · split at h
          · cases h
          · have := ih h
            omega
        · injection h with h1 h2
          omega
      · injection h with h1 h2
        omega
def PsOk (ps : List (List UInt8)) : Prop := ps.length ≤ 3 ∧ ∀ q ∈ ps, q.length ≤ 1000
theorem word_lenL (n : Int) : (word n).data.toList.length ≤ 1000 := Nat.le_trans (word_len n) (by decide)
theorem readErr_ok {f r : List UInt8} {ps : List (List UInt8)} {k : Nat} (hf : f.length ≤ 13) (h : readErr (readFs f r 0) = some (ps, k)) : ps.length ≤ 1 ∧ ∀ q ∈ ps, q.length ≤ 1000 := by
  cases hr : readFs f r 0 with
  | ok l => rw [hr] at h; cases h
  | no e j =>
    rw [hr] at h
    cases h
    have := readFs_idx hr
    refine ⟨by simp, fun q hq => ?_⟩
    simp only [List.mem_singleton] at hq
    subst hq
    exact dig_len j (by omega)
  | tail =>
    rw [hr] at h
    cases h
    exact ⟨by simp, fun q hq => by simp only [List.mem_singleton] at hq; subst hq; decide⟩
theorem decErr_ok {p : List UInt8} {ps : List (List UInt8)} {k : Nat} (h : decErr (decS p) = some (ps, k)) : PsOk ps := by
  have hm : PsOk [msgB] := ⟨by simp, fun q hq => by simp only [List.mem_singleton] at hq; subst hq; decide⟩
  cases p with
  | nil =>
    cases h
    exact hm
  | cons c r =>
    by_cases hl : 32768 < (c :: r).length
    · rw [decS_long hl] at h
      cases h
      exact hm
    · cases hf : forms c.toNat with
      | nil =>
        rw [decS_none hl hf] at h
        cases h
        exact hm
      | cons f fs =>
        cases hn : firstF (forms c.toNat) r with
        | some l =>
          rw [decS_of (by omega) hn] at h
          cases h
        | none =>
          rw [decS_bad hl hf hn] at h
          have h13 := (form_ascii (n := (c.toNat : Nat)) (f := f) (by rw [hf]; simp)).1
          cases hr : readErr (readFs f.data.toList r 0) with
          | none =>
            simp only [decErr, hr] at h
            cases h
          | some x =>
            obtain ⟨qs, k2⟩ := x
            have h2 := readErr_ok (f := f.data.toList) h13 hr
            simp only [decErr, hr] at h
            cases h
            refine ⟨by have := h2.1; simp only [List.length_cons]; omega, fun q hq => ?_⟩
            rcases List.mem_cons.1 hq with rfl | hq
            · exact word_lenL _
            · exact h2.2 q hq
theorem encErr_ok {n : Int} {l : List Fld} {ps : List (List UInt8)} {k : Nat} (h : encErr n (encS n l) = some (ps, k)) : PsOk ps := by
  have hw := word_lenL n
  unfold encS at h
  cases hf : (fit n l.length).2 with
  | false =>
    rw [hf, if_neg (by decide)] at h
    cases h
    exact ⟨by simp, fun q hq => by simp only [List.mem_singleton] at hq; subst hq; decide⟩
  | true =>
    rw [if_pos hf] at h
    have h13 := (form_ascii (fit_get hf).1).1
    cases hg : encGo (fit n l.length).1.data.toList l 0 [UInt8.ofNat n.toNat] with
    | ok s => rw [hg] at h; cases h
    | none => rw [hg] at h; cases h; exact ⟨by simp, fun q hq => by simp only [List.mem_singleton] at hq; subst hq; decide⟩
    | long =>
      rw [hg] at h
      cases h
      exact ⟨by simp, fun q hq => by simp only [List.mem_singleton] at hq; subst hq; exact hw⟩
    | bad e j =>
      rw [hg] at h
      cases h
      have hj := encGo_idx hg
      have hz : (fit n l.length).1.data.toList.length = (fit n l.length).1.size := rfl
      refine ⟨by simp, fun q hq => ?_⟩
      simp only [List.mem_cons, List.mem_nil_iff, or_false] at hq
      rcases hq with rfl | rfl
      · exact hw
      · exact dig_len j (by omega)
section
variable {w : World}
set_option maxHeartbeats 8000000 in
set_option maxRecDepth 100000 in
theorem msgEncodes_any (hE : Hand w) (hM : MaxL w) (num : Int) {l : List Fld} {A : Option Addr} {c : Nat} (hl : Flds w A l) (hll : l.length ≤ maxLen) (hf : ∀ x ∈ l, FldFit x) :
    Calls Tryz.prog 3 #[.agg #[.int .i64 num, .slice A l.length c]] w (fun e w' => e = .returned (.bool true) ∧ Below w.heap.size w w') := by
  obtain ⟨W0, hW0⟩ : ∃ W0, W0 = w.alloc (.cells #[.int .i64 num, .slice A l.length c] 24) := ⟨_, rfl⟩
  have hb0 : Below w.heap.size w W0 := by rw [hW0]; (repeat (first | exact Below.refl _ _ | refine below_drewN ?_ _ | refine Below.drew ?_ | refine Below.alloc ?_ (by first | omega | (simp; done) | (simp; omega)) _ | refine Below.setCell ?_ (by first | omega | (simp; done) | (simp; omega)) _ | refine bel_alloc ?_ _ | refine bel_trans ?_ (by assumption) | refine Below.trans ?_ (Below.mono (by assumption) (by first | omega | (simp; done) | (simp; omega)))))
  have hB0 : Blk W0 w.heap.size 24 #[.int .i64 num, .slice A l.length c] := by rw [hW0]; exact Blk.new w _ _
  have m0 := hB0.cell 0
  have m1 := hB0.cell 1
  simp at m0 m1
  have HF := hide (few_any (w := W0) num (c := c) (hl.below hb0) hll hf)
  have HA := hide (fun W => awake07_any W)
  have HL := hide (And.intro (And.intro hE hM) (And.intro hl (And.intro hb0 hB0)))
  clear hE hM hl hb0 hB0 hf hll
  go_enter Tryz.func3, Tryz.ntmps3
  go_upto_region 1 with fail
  rw [← hW0]
  clear hW0
  go_wp2_with fail
  refine HF.out.mono ?_
  rintro e w1 ⟨b, rfl, hb1, hfew⟩
  clear HF
  have hb01 : Below w.heap.size w w1 := HL.out.2.2.1.trans (hb1.mono HL.out.2.2.1.size)
  have hB1 := HL.out.2.2.2.below hb1 HL.out.2.2.2.lt
  clear m0 m1
  cases b with
  | false =>
    clear hfew
    go_wp2_with (first
      | (go_at_call 9; refine (HA.out _).mono ?_; rintro e w2 ⟨rfl, hb2⟩)
      | fail)
    go_ret
    exact ⟨rfl, hb01.trans (hb2.mono hb01.size)⟩
  | true =>
    obtain ⟨h20, hfw⟩ := hfew rfl
    have m0 := hB1.cell 0
    have m1 := hB1.cell 1
    simp at m0 m1
    have HEn := hide (encode_anyM (w := w1) num (c := c) (HL.out.2.1.below hb01) (fun x hx => (hfw x hx).sz) (by omega))
    have Hfw := hide hfw
    have HX := hide (And.intro hb01 hB1)
    clear hb01 hB1 hfw hb1 hfew
    go_wp2_with fail
    refine HEn.out.mono ?_
    rintro e w2 ⟨hb2, hr2⟩
    have hb02 : Below w.heap.size w w2 := HX.out.1.trans (hb2.mono HX.out.1.size)
    have hB2 := HX.out.2.below hb2 HX.out.2.lt
    have HRn := hide (rencode_anyM (w := w2) num (c := c) (HL.out.2.1.below hb02) (fun x hx => (Hfw.out x hx).sz) (by omega))
    have HX2 := hide (And.intro hb02 hB2)
    have m0 := hB2.cell 0
    have m1 := hB2.cell 1
    simp at m0 m1
    clear hb02 hB2 hb2 HEn
    rcases hr2 with ⟨s, hs, rfl⟩ | ⟨b, ps, k, hk, rfl, hi⟩
    · go_wp2_with fail
      refine HRn.out.mono ?_
      rintro e w3 ⟨hb3, ⟨s2, hs2, rfl⟩ | ⟨ps2, k2, hk2, _, _⟩⟩
      · obtain rfl : s = s2 := by rw [hs] at hs2; injection hs2
        obtain ⟨hd1, hd2, hd3, hd4, hd5⟩ := dec_enc (fun x hx => (Hfw.out x hx).fit) hs
        have hb03 : Below w.heap.size w w3 := HX2.out.1.trans (hb3.mono HX2.out.1.size)
        have hB3 := HX2.out.2.below hb3 HX2.out.2.lt
        have hbx := (Below.refl w3.heap.size w3).alloc (Nat.le_refl _) (.cells #[.int .i64 0, .string ⟨#[]⟩] 33)
        have HDc := hide (decode_anyM (w := w3.alloc (.cells #[.int .i64 0, .string ⟨#[]⟩] 33)) (bs s) (by rw [bs_size]; omega) (HL.out.1.2.below (hb03.trans (hbx.mono hb03.size))))
        rw [bs_data, hd1] at HDc
        have hnum : ((num.toNat : Nat) : Int) = num := by omega
        have hss : ((bs s).toList == (bs s).toList) = true := beq_self_eq_true _
        have HX3 := hide (And.intro (hb03.trans (hbx.mono hb03.size)) (hB3.below hbx hB3.lt))
        have Hnum := hide hnum
        clear HRn hb3 hb03 hB3 hs hs2 hd1 hd2 hd3 hd4 hd5 hbx m0 m1 hnum
        generalize bs s = t at HDc hss
        go_wp2_with fail
        refine HDc.out.mono ?_
        rintro e w4 ⟨hb4, ⟨n4, l4, A4, c4, he4, rfl, hF4⟩ | ⟨b4, ps4, k4, hk4, _, _⟩⟩
        · injection he4 with e1 e2
          subst e1 e2
          have hb04 := HX3.out.1.trans (hb4.mono HX3.out.1.size)
          have hB4 := HX3.out.2.below hb4 HX3.out.2.lt
          have hS := fun (W : World) (hb : Below w4.heap.size w4 W) => same07_true (w := W) num (c1 := c4) (c2 := c) (hF4.below hb) (HL.out.2.1.below (hb04.trans (hb.mono hb04.size))) (by omega) (fun x hx => by have := (Hfw.out x hx).1; omega)
          rw [Hnum.out]
          have HS := hide hS
          have HX4 := hide (And.intro hb04 hB4)
          have HBX := hide (fun (W : World) (hb : Below (w4.alloc (.cells #[.int .i64 num, .slice A4 l.length c4] 24)).heap.size (w4.alloc (.cells #[.int .i64 num, .slice A4 l.length c4] 24)) W) => ((Below.refl w4.heap.size w4).alloc (Nat.le_refl _) (.cells #[.int .i64 num, .slice A4 l.length c4] 24)).trans (hb.mono (by simp)))
          have HB7 := hide (Blk.new w4 24 #[.int .i64 num, .slice A4 l.length c4])
          clear hb04 hB4 hS hF4 hb4 HDc
          go_wp2_with (first
            | (go_at_call 9; refine (HA.out _).mono ?_; rintro e w5 ⟨rfl, hb5⟩; have hB5 := HX4.out.2.below (HBX.out _ hb5) HX4.out.2.lt; have m0 := hB5.cell 0; have m1 := hB5.cell 1; have hB7 := HB7.out.below hb5 HB7.out.lt; have p0 := hB7.cell 0; have p1 := hB7.cell 1; simp at m0 m1 p0 p1)
            | (go_at_call 14; refine (HS.out _ (HBX.out _ hb5)).mono ?_; rintro e w6 ⟨rfl, hb6⟩)
            | fail)
          go_ret
          exact ⟨rfl, HX4.out.1.trans (((HBX.out _ hb5).trans (hb6.mono (HBX.out _ hb5).size)).mono HX4.out.1.size)⟩
        · cases hk4
      · rw [hs] at hk2
        cases hk2
    · go_wp2_with fail
      refine HRn.out.mono ?_
      rintro e w3 ⟨hb3, ⟨s2, hs2, _⟩ | ⟨ps2, k2, hk2, hk0, rfl⟩⟩
      · rw [hs2] at hk
        cases hk
      · rw [hk] at hk2
        obtain ⟨rfl, rfl⟩ : ps = ps2 ∧ k = k2 := by injection hk2 with h; injection h with h1 h2; exact ⟨h1, h2⟩
        have hps := encErr_ok hk
        have hx1 : ((k : Int) == 0) = false := by rw [beq_eq_false_iff_ne]; omega
        have hx2 : ((k : Int) != 0) = true := by simp [bne, hx1]
        have hb03 := HX2.out.1.trans (hb3.mono HX2.out.1.size)
        have HW := hide (fun (W : World) (hb : Below w3.heap.size w3 W) => wrgN_any (w := W) b (k := (k : Nat)) hps.1 hps.2 (((hi.below hb3)).below hb) (HL.out.1.1.below (hb03.trans (hb.mono hb03.size))))
        have HX3 := hide hb03
        have HBX := hide (fun (W : World) (hb : Below (w3.alloc (.cells #[.int .i64 (k : Nat), .string (bs (atL ps))] 33)).heap.size (w3.alloc (.cells #[.int .i64 (k : Nat), .string (bs (atL ps))] 33)) W) => ((Below.refl w3.heap.size w3).alloc (Nat.le_refl _) (.cells #[.int .i64 (k : Nat), .string (bs (atL ps))] 33)).trans (hb.mono (by simp)))
        have HB7 := hide (Blk.new w3 33 #[.int .i64 (k : Nat), .string (bs (atL ps))])
        clear hk hk2 hk0 hps hb3 hb03 hi HRn m0 m1
        unfold errV at HW ⊢
        generalize bs (atL ps) = ap at HW HBX HB7 ⊢
        go_wp2_with (first
          | (go_at_call 9; refine (HA.out _).mono ?_; rintro e w5 ⟨rfl, hb5⟩; have hB7 := HB7.out.below hb5 HB7.out.lt; have p0 := hB7.cell 0; have p1 := hB7.cell 1; simp at p0 p1)
          | (go_at_call 12; refine (HW.out _ (HBX.out _ hb5)).mono ?_; rintro e w6 ⟨rfl, hb6⟩)
          | fail)
        go_ret
        exact ⟨rfl, HX3.out.trans (((HBX.out _ hb5).trans (hb6.mono (HBX.out _ hb5).size)).mono HX3.out.size)⟩
end
end Go.Proofs.YtcjafkanckcfbaaGreatDoor
