/-
  The contract of law07's Same of equal messages. Conditions: at most 1,000 values; lists of at most 1,000,000,000 texts.
-/
import Derived.Test.YtcjafkanckcfbaaGreatDoorLawM
set_option linter.unusedVariables false
set_option linter.unusedSimpArgs false
namespace Go.Proofs.YtcjafkanckcfbaaGreatDoor
open Go.RowKit Go.ChangeShapes Go.WideShapes Go.Sort
theorem blk_two1 (w : World) (cs : Array Value) (t : TypeId) (o : Obj) : Blk ((w.alloc (.cells cs t)).alloc o).drew w.heap.size t cs := (Blk.new w t cs).alloc o
theorem blk_two2 (w : World) (cs : Array Value) (t : TypeId) (o : Obj) : Blk ((w.alloc o).alloc (.cells cs t)).drew (w.heap.size + 1) t cs := blk_new2 w o t cs
theorem below_two (w : World) (o o2 : Obj) : Below w.heap.size w ((w.alloc o).alloc o2).drew := by (repeat (first | exact Below.refl _ _ | refine below_drewN ?_ _ | refine Below.drew ?_ | refine Below.alloc ?_ (by first | omega | (simp; done) | (simp; omega)) _ | refine Below.setCell ?_ (by first | omega | (simp; done) | (simp; omega)) _ | refine bel_alloc ?_ _ | refine bel_trans ?_ (by assumption) | refine Below.trans ?_ (Below.mono (by assumption) (by first | omega | (simp; done) | (simp; omega)))))
theorem cell_spot {w : World} {b o : Nat} {s : Option Nat} {v : Value} (h : w.cell? ⟨b, o, s⟩ = some v) : s = none := by
  unfold World.cell? at h
  cases s with
  | none => rfl
  | some x =>
    simp only at h
    split at h
    · simp at h
    · cases h
section
variable {w : World}
set_option maxRecDepth 100000 in
set_option maxHeartbeats 8000000 in
theorem same07_true (num : Int) {l : List Fld} {A1 A2 : Option Addr} {c1 c2 : Nat} (h1 : Flds w A1 l) (h2 : Flds w A2 l) (hll : l.length ≤ 1000000) (hxl : ∀ x ∈ l, x.l.length ≤ 1000000000) :
    Calls Tryz.prog 14 #[.agg #[.int .i64 num, .slice A1 l.length c1], .agg #[.int .i64 num, .slice A2 l.length c2]] w (fun e w' => e = .returned (.bool true) ∧ Below w.heap.size w w') := by
  obtain ⟨W0, hW0⟩ : ∃ W0, W0 = (w.alloc (.cells #[.int .i64 num, .slice A1 l.length c1] 24)).alloc (.cells #[.int .i64 num, .slice A2 l.length c2] 24) := ⟨_, rfl⟩
  have hb0 : Below w.heap.size w W0 := by rw [hW0]; (repeat (first | exact Below.refl _ _ | refine below_drewN ?_ _ | refine Below.drew ?_ | refine Below.alloc ?_ (by first | omega | (simp; done) | (simp; omega)) _ | refine Below.setCell ?_ (by first | omega | (simp; done) | (simp; omega)) _ | refine bel_alloc ?_ _ | refine bel_trans ?_ (by assumption) | refine Below.trans ?_ (Below.mono (by assumption) (by first | omega | (simp; done) | (simp; omega)))))
  have hM0 : Blk W0 w.heap.size 24 #[.int .i64 num, .slice A1 l.length c1] := by rw [hW0]; exact (Blk.new w _ _).alloc _
  obtain ⟨mb, hmb⟩ : ∃ mb, mb = w.heap.size + 1 := ⟨_, rfl⟩
  have hN0 : Blk W0 mb 24 #[.int .i64 num, .slice A2 l.length c2] := by rw [hW0, hmb]; exact blk_new2 w _ _ _
  have m0 := hM0.cell 0
  have m1 := hM0.cell 1
  have n0 := hN0.cell 0
  have n1 := hN0.cell 1
  simp at m0 m1 n0 n1
  have e0 : ((l.length : Int) == (l.length : Int)) = true := beq_self_eq_true _
  have e1 : (num == num) = true := beq_self_eq_true _
  have H1 := hide h1
  have H2 := hide h2
  have Hxl := hide hxl
  have HI0 := hide (And.intro hb0 (And.intro hM0 hN0))
  clear h1 h2 hb0 hM0 hN0 hxl
  go_enter Tryz.func14, Tryz.ntmps14
  go_upto_region 1 with fail
  rw [← hW0, ← hmb]
  clear hW0 hmb
  go_wp2_with fail
  clear e0 m0 m1 n0 n1
  go_loopw [5] (fun vi wr => ∃ i : Nat, vi = .int .i64 i ∧ i ≤ l.length ∧ Hid (Below w.heap.size w wr ∧ Blk wr w.heap.size 24 #[.int .i64 num, .slice A1 l.length c1] ∧ Blk wr mb 24 #[.int .i64 num, .slice A2 l.length c2])) (fun vi _ => l.length - (intOf vi).toNat)
  case atStart => exact ⟨0, rfl, Nat.zero_le _, HI0⟩
  case round =>
    obtain ⟨i, rfl, hi, HI⟩ := hrel
    have m1 := HI.out.2.1.cell 1
    have n1 := HI.out.2.2.cell 1
    simp at m1 n1
    by_cases hlt : i < l.length
    · have hii : (i : Int) < l.length := by omega
      obtain ⟨ad, B1, d1, rfl, q0, q1, q2, q3, hT1, _, _⟩ := flds_at (H1.out.below HI.out.1) hlt
      obtain ⟨ae, B2, d2, rfl, p0, p1, p2, p3, hT2, _, _⟩ := flds_at (H2.out.below HI.out.1) hlt
      have hxl := Hxl.out _ (List.getElem_mem hlt)
      generalize l[i] = x at q0 q1 q2 q3 p0 p1 p2 p3 hT1 hT2 hxl
      have HT := hide (And.intro hT1 hT2)
      clear hT1 hT2
      obtain ⟨p, hp⟩ : ∃ p, ad.add (i * 4) = p := ⟨_, rfl⟩
      obtain ⟨q, hq⟩ : ∃ q, ae.add (i * 4) = q := ⟨_, rfl⟩
      rw [hp] at q0 q1 q2 q3
      rw [hq] at p0 p1 p2 p3
      have hpl := cell_ltO q0
      have hql := cell_ltO p0
      obtain ⟨pb, po, ps⟩ := p
      obtain ⟨qb, qo, qs⟩ := q
      obtain rfl := cell_spot q0
      obtain rfl := cell_spot p0
      simp only at q1 q2 q3 p1 p2 p3 hpl hql
      have g6 : mb < wr.heap.size := HI.out.2.2.lt
      have g1 : pb < wr.heap.size + 1 := by omega
      have g3 : qb < wr.heap.size + 1 := by omega
      have g4 : w.heap.size < wr.heap.size := HI.out.2.1.lt
      have g5 : w.heap.size < wr.heap.size + 1 := by omega
      have g7 : mb < wr.heap.size + 1 := by omega
      go_upto_region 6 with fail
      go_cut [6, 7] (fun v6 v7 wx => ∃ b6 b7, v6 = .pointer (some ⟨b6, 0, none⟩) ∧ v7 = .pointer (some ⟨b7, 0, none⟩) ∧ Blk wx b6 47 #[.int .u8 x.k, .int .i64 x.n, .string (bs x.s), .slice B1 x.l.length d1] ∧ Blk wx b7 47 #[.int .u8 x.k, .int .i64 x.n, .string (bs x.s), .slice B2 x.l.length d2] ∧ Below wr.heap.size wr wx)
      case first =>
        as_aux_lemma =>
          go_region
          · go_wp2_with fail
            go_meet
            exact ⟨_, _, rfl, rfl, blk_two1 _ _ _ _, blk_two2 _ _ _ _, below_two _ _ _⟩
          · go_wp2_with fail
            go_meet
            exact ⟨_, _, rfl, rfl, blk_two2 _ _ _ _, blk_two1 _ _ _ _, below_two _ _ _⟩
      case rest =>
        obtain ⟨b6, b7, rfl, rfl, hb6, hb7, hbx⟩ := hcut
        have x0 := hb6.cell 0
        have x1 := hb6.cell 1
        have x2 := hb6.cell 2
        have x3 := hb6.cell 3
        have y0 := hb7.cell 0
        have y1 := hb7.cell 1
        have y2 := hb7.cell 2
        have y3 := hb7.cell 3
        simp at x0 x1 x2 x3 y0 y1 y2 y3
        have HS := hide (lsame_true (HT.out.1.below hbx) (HT.out.2.below hbx) hxl)
        have i0 : ((x.k : Int) == (x.k : Int)) = true := beq_self_eq_true _
        have i1 : (x.n == x.n) = true := beq_self_eq_true _
        have i2 : ((bs x.s).toList == (bs x.s).toList) = true := beq_self_eq_true _
        have HX := hide (And.intro (HI.out.1.trans (hbx.mono HI.out.1.size)) (And.intro (HI.out.2.1.below hbx HI.out.2.1.lt) (HI.out.2.2.below hbx HI.out.2.2.lt)))
        clear q0 q1 q2 q3 p0 p1 p2 p3 m1 n1 HI hb6 hb7 hbx HT hxl
        clear g1 g3 g4 g5 g6 g7
        go_wp2_with (first | (go_at_call 41; refine HS.out.mono ?_; rintro e w5 ⟨rfl, hb5⟩) | fail)
        refine ⟨⟨i + 1, by go_num, by omega, hide ⟨HX.out.1.trans (hb5.mono HX.out.1.size), HX.out.2.1.below hb5 HX.out.2.1.lt, HX.out.2.2.below hb5 HX.out.2.2.lt⟩⟩, by simp [intOf]; omega⟩
    · have hii : ¬ (i : Int) < l.length := by omega
      go_wp2_with fail
      go_ret
      exact ⟨rfl, HI.out.1⟩
end
end Go.Proofs.YtcjafkanckcfbaaGreatDoor
