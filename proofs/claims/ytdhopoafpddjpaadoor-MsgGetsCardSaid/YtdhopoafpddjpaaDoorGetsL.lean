/-
  The law MsgGets: the walk of the statement. Conditions: the library's own number is there.
-/
import Derived.Test.YtdhopoafpddjpaaDoorGets
set_option linter.unusedVariables false
set_option linter.unusedSimpArgs false
namespace Go.Proofs.YtdhopoafpddjpaaDoor
open Go.RowKit Go.ChangeShapes Go.WideShapes Go.Sort
theorem cell_far {w : World} {r : Nat} {t : TypeId} {cs : Array Value} {g : Nat} (h : Blk w r t cs) (hg : r ≠ g) (v0 v1 v2 v3 : Value) : Blk ((((w.setCell ⟨g, 0, none⟩ v0).setCell ⟨g, 1, none⟩ v1).setCell ⟨g, 2, none⟩ v2).setCell ⟨g, 3, none⟩ v3) r t cs :=
  (((h.far (p := ⟨g, 0, none⟩) hg v0).far (p := ⟨g, 1, none⟩) hg v1).far (p := ⟨g, 2, none⟩) hg v2).far (p := ⟨g, 3, none⟩) hg v3
/-- How the statement stands ahead of its comparisons: what was got (block b7) and what is wanted (block b8). -/
structure GetsI (w : World) (num : Int) (A : Option Addr) (n c : Nat) (b7 b8 : Nat) (x : Fld) (lv : Value) (wx : World) : Prop where
  bel : Below w.heap.size w wx
  m : Blk wx w.heap.size 24 #[.int .i64 num, .slice A n c]
  g7 : Blk wx b7 28 #[.int .u8 x.k, .int .i64 x.n, .string (bs x.s), lv]
  g8 : Blk wx b8 28 #[.int .u8 x.k, .int .i64 x.n, .string (bs x.s), lv]
theorem GetsI.below {w : World} {num : Int} {A : Option Addr} {n c : Nat} {b7 b8 : Nat} {x : Fld} {lv : Value} {wx wy : World} (h : GetsI w num A n c b7 b8 x lv wx) (hb : Below wx.heap.size wx wy) : GetsI w num A n c b7 b8 x lv wy :=
  ⟨h.bel.trans (hb.mono h.bel.size), h.m.below hb h.m.lt, h.g7.below hb h.g7.lt, h.g8.below hb h.g8.lt⟩
section
variable {w : World}
/-- The value that has a place, or none. -/
theorem pick07 {A : Option Addr} {c : Nat} {l : List Fld} (num i : Int) (hl : Flds w A l) (hf : ∀ x ∈ l, FldFit x) (h20 : l.length ≤ 20) : ∃ (x : Fld) (A2 : Option Addr) (c2 : Nat), Txs w (.slice A2 x.l.length c2) x.l ∧ x.l.length ≤ c2 ∧ x.k < 256 ∧ x.l.length ≤ 9223372036854775807 ∧ ((∀ y ∈ l, FewF y) → FewF x) ∧
    (∀ W : World, Below w.heap.size w W → Calls Tryd.prog 5 #[.agg #[.int .i64 num, .slice A l.length c], .int .i64 i] W (fun ev w' => ev = .returned (fldV x (.slice A2 x.l.length c2)) ∧ Below W.heap.size W w')) ∧
    ((∃ (j : Nat) (ad : Addr), i = j ∧ j < l.length ∧ A = some ad ∧ At4 w (ad.add (j * 4)) x (.slice A2 x.l.length c2)) ∨ ((i < 0 ∨ (l.length : Int) ≤ i) ∧ x = ⟨0, 0, [], []⟩ ∧ A2 = none ∧ c2 = 0)) := by
  by_cases ho : i < 0 ∨ (l.length : Int) ≤ i
  · exact ⟨⟨0, 0, [], []⟩, none, 0, txs_nil w 0, Nat.le_refl _, by decide, by decide, fun _ => ⟨by simp, by simp, fun y hy => by cases hy⟩, fun W _ => get07_out num i W ho, .inr ⟨ho, rfl, rfl, rfl⟩⟩
  · obtain ⟨j, rfl⟩ : ∃ j : Nat, i = j := ⟨i.toNat, by omega⟩
    have hjl : j < l.length := by omega
    obtain ⟨ad, A2, c2, rfl, a0, a1, a2, a3, hTx, hc2, hk⟩ := flds_at hl hjl
    have hq : At4 w (ad.add (j * 4)) l[j] (.slice A2 l[j].l.length c2) := ⟨a0, a1, a2, a3⟩
    have hll := (hf _ (List.getElem_mem hjl)).ll
    unfold maxLen at hll
    exact ⟨l[j], A2, c2, hTx, hc2, hk, hll, fun h => h _ (List.getElem_mem hjl), fun W hb => get07_in (w := W) num j hjl h20 l[j] (hq.below hb), .inl ⟨j, ad, rfl, hjl, rfl, hq⟩⟩
set_option maxHeartbeats 16000000 in
set_option maxRecDepth 100000 in
theorem msgGets_any (hM : MaxL w) (num : Int) {l : List Fld} {A : Option Addr} {c : Nat} (hl : Flds w A l) (hll : l.length ≤ maxLen) (hf : ∀ x ∈ l, FldFit x) (i n2 : Int) :
    Calls Tryd.prog 3 #[.agg #[.int .i64 num, .slice A l.length c], .int .i64 i, .int .i64 n2] w (fun e w' => e = .returned (.bool true) ∧ Below w.heap.size w w') := by
  obtain ⟨W0, hW0⟩ : ∃ W0, W0 = w.alloc (.cells #[.int .i64 num, .slice A l.length c] 24) := ⟨_, rfl⟩
  have hb0 : Below w.heap.size w W0 := by rw [hW0]; (repeat (first | exact Below.refl _ _ | refine below_drewN ?_ _ | refine Below.drew ?_ | refine Below.alloc ?_ (by first | omega | (simp; done) | (simp; omega)) _ | refine Below.setCell ?_ (by first | omega | (simp; done) | (simp; omega)) _ | refine bel_alloc ?_ _ | refine bel_trans ?_ (by assumption) | refine Below.trans ?_ (Below.mono (by assumption) (by first | omega | (simp; done) | (simp; omega)))))
  have hB0 : Blk W0 w.heap.size 24 #[.int .i64 num, .slice A l.length c] := by rw [hW0]; exact Blk.new w _ _
  have m0 := hB0.cell 0
  have m1 := hB0.cell 1
  simp at m0 m1
  have HA := hide (fun W => awake07_any W)
  by_cases h20 : 20 < l.length
  · have h20' : (20 : Int) < l.length := by omega
    have HX := hide hb0
    clear hM hl hll hf hb0 hB0
    go_enter Tryd.func3, Tryd.ntmps3
    go_upto_region 1 with fail
    rw [← hW0]
    clear hW0
    go_wp2_with (first
      | (go_at_call 4; refine (HA.out _).mono ?_; rintro e w2 ⟨rfl, hb2⟩)
      | fail)
    go_ret
    exact ⟨rfl, HX.out.trans (hb2.mono HX.out.size)⟩
  · have h20' : ¬ (20 : Int) < l.length := by omega
    have h20n : l.length ≤ 20 := by omega
    have HFw := hide (fun (W : World) (hb : Below w.heap.size w W) => few_any (w := W) num (c := c) (hl.below hb) hll hf)
    have HL := hide (And.intro hM (And.intro hl (And.intro hb0 hB0)))
    have HIs := hide (fun W => is07_any num n2 i (A := A) (n := l.length) (c := c) W)
    obtain ⟨x, A2, c2, hTx, hc2, hxk, hxl, hfx, hget, hway⟩ := pick07 (c := c) num i hl hf h20n
    have HG := hide (hget W0 hb0)
    have HT := hide (And.intro hTx hc2)
    have HSz := hide hfx
    have HWay := hide hway
    clear hM hl hll hf hb0 hB0 h20 hTx hc2 hfx hget hway
    unfold fldV at HG
    go_enter Tryd.func3, Tryd.ntmps3
    go_upto_region 1 with fail
    rw [← hW0]
    clear hW0
    go_wp2_with fail
    refine HG.out.mono ?_
    rintro e w1 ⟨rfl, hb1⟩
    clear HG m0 m1
    go_upto_region 5 with fail
    obtain ⟨W2, hW2⟩ : ∃ W2, W2 = (w1.alloc (.cells #[.int .u8 x.k, .int .i64 x.n, .string (bs x.s), .slice A2 x.l.length c2] 28)).alloc (.cells #[.int .u8 0, .int .i64 0, .string ⟨#[]⟩, .slice none 0 0] 28) := ⟨_, rfl⟩
    have hb12 : Below w1.heap.size w1 W2 := by rw [hW2]; (repeat (first | exact Below.refl _ _ | refine below_drewN ?_ _ | refine Below.drew ?_ | refine Below.alloc ?_ (by first | omega | (simp; done) | (simp; omega)) _ | refine Below.setCell ?_ (by first | omega | (simp; done) | (simp; omega)) _ | refine bel_alloc ?_ _ | refine bel_trans ?_ (by assumption) | refine Below.trans ?_ (Below.mono (by assumption) (by first | omega | (simp; done) | (simp; omega)))))
    have hb02 : Below W0.heap.size W0 W2 := hb1.trans (hb12.mono hb1.size)
    have g7 : Blk W2 w1.heap.size 28 #[.int .u8 x.k, .int .i64 x.n, .string (bs x.s), .slice A2 x.l.length c2] := by rw [hW2]; exact (Blk.new w1 _ _).alloc _
    obtain ⟨b8, hb8⟩ : ∃ b8, b8 = w1.heap.size + 1 := ⟨_, rfl⟩
    have g8 : Blk W2 b8 28 #[.int .u8 0, .int .i64 0, .string ⟨#[]⟩, .slice none 0 0] := by rw [hW2, hb8]; exact blk_new2G w1 _ _ _
    have hM2 := HL.out.2.2.2.below hb02 HL.out.2.2.2.lt
    have hz1 : w.heap.size < w1.heap.size := Nat.lt_of_lt_of_le HL.out.2.2.2.lt hb1.size
    have hbw2 : Below w.heap.size w W2 := HL.out.2.2.1.trans (hb02.mono HL.out.2.2.1.size)
    rw [← hW2, ← hb8]
    have hd1 : w.heap.size ≠ b8 := by omega
    have hd2 : w1.heap.size ≠ b8 := by omega
    have hd3 : w.heap.size ≤ b8 := by omega
    clear hW2 hb12 hb02 hb1 hb8 hz1
    generalize w1.heap.size = b7 at g7 hd2 ⊢
    have x1 := hM2.cell 1
    simp at x1
    have HS2 := hide (And.intro hbw2 (And.intro hM2 (And.intro g7 (And.intro g8 (And.intro hd1 (And.intro hd2 hd3))))))
    clear hbw2 hM2 g7 g8 hd1 hd2 hd3
    go_cut [30] (fun v wx => v = .bool (decide (0 ≤ i) && decide (i < (l.length : Int))) ∧ wx = W2)
    case first =>
      as_aux_lemma =>
        by_cases u0 : 0 ≤ i
        · by_cases u1 : i < (l.length : Int)
          · go_wp2_with fail
            go_meet
            exact ⟨by rw [decide_eq_true u0, decide_eq_true u1]; rfl, rfl⟩
          · go_wp2_with fail
            go_meet
            exact ⟨by rw [decide_eq_true u0, decide_eq_false (by omega)]; rfl, rfl⟩
        · go_wp2_with fail
          go_meet
          exact ⟨by rw [decide_eq_false (by omega)]; rfl, rfl⟩
    case rest =>
      obtain ⟨rfl, rfl⟩ := hcut
      go_upto_if 30 with fail
      go_cut [] (fun wx => GetsI w num A l.length c b7 b8 x (.slice A2 x.l.length c2) wx)
      case first =>
        as_aux_lemma =>
          rcases HWay.out with ⟨j, ad, rfl, hjl, rfl, hq⟩ | ⟨ho, rfl, rfl, rfl⟩
          · have u0 : (0 : Int) ≤ j := by omega
            have u1 : (j : Int) < (l.length : Int) := by omega
            have hjI : (j : Int) < l.length := u1
            rw [decide_eq_true u0, decide_eq_true u1]
            have hM2 := HS2.out.2.1
            have g8 := HS2.out.2.2.2.1
            obtain ⟨q0, q1, q2, q3⟩ := hq.below HS2.out.1
            have r0 := g8.cell 0
            have r1 := g8.cell 1
            have r2 := g8.cell 2
            have r3 := g8.cell 3
            have t0 := g8.frozen 0
            have t1 := g8.frozen 1
            have t2 := g8.frozen 2
            have t3 := g8.frozen 3
            simp at r0 r1 r2 r3
            clear hM2 g8 hq
            go_wp2_with fail
            go_meet
            exact ⟨bel4G HS2.out.1 HS2.out.2.2.2.2.2.2 _ _ _ _, cell_far HS2.out.2.1 HS2.out.2.2.2.2.1 _ _ _ _, cell_far HS2.out.2.2.1 HS2.out.2.2.2.2.2.1 _ _ _ _, fin4G HS2.out.2.2.2.1 _ _ _ _⟩
          · have hb : (decide (0 ≤ i) && decide (i < (l.length : Int))) = false := by
              rw [Bool.and_eq_false_iff, decide_eq_false_iff_not, decide_eq_false_iff_not]
              omega
            rw [hb]
            go_wp2_with fail
            go_meet
            exact ⟨HS2.out.1, HS2.out.2.1, HS2.out.2.2.1, HS2.out.2.2.2.1⟩
      case rest =>
        obtain ⟨W3, hW3⟩ : ∃ W3 : World, W3 = wc := ⟨wc, rfl⟩
        rw [← hW3] at hcut ⊢
        have HI := hide hcut
        clear hcut hW3 HS2 HWay x1
        have HV := hide (fun (W : World) (hb : Below w.heap.size w W) (hs : SzF x) => value07_any (w := W) (HL.out.1.below hb) x hs hxk (HT.out.1.below hb) HT.out.2)
        have HR := hide (fun (W : World) (hb : Below w.heap.size w W) (hs : SzF x) => rvalue07_any (w := W) x hs hxk (A := A2) (c := c2) (HT.out.1.below hb))
        have HSm := hide (fun (W : World) (hb : Below w.heap.size w W) => lsame_true (w := W) (ls := x.l) (A1 := A2) (A2 := A2) (c1 := c2) (c2 := c2) (HT.out.1.below hb) (HT.out.1.below hb) hxl)
        have m0 := HI.out.m.cell 0
        have m1 := HI.out.m.cell 1
        simp at m0 m1
        go_wp2_with fail
        refine (HFw.out _ HI.out.bel).mono ?_
        rintro e w4 ⟨bf, rfl, hb4, hfew⟩
        have HI4 := hide (HI.out.below hb4)
        have Hfew := hide hfew
        clear HI hb4 m0 m1 hfew
        go_upto_if 37 with fail
        go_cut [] (fun wx => GetsI w num A l.length c b7 b8 x (.slice A2 x.l.length c2) wx)
        case first =>
          as_aux_lemma =>
            cases bf with
            | false =>
              go_wp2_with fail
              go_meet
              exact HI4.out
            | true =>
              have hSx := (HSz.out (Hfew.out rfl).2).sz
              have y0 := HI4.out.g8.cell 0
              have y1 := HI4.out.g8.cell 1
              have y2 := HI4.out.g8.cell 2
              have y3 := HI4.out.g8.cell 3
              simp at y0 y1 y2 y3
              have HV4 := hide (HV.out w4 HI4.out.bel hSx)
              have HR4 := hide (fun (W : World) (hb : Below w.heap.size w W) => HR.out W hb hSx)
              unfold ValP at HV4 HR4
              unfold fldV at HV4 HR4
              generalize (valF x).1 = vs at HV4 HR4
              generalize (valF x).2 = vb at HV4 HR4
              have s9 : ((bs vs).toList == (bs vs).toList) = true := beq_self_eq_true _
              have s8 : (vb == vb) = true := beq_self_eq_true _
              clear Hfew HSz hSx HFw
              go_wp2_with fail
              refine HV4.out.mono ?_
              rintro e w6 ⟨rfl, hb6⟩
              have HI6 := hide (HI4.out.below hb6)
              have y0 := HI6.out.g8.cell 0
              have y1 := HI6.out.g8.cell 1
              have y2 := HI6.out.g8.cell 2
              have y3 := HI6.out.g8.cell 3
              simp at y0 y1 y2 y3
              clear HI4 hb6 HV4
              go_wp2_with fail
              refine (HR4.out _ HI6.out.bel).mono ?_
              rintro e w5 ⟨rfl, hb5⟩
              have HI5 := hide (HI6.out.below hb5)
              clear HI6 hb5 HR4 y0 y1 y2 y3
              go_wp2_with fail
              go_meet
              exact HI5.out
        case rest =>
          obtain ⟨w5, hw5⟩ : ∃ w5 : World, w5 = wc := ⟨wc, rfl⟩
          rw [← hw5] at hcut ⊢
          have HI5 := hide hcut
          clear hcut hw5 HI4 Hfew HSz HFw HV HR
          go_upto_region 12 with fail
          have k0 := fun dd oo => cell_regrown (v := .int .u8 x.k) (HI5.out.g7.cell 0) dd oo
          have k1 := fun dd oo => cell_regrown (v := .int .i64 x.n) (HI5.out.g7.cell 1) dd oo
          have k2 := fun dd oo => cell_regrown (v := .string (bs x.s)) (HI5.out.g7.cell 2) dd oo
          have k3 := fun dd oo => cell_regrown (v := .slice A2 x.l.length c2) (HI5.out.g7.cell 3) dd oo
          have k4 := fun dd oo => cell_regrown (v := .int .u8 x.k) (HI5.out.g8.cell 0) dd oo
          have k5 := fun dd oo => cell_regrown (v := .int .i64 x.n) (HI5.out.g8.cell 1) dd oo
          have k6 := fun dd oo => cell_regrown (v := .string (bs x.s)) (HI5.out.g8.cell 2) dd oo
          have k7 := fun dd oo => cell_regrown (v := .slice A2 x.l.length c2) (HI5.out.g8.cell 3) dd oo
          have k8 := fun dd oo => cell_regrown (v := .int .i64 num) (HI5.out.m.cell 0) dd oo
          have k9 := fun dd oo => cell_regrown (v := .slice A l.length c) (HI5.out.m.cell 1) dd oo
          have G1 := hide (fun dd oo => Calls.regrown_of (HA.out (grow (redrawn w5 dd) oo)))
          have G2 := hide (fun dd oo => Calls.regrown_of (HSm.out (grow (redrawn w5 dd) oo) (HI5.out.bel.trans ((below_regrown w5 dd oo).mono HI5.out.bel.size))))
          have G3 := hide (fun dd oo => Calls.regrown_of (HIs.out (grow (redrawn w5 dd) oo)))
          have s2 : ((bs x.s).toList == (bs x.s).toList) = true := beq_self_eq_true _
          have s1 : (x.n == x.n) = true := beq_self_eq_true _
          have s0 : ((x.k : Int) == (x.k : Int)) = true := beq_self_eq_true _
          have hbw5 := hide HI5.out.bel
          clear HI5 HT
          cases hp : (num == n2) with
          | true =>
            rw [hp, Bool.true_and] at G3
            generalize hq9 : ((l.length : Int) == i) = z at G3
            have s3 : (z == z) = true := beq_self_eq_true _
            skip
            refine wp_region_quiet_below (by kernel_rfl) (by kernel_rfl) ?_
            quiet_step ((go_at_call 4; with_reducible exact G1.out _ _))
            quiet_step (fail)
            quiet_step (fail)
            quiet_step (fail)
            quiet_step (fail)
            quiet_step (fail)
            quiet_step (fail)
            quiet_step (fail)
            quiet_step (fail)
            quiet_step (fail)
            quiet_step (fail)
            quiet_step (fail)
            quiet_step (fail)
            quiet_step (fail)
            quiet_step (fail)
            quiet_step (fail)
            quiet_step (fail)
            quiet_step (fail)
            quiet_step (fail)
            quiet_step (fail)
            quiet_step (fail)
            quiet_step (fail)
            quiet_step (fail)
            quiet_step (fail)
            quiet_step (fail)
            quiet_step (fail)
            quiet_step (fail)
            quiet_step ((go_at_call 9; with_reducible exact G2.out _ _))
            quiet_step (fail)
            quiet_step (fail)
            quiet_step (fail)
            quiet_step (fail)
            quiet_step (fail)
            quiet_step ((go_at_call 10; with_reducible exact G3.out _ _))
            quiet_step (fail)
            quiet_step (fail)
            quiet_step (fail)
            quiet_step (fail)
            quiet_step (fail)
            quiet_step (fail)
            quiet_step (fail)
            quiet_step (fail)
            quiet_step (fail)
            quiet_step (fail)
            quiet_step (fail)
            quiet_step (fail)
            quiet_step (fail)
            quiet_step (fail)
            refine wpQuiet_nil ?_
            intro _ hwq
            obtain ⟨⟨dq, osq⟩, hwqq⟩ := hwq
            subst hwqq
            have hbq := below_regrown w5 dq osq
            revert hbq
            generalize grow (redrawn w5 dq) osq = wq
            intro hbq
            go_wp2_with fail
            go_ret
            exact ⟨rfl, hbw5.out.trans (hbq.mono hbw5.out.size)⟩
          | false =>
            rw [hp, Bool.false_and] at G3
            skip
            refine wp_region_quiet_below (by kernel_rfl) (by kernel_rfl) ?_
            quiet_step ((go_at_call 4; with_reducible exact G1.out _ _))
            quiet_step (fail)
            quiet_step (fail)
            quiet_step (fail)
            quiet_step (fail)
            quiet_step (fail)
            quiet_step (fail)
            quiet_step (fail)
            quiet_step (fail)
            quiet_step (fail)
            quiet_step (fail)
            quiet_step (fail)
            quiet_step (fail)
            quiet_step (fail)
            quiet_step (fail)
            quiet_step (fail)
            quiet_step (fail)
            quiet_step (fail)
            quiet_step (fail)
            quiet_step (fail)
            quiet_step (fail)
            quiet_step (fail)
            quiet_step (fail)
            quiet_step (fail)
            quiet_step (fail)
            quiet_step (fail)
            quiet_step (fail)
            quiet_step ((go_at_call 9; with_reducible exact G2.out _ _))
            quiet_step (fail)
            quiet_step (fail)
            quiet_step (fail)
            quiet_step (fail)
            quiet_step (fail)
            quiet_step ((go_at_call 10; with_reducible exact G3.out _ _))
            quiet_step (fail)
            quiet_step (fail)
            quiet_step (fail)
            quiet_step (fail)
            quiet_step (fail)
            quiet_step (fail)
            quiet_step (fail)
            quiet_step (fail)
            quiet_step (fail)
            quiet_step (fail)
            quiet_step (fail)
            quiet_step (fail)
            quiet_step (fail)
            quiet_step (fail)
            refine wpQuiet_nil ?_
            intro _ hwq
            obtain ⟨⟨dq, osq⟩, hwqq⟩ := hwq
            subst hwqq
            have hbq := below_regrown w5 dq osq
            revert hbq
            generalize grow (redrawn w5 dq) osq = wq
            intro hbq
            go_wp2_with fail
            go_ret
            exact ⟨rfl, hbw5.out.trans (hbq.mono hbw5.out.size)⟩
end
end Go.Proofs.YtdhopoafpddjpaaDoor
