/-
  The contract of the reference's Decode. Conditions: payloads of at most 1,000,000 bytes.
-/
import Derived.Test.YtcjafkanckcfbaaGreatDoorRRead
import Derived.Test.YtcjafkanckcfbaaGreatDoorRef06c
set_option linter.unusedVariables false
set_option linter.unusedSimpArgs false
namespace Go.Proofs.YtcjafkanckcfbaaGreatDoor
open Go.RowKit Go.ChangeShapes Go.WideShapes Go.Sort
theorem rowOf_num {n : Int} (h : (rowOf n).2.2 ≠ []) : (rowOf n).1 = n := by
  unfold rowOf at h ⊢
  cases hf : table.find? (fun r => r.1 == n) with
  | none =>
    rw [hf] at h
    exact absurd rfl h
  | some r =>
    have := List.find?_some hf
    simpa using this
theorem word_len (n : Int) : (word n).size ≤ 60 := by
  unfold word letw
  repeat' refine ite_ok (P := fun b : ByteArray => b.size ≤ 60) ?_ ?_
  all_goals decide
/-- What the reference's Decode answers. -/
def RDecM (D : DecR) (w : World) (e : Ending) (w' : World) : Prop :=
  Below w.heap.size w w' ∧ ((∃ num l A c, D = .ok num l ∧ e = .returned (.tuple #[.agg #[.int .i64 (num : Nat), .slice A l.length c], .agg #[.int .i64 0, .string ⟨#[]⟩]]) ∧ Flds w' A l) ∨
    (∃ ps, ∃ k : Nat, decErr D = some (ps, k) ∧ k ≠ 0 ∧ e = .returned (.tuple #[.agg #[.int .i64 0, .slice none 0 0], .agg #[.int .i64 k, .string (bs (atL ps))]])))
theorem atL_cons (p : List UInt8) (ps : List (List UInt8)) : atL (p :: ps) = p ++ [32] ++ atL ps := rfl
theorem atL_msg : atL [msgB] = [109, 101, 115, 115, 97, 103, 101, 32] := by decide
/-- The two results' cells. -/
structure TwoB (w : World) (h : Nat) (a b c d : Value) : Prop where
  m : Blk w h 24 #[a, b]
  e : Blk w (h + 1) 33 #[c, d]
theorem TwoB.below {w w' : World} {h : Nat} {a b c d : Value} (t : TwoB w h a b c d) (hb : Below w.heap.size w w') : TwoB w' h a b c d := ⟨t.m.below hb t.m.lt, t.e.below hb t.e.lt⟩
theorem TwoB.set {w : World} {h : Nat} {a b c d : Value} (t : TwoB w h a b c d) (v0 v1 u0 u1 : Value) : TwoB ((((w.setCell ⟨h, 0, none⟩ v0).setCell ⟨h, 1, none⟩ v1).setCell ⟨h + 1, 0, none⟩ u0).setCell ⟨h + 1, 1, none⟩ u1) h v0 v1 u0 u1 := by
  have h1 := two_fin t.m v0 v1
  have h2 := (t.e.far (p := ⟨h, 0, none⟩) (by simp) v0).far (p := ⟨h, 1, none⟩) (by simp) v1
  exact ⟨(h1.far (p := ⟨h + 1, 0, none⟩) (by simp) u0).far (p := ⟨h + 1, 1, none⟩) (by simp) u1, two_fin h2 u0 u1⟩
theorem TwoB.bel {B : Nat} {w0 w : World} {h : Nat} (hb : Below B w0 w) (hh : B ≤ h) (v0 v1 u0 u1 : Value) : Below B w0 ((((w.setCell ⟨h, 0, none⟩ v0).setCell ⟨h, 1, none⟩ v1).setCell ⟨h + 1, 0, none⟩ u0).setCell ⟨h + 1, 1, none⟩ u1) :=
  (((hb.setCell (p := ⟨h, 0, none⟩) hh v0).setCell (p := ⟨h, 1, none⟩) hh v1).setCell (p := ⟨h + 1, 0, none⟩) (Nat.le_succ_of_le hh) u0).setCell (p := ⟨h + 1, 1, none⟩) (Nat.le_succ_of_le hh) u1
theorem TwoB.flds {lo : Nat} {w : World} {A : Option Addr} {l : List Fld} {h : Nat} (hf : FldsN lo w A l) (hh : h + 1 < lo) (v0 v1 u0 u1 : Value) : FldsN lo ((((w.setCell ⟨h, 0, none⟩ v0).setCell ⟨h, 1, none⟩ v1).setCell ⟨h + 1, 0, none⟩ u0).setCell ⟨h + 1, 1, none⟩ u1) A l :=
  (((hf.setCell (p := ⟨h, 0, none⟩) (by show h < lo; omega) v0).setCell (p := ⟨h, 1, none⟩) (by show h < lo; omega) v1).setCell (p := ⟨h + 1, 0, none⟩) hh u0).setCell (p := ⟨h + 1, 1, none⟩) hh u1
/-- The state of the reference's Decode in its loop. -/
structure RDecI (w : World) (p : List UInt8) (fs : List ByteArray) (num : Nat) (fv : Value) (b4 j : Nat) (wr : World) : Prop where
  bel : Below w.heap.size w wr
  two : TwoB wr w.heap.size (.int .i64 0) (.slice none 0 0) (.int .i64 0) (.string ⟨#[]⟩)
  row : Blk wr b4 72 #[.int .i64 num, .string (word (num : Nat)), fv]
  rest : firstF fs (p.drop 1) = firstF (fs.drop j) (p.drop 1)
section
variable {w : World}
set_option maxHeartbeats 16000000 in
set_option maxRecDepth 100000 in
theorem rdecode_anyM (pl : ByteArray) (hpl : pl.size ≤ 1000000) : Calls Tryz.prog 15 #[.string pl] w (RDecM (decS pl.data.toList) w) := by
  have hX0 : TwoB ((w.alloc (.cells #[.int .i64 0, .slice none 0 0] 24)).alloc (.cells #[.int .i64 0, .string ⟨#[]⟩] 33)) w.heap.size (.int .i64 0) (.slice none 0 0) (.int .i64 0) (.string ⟨#[]⟩) := ⟨(Blk.new w _ _).alloc _, blk_new2 w _ _ _⟩
  have hb0 : Below w.heap.size w ((w.alloc (.cells #[.int .i64 0, .slice none 0 0] 24)).alloc (.cells #[.int .i64 0, .string ⟨#[]⟩] 33)) := by (repeat (first | exact Below.refl _ _ | refine below_drewN ?_ _ | refine Below.drew ?_ | refine Below.alloc ?_ (by first | omega | (simp; done) | (simp; omega)) _ | refine Below.setCell ?_ (by first | omega | (simp; done) | (simp; omega)) _ | refine bel_alloc ?_ _ | refine bel_trans ?_ (by assumption) | refine Below.trans ?_ (Below.mono (by assumption) (by first | omega | (simp; done) | (simp; omega)))))
  by_cases hnil : pl = ⟨#[]⟩
  · subst hnil
    have HE := hide (show decErr (decS (⟨#[]⟩ : ByteArray).data.toList) = some ([msgB], 4) from by rfl)
    have HM := hide (show bs (atL [msgB]) = (⟨#[109, 101, 115, 115, 97, 103, 101, 32]⟩ : ByteArray) from by rw [atL_msg]; rfl)
    clear hX0 hb0
    go_enter Tryz.func15, Tryz.ntmps15
    go_wp2_with fail
    exact bodyPost_ret (v := .tuple #[.agg #[.int .i64 0, .slice none 0 0], .agg #[.int .i64 4, .string ⟨#[109, 101, 115, 115, 97, 103, 101, 32]⟩]]) (by simp [results, Tryz.results15, go_sem]) rfl ⟨by (repeat (first | exact Below.refl _ _ | refine below_drewN ?_ _ | refine Below.drew ?_ | refine Below.alloc ?_ (by first | omega | (simp; done) | (simp; omega)) _ | refine Below.setCell ?_ (by first | omega | (simp; done) | (simp; omega)) _ | refine bel_alloc ?_ _ | refine bel_trans ?_ (by assumption) | refine Below.trans ?_ (Below.mono (by assumption) (by first | omega | (simp; done) | (simp; omega))))), .inr ⟨[msgB], 4, HE.out, by decide, by rw [HM.out]; rfl⟩⟩
  · have hz : 0 < pl.size := Nat.pos_of_ne_zero (fun e => hnil (by
      have : pl.data.size = 0 := e
      have h2 : pl.data = #[] := Array.eq_empty_of_size_eq_zero this
      cases pl
      simp_all))
    have hzl : pl.data.toList.length = pl.size := rfl
    obtain ⟨c, r, hcr⟩ := List.exists_cons_of_ne_nil (show pl.data.toList ≠ [] from fun e => by rw [e] at hzl; simp at hzl; omega)
    have hg0 : pl[0] = c := by
      have h2 : pl.data.toList[0]'(by rw [hzl]; exact hz) = c := by simp only [hcr, List.getElem_cons_zero]
      exact h2
    have hz0 : ((pl.size : Int) == 0) = false := by rw [beq_eq_false_iff_ne]; omega
    have hw64 : wrap64 ((pl[0].toNat : Nat) : Int) = (pl[0].toNat : Nat) := by
      have := pl[0].toNat_lt
      unfold wrap64
      omega
    rw [hcr] at hzl ⊢
    by_cases hlong : 32768 < pl.size
    · have hlong' : (32768 : Int) < pl.size := by omega
      have HE := hide (show decErr (decS (c :: r)) = some ([msgB], 2) from by rw [decS_long (by omega)]; rfl)
      have HM := hide (show bs (atL [msgB]) = (⟨#[109, 101, 115, 115, 97, 103, 101, 32]⟩ : ByteArray) from by rw [atL_msg]; rfl)
      clear hX0 hb0 hg0 hlong hnil hw64
      go_enter Tryz.func15, Tryz.ntmps15
      go_wp2_with fail
      exact bodyPost_ret (v := .tuple #[.agg #[.int .i64 0, .slice none 0 0], .agg #[.int .i64 2, .string ⟨#[109, 101, 115, 115, 97, 103, 101, 32]⟩]]) (by simp [results, Tryz.results15, go_sem]) rfl ⟨by (repeat (first | exact Below.refl _ _ | refine below_drewN ?_ _ | refine Below.drew ?_ | refine Below.alloc ?_ (by first | omega | (simp; done) | (simp; omega)) _ | refine Below.setCell ?_ (by first | omega | (simp; done) | (simp; omega)) _ | refine bel_alloc ?_ _ | refine bel_trans ?_ (by assumption) | refine Below.trans ?_ (Below.mono (by assumption) (by first | omega | (simp; done) | (simp; omega))))), .inr ⟨[msgB], 2, HE.out, by decide, by rw [HM.out]; rfl⟩⟩
    · have hlong' : ¬ (32768 : Int) < pl.size := by omega
      have hl2 : ¬ 32768 < (c :: r).length := by omega
      have HOf := hide (fun W => of_any (c.toNat : Nat) W)
      have Hg0 := hide hg0
      cases hfs : forms c.toNat with
      | nil =>
        rw [rowOf_forms, hfs] at HOf
        have HE := hide (show decErr (decS (c :: r)) = some ([msgB], 6) from by rw [decS_none hl2 hfs]; rfl)
        have HM := hide (show bs (atL [msgB]) = (⟨#[109, 101, 115, 115, 97, 103, 101, 32]⟩ : ByteArray) from by rw [atL_msg]; rfl)
        have HX := hide (And.intro hX0 hb0)
        generalize (rowOf (c.toNat : Nat)).1 = rn at HOf
        generalize (rowOf (c.toNat : Nat)).2.1 = rw' at HOf
        clear hX0 hb0 hg0 hlong hl2 hfs hcr hnil
        go_enter Tryz.func15, Tryz.ntmps15
        go_upto_region 6 with (first
          | (rw [Hg0.out]; go_at_call 32; refine (HOf.out _).mono ?_; rintro e w1 ⟨fv, rfl, ⟨fA, fc, rfl, hS1⟩, hb1⟩)
          | fail)
        try rw [show ([] : List ByteArray).length = 0 from rfl]
        have hT := (HX.out.1.below hb1).below ((Below.refl _ _).alloc (Nat.le_refl _) (.cells #[.int .i64 rn, .string rw', .slice fA 0 fc] 72))
        have hbT : Below w.heap.size w (w1.alloc (.cells #[.int .i64 rn, .string rw', .slice fA 0 fc] 72)) := ((HX.out.2.trans (hb1.mono HX.out.2.size)).alloc (Nat.le_trans HX.out.2.size hb1.size) _)
        have hRw := Blk.new w1 72 #[.int .i64 rn, .string rw', .slice fA 0 fc]
        generalize w1.alloc (.cells #[.int .i64 rn, .string rw', .slice fA 0 fc] 72) = w3 at hT hbT hRw ⊢
        generalize w1.heap.size = b4 at hRw ⊢
        have z2 := hRw.cell 2
        simp at z2
        clear hS1 hb1 HX
        have x0 := hT.m.cell 0
        have x1 := hT.m.cell 1
        have t0 := hT.m.frozen 0
        have t1 := hT.m.frozen 1
        have y0 := hT.e.cell 0
        have y1 := hT.e.cell 1
        have s0 := hT.e.frozen 0
        have s1 := hT.e.frozen 1
        simp at x0 x1 y0 y1
        go_wp2_with fail
        have hF := hT.set (.int .i64 0) (.slice none 0 0) (.int .i64 6) (.string ⟨#[109, 101, 115, 115, 97, 103, 101, 32]⟩)
        have hbF := TwoB.bel (h := w.heap.size) hbT (Nat.le_refl _) (.int .i64 0) (.slice none 0 0) (.int .i64 6) (.string ⟨#[109, 101, 115, 115, 97, 103, 101, 32]⟩)
        generalize ((((w3.setCell ⟨w.heap.size, 0, none⟩ (.int .i64 0)).setCell ⟨w.heap.size, 1, none⟩ (.slice none 0 0)).setCell ⟨w.heap.size + 1, 0, none⟩ (.int .i64 6)).setCell ⟨w.heap.size + 1, 1, none⟩ (.string ⟨#[109, 101, 115, 115, 97, 103, 101, 32]⟩)) = wF at hF hbF ⊢
        have q0 := hF.m.cell 0
        have q1 := hF.m.cell 1
        have q2 := hF.e.cell 0
        have q3 := hF.e.cell 1
        simp at q0 q1 q2 q3
        exact bodyPost_ret (v := .tuple #[.agg #[.int .i64 0, .slice none 0 0], .agg #[.int .i64 6, .string ⟨#[109, 101, 115, 115, 97, 103, 101, 32]⟩]]) (by simp [results, Tryz.results15, go_sem, q0, q1, q2, q3]) rfl ⟨hbF, .inr ⟨[msgB], 6, HE.out, by decide, by rw [HM.out]; rfl⟩⟩
      | cons f0 fs0 =>
        have hnum := rowOf_num (n := (c.toNat : Nat)) (by rw [rowOf_forms, hfs]; simp)
        rw [rowOf_forms, rowOf_word, hnum, hfs] at HOf
        have hmem : ∀ f ∈ f0 :: fs0, f.size ≤ 13 := fun f hf => (form_ascii (n := (c.toNat : Nat)) (by rw [hfs]; exact hf)).1
        have HOk := hide (fun l (h : firstF (f0 :: fs0) r = some l) => decS_of (c := c) (r := r) (l := l) (by omega) (by rw [hfs]; exact h))
        have HBad := hide (fun (h : firstF (f0 :: fs0) r = none) => decS_bad (c := c) (r := r) (f := f0) (fs := fs0) hl2 hfs (by rw [hfs]; exact h))
        generalize hD : decS (c :: r) = D at HOk HBad ⊢
        have HRd := hide (fun (W : World) (f : ByteArray) (hf : f ∈ f0 :: fs0) => rread_anyM (w := W) pl f hpl hz (hmem f hf))
        rw [hcr] at HRd
        rw [show List.drop 1 (c :: r) = r from rfl] at HRd
        have HX := hide (And.intro hX0 hb0)
        have hfl : (f0 :: fs0).length ≤ 3 := by rw [← hfs]; exact forms_len _
        obtain ⟨fs, hfs1⟩ : ∃ fs, fs = f0 :: fs0 := ⟨_, rfl⟩
        have Hfs1 := hide hfs1
        have hfp : 0 < fs.length := by rw [hfs1]; simp
        have hf0 : fs[0] = f0 := by simp [hfs1]
        rw [← hfs1] at hfl HOf HRd HOk HBad
        have hfz : ((fs.length : Int) == 0) = false := by rw [beq_eq_false_iff_ne]; omega
        clear hD hmem hnum hfs1 hfs hg0 hX0 hb0 hlong hl2 hzl hcr hnil
        go_enter Tryz.func15, Tryz.ntmps15
        go_upto_region 6 with (first
          | (rw [Hg0.out]; go_at_call 32; refine (HOf.out _).mono ?_; rintro e w1 ⟨fv, rfl, ⟨fA, fc, rfl, hS1⟩, hb1⟩)
          | fail)
        have hwc : True := trivial
        have hT := (HX.out.1.below hb1).below ((Below.refl _ _).alloc (Nat.le_refl _) (.cells #[.int .i64 (c.toNat : Nat), .string (word (c.toNat : Nat)), .slice fA fs.length fc] 72))
        have hbT : Below w.heap.size w (w1.alloc (.cells #[.int .i64 (c.toNat : Nat), .string (word (c.toNat : Nat)), .slice fA fs.length fc] 72)) := ((HX.out.2.trans (hb1.mono HX.out.2.size)).alloc (Nat.le_trans HX.out.2.size hb1.size) _)
        have hRw := Blk.new w1 72 #[.int .i64 (c.toNat : Nat), .string (word (c.toNat : Nat)), .slice fA fs.length fc]
        have hSl := hS1.alloc (.cells #[.int .i64 (c.toNat : Nat), .string (word (c.toNat : Nat)), .slice fA fs.length fc] 72)
        have hb4 : w.heap.size + 2 ≤ w1.heap.size := by have := hb1.size; simp at this; omega
        clear hS1 hb1 HX HOf
        generalize w1.alloc (.cells #[.int .i64 (c.toNat : Nat), .string (word (c.toNat : Nat)), .slice fA fs.length fc] 72) = w3 at hT hbT hRw hSl ⊢
        generalize w1.heap.size = b4 at hRw hb4 ⊢
        have z2 := hRw.cell 2
        simp at z2
        have HI0 := hide (show RDecI w (c :: r) fs c.toNat (.slice fA fs.length fc) b4 0 w3 ∧ Sl 0 w3 1 fA fs.length (fs.map Value.string) from ⟨⟨hbT, hT, hRw, rfl⟩, hSl.mono (Nat.zero_le _)⟩)
        clear hT hbT hRw hSl
        go_wp2_with fail
        clear z2
        go_loopw [5] (fun vi wr => ∃ j : Nat, vi = .int .i64 j ∧ j ≤ fs.length ∧ Hid (RDecI w (c :: r) fs c.toNat (.slice fA fs.length fc) b4 j wr ∧ Sl 0 wr 1 fA fs.length (fs.map Value.string))) (fun vi _ => fs.length - (intOf vi).toNat)
        case atStart => exact ⟨0, rfl, Nat.zero_le _, HI0⟩
        case round =>
          obtain ⟨j, rfl, hj, HI⟩ := hrel
          have hbr := HI.out.1.bel
          have hT0 := HI.out.1.two
          have hRw := HI.out.1.row
          have hrest := HI.out.1.rest
          have hSl := HI.out.2
          have z0 := hRw.cell 0
          have z1 := hRw.cell 1
          have z2 := hRw.cell 2
          simp at z0 z1 z2
          by_cases hlt : j < fs.length
          · obtain ⟨ad, rfl, had, hc⟩ := hSl.str hlt
            have hmj := List.getElem_mem hlt
            have hjj : (j : Int) < fs.length := by omega
            rw [List.drop_eq_getElem_cons hlt] at hrest
            have HR := hide (HRd.out wr fs[j] hmj)
            have hnext := hide (fun (h : ∀ l, readFs fs[j].data.toList r 0 ≠ .ok l) => hrest.trans (firstF_no h))
            have hyes := hide (fun l (h : readFs fs[j].data.toList r 0 = .ok l) => HOk.out l (hrest.trans (firstF_of h)))
            have HS := hide (And.intro hT0 (And.intro hbr (And.intro hSl hRw)))
            have hzr : w.heap.size + 1 < wr.heap.size := hT0.e.lt
            generalize fs[j] = f at hc HR hnext hyes
            generalize readFs f.data.toList r 0 = R at HR hnext hyes
            clear hbr hT0 hRw hSl hrest HI hmj HRd HOk HBad HI0
            go_wp2_with fail
            refine HR.out.mono ?_
            rintro e w2 ⟨hb2, (⟨l, A2, c2, hR2, rfl, hF2⟩ | ⟨ps, k, hR2, hn2, hk0, hal, rfl⟩)⟩
            · have HY := hide (hyes.out _ hR2)
              clear hR2 hyes hnext HR z0 z1 z2 hc
              go_upto_region 12 with fail
              have hbx : Below wr.heap.size wr (w2.alloc (.cells #[.int .i64 0, .string ⟨#[]⟩] 33)) := hb2.alloc hb2.size _
              have hT := HS.out.1.below hbx
              have hbT := HS.out.2.1.trans (hbx.mono (by omega))
              have hRw := HS.out.2.2.2.below hbx HS.out.2.2.2.lt
              have hE7 := Blk.new w2 33 #[.int .i64 0, .string ⟨#[]⟩]
              have hF3 := hF2.below ((Below.refl _ _).alloc (Nat.le_refl _) (.cells #[.int .i64 0, .string ⟨#[]⟩] 33))
              generalize w2.alloc (.cells #[.int .i64 0, .string ⟨#[]⟩] 33) = w3 at hT hbT hRw hE7 hF3 ⊢
              generalize w2.heap.size = b7 at hE7 ⊢
              have z0 := hRw.cell 0
              have z7 := hE7.cell 0
              simp at z0 z7
              clear HS hbx hb2 hF2
              have x0 := hT.m.cell 0
              have x1 := hT.m.cell 1
              have t0 := hT.m.frozen 0
              have t1 := hT.m.frozen 1
              have y0 := hT.e.cell 0
              have y1 := hT.e.cell 1
              have s0 := hT.e.frozen 0
              have s1 := hT.e.frozen 1
              simp at x0 x1 y0 y1
              go_wp2_with fail
              have hF := hT.set (.int .i64 (c.toNat : Nat)) (.slice A2 l.length c2) (.int .i64 0) (.string ⟨#[]⟩)
              have hbF := TwoB.bel (h := w.heap.size) hbT (Nat.le_refl _) (.int .i64 (c.toNat : Nat)) (.slice A2 l.length c2) (.int .i64 0) (.string ⟨#[]⟩)
              have hFF := TwoB.flds hF3 hzr (.int .i64 (c.toNat : Nat)) (.slice A2 l.length c2) (.int .i64 0) (.string ⟨#[]⟩)
              generalize ((((w3.setCell ⟨w.heap.size, 0, none⟩ (.int .i64 (c.toNat : Nat))).setCell ⟨w.heap.size, 1, none⟩ (.slice A2 l.length c2)).setCell ⟨w.heap.size + 1, 0, none⟩ (.int .i64 0)).setCell ⟨w.heap.size + 1, 1, none⟩ (.string ⟨#[]⟩)) = wF at hF hbF hFF ⊢
              have q0 := hF.m.cell 0
              have q1 := hF.m.cell 1
              have q2 := hF.e.cell 0
              have q3 := hF.e.cell 1
              simp at q0 q1 q2 q3
              exact bodyPost_ret (v := .tuple #[.agg #[.int .i64 (c.toNat : Nat), .slice A2 l.length c2], .agg #[.int .i64 0, .string ⟨#[]⟩]]) (by simp [results, Tryz.results15, go_sem, q0, q1, q2, q3]) rfl ⟨hbF, .inl ⟨c.toNat, l, A2, c2, HY.out, rfl, hFF.flds⟩⟩
            · have HN := hide (hnext.out hn2)
              have hk1 : ((k : Int) == 0) = false := by rw [beq_eq_false_iff_ne]; omega
              clear hR2 hn2 hyes hnext HR z0 z1 z2 hc hk0
              go_upto_region 12 with fail
              have hbx : Below wr.heap.size wr (w2.alloc (.cells #[.int .i64 k, .string (bs (atL ps))] 33)) := hb2.alloc hb2.size _
              have HFN := hide (show RDecI w (c :: r) fs c.toNat (.slice (some ad) fs.length fc) b4 (j + 1) (w2.alloc (.cells #[.int .i64 k, .string (bs (atL ps))] 33)) ∧ Sl 0 (w2.alloc (.cells #[.int .i64 k, .string (bs (atL ps))] 33)) 1 (some ad) fs.length (fs.map Value.string) from ⟨⟨HS.out.2.1.trans (hbx.mono (by omega)), HS.out.1.below hbx, HS.out.2.2.2.below hbx HS.out.2.2.2.lt, HN.out⟩, HS.out.2.2.1.below hbx⟩)
              have hE7 := Blk.new w2 33 #[.int .i64 k, .string (bs (atL ps))]
              clear hbx
              generalize w2.alloc (.cells #[.int .i64 k, .string (bs (atL ps))] 33) = w3 at HFN hE7 ⊢
              generalize w2.heap.size = b7 at hE7 ⊢
              have z7 := hE7.cell 0
              simp at z7
              clear HS hb2
              go_wp2_with fail
              exact ⟨⟨j + 1, by go_num, by omega, HFN⟩, by simp [intOf]; omega⟩
          · have hjl : j = fs.length := by omega
            subst hjl
            have hjj : ¬ (fs.length : Int) < fs.length := by omega
            have hnone : firstF fs r = none := hrest.trans (by rw [List.drop_length]; rfl)
            obtain ⟨ad, rfl, had, hc⟩ := hSl.str hfp
            rw [hf0] at hc
            have had0 : ad.add 0 = ad := by
              obtain ⟨ab, ao, an⟩ := ad
              rfl
            rw [had0] at hc
            have HR := hide (HRd.out wr f0 (by rw [Hfs1.out]; simp))
            have hno := hide (fun l (h : readFs f0.data.toList r 0 = .ok l) => show False from by
              have h2 := hnone
              rw [Hfs1.out, firstF_of h] at h2
              cases h2)
            have hD := hide (HBad.out hnone)
            have HS := hide (And.intro hT0 (And.intro hbr hRw))
            have hzr : w.heap.size + 1 < wr.heap.size := hT0.e.lt
            generalize readFs f0.data.toList r 0 = R at HR hno hD
            clear hbr hT0 hRw hSl hrest HI HRd HOk HBad HI0 hnone
            go_wp2_with fail
            refine HR.out.mono ?_
            rintro e w2 ⟨hb2, (⟨l, A2, c2, hR2, rfl, hF2⟩ | ⟨ps, k, hR2, hn2, hk0, hal, rfl⟩)⟩
            · exact (hno.out _ hR2).elim
            · have HE := hide (show decErr D = some ((word (c.toNat : Nat)).data.toList :: ps, k) from by
                rw [hD.out]
                show Option.map _ (readErr R) = _
                rw [hR2]
                rfl)
              have hwl := word_len (c.toNat : Nat)
              generalize word (c.toNat : Nat) = wd at HE HS z1 hwl
              have HWd := hide (show wd ++ (⟨#[32]⟩ : ByteArray) ++ bs (atL ps) = bs (atL (wd.data.toList :: ps)) from bs_eq (by rw [data_append, data_append, atL_cons, bs_data]))
              have Hk0 := hide hk0
              clear hR2 hn2 HR z0 z1 z2 hc hk0 hno hD
              go_upto_region 15 with fail
              have hbx : Below wr.heap.size wr (w2.alloc (.cells #[.int .i64 k, .string (bs (atL ps))] 33)) := hb2.alloc hb2.size _
              have hT := HS.out.1.below hbx
              have hbT := HS.out.2.1.trans (hbx.mono (by omega))
              have hRw := HS.out.2.2.below hbx HS.out.2.2.lt
              have hE7 := Blk.new w2 33 #[.int .i64 k, .string (bs (atL ps))]
              generalize w2.alloc (.cells #[.int .i64 k, .string (bs (atL ps))] 33) = w3 at hT hbT hRw hE7 ⊢
              have hb7 : w.heap.size + 2 ≤ w2.heap.size := by have := hb2.size; omega
              generalize w2.heap.size = b7 at hE7 hb7 ⊢
              have z1 := hRw.cell 1
              have z7 := hE7.cell 0
              have z8 := hE7.cell 1
              simp at z1 z7 z8
              clear HS hbx hb2
              have hapl : (bs (atL ps)).size ≤ 10 := hal
              generalize bs (atL ps) = ap at HWd z8 hE7 hapl
              have x0 := hT.m.cell 0
              have x1 := hT.m.cell 1
              have t0 := hT.m.frozen 0
              have t1 := hT.m.frozen 1
              have y0 := hT.e.cell 0
              have y1 := hT.e.cell 1
              have s0 := hT.e.frozen 0
              have s1 := hT.e.frozen 1
              simp at x0 x1 y0 y1
              have hn1 : ¬ b7 = w.heap.size := by omega
              have hn2 : ¬ b7 = w.heap.size + 1 := by omega
              have hn3 : ¬ b4 = w.heap.size := by omega
              have hn4 : ¬ b4 = w.heap.size + 1 := by omega
              have hm1 : ¬ w.heap.size = b7 := by omega
              have hm2 : ¬ w.heap.size + 1 = b7 := by omega
              have hm3 : ¬ w.heap.size = b4 := by omega
              have hm4 : ¬ w.heap.size + 1 = b4 := by omega
              go_region
              go_wp2_with fail
              have hF := hT.set (.int .i64 0) (.slice none 0 0) (.int .i64 (k : Nat)) (.string (wd ++ (⟨#[32]⟩ : ByteArray) ++ ap))
              have hbF := TwoB.bel (h := w.heap.size) hbT (Nat.le_refl _) (.int .i64 0) (.slice none 0 0) (.int .i64 (k : Nat)) (.string (wd ++ (⟨#[32]⟩ : ByteArray) ++ ap))
              generalize ((((w3.setCell ⟨w.heap.size, 0, none⟩ (.int .i64 0)).setCell ⟨w.heap.size, 1, none⟩ (.slice none 0 0)).setCell ⟨w.heap.size + 1, 0, none⟩ (.int .i64 (k : Nat))).setCell ⟨w.heap.size + 1, 1, none⟩ (.string (wd ++ (⟨#[32]⟩ : ByteArray) ++ ap))) = wF at hF hbF ⊢
              have q0 := hF.m.cell 0
              have q1 := hF.m.cell 1
              have q2 := hF.e.cell 0
              have q3 := hF.e.cell 1
              simp at q0 q1 q2 q3
              exact bodyPost_ret (v := .tuple #[.agg #[.int .i64 0, .slice none 0 0], .agg #[.int .i64 (k : Nat), .string (wd ++ (⟨#[32]⟩ : ByteArray) ++ ap)]]) (by simp [results, Tryz.results15, go_sem, q0, q1, q2, q3]) rfl ⟨Below.drew hbF, .inr ⟨_, k, HE.out, Hk0.out, by rw [HWd.out]⟩⟩
end
end Go.Proofs.YtcjafkanckcfbaaGreatDoor
