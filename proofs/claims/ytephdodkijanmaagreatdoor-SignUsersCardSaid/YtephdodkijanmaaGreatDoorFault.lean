/-
  The contracts of fault's At, Of, Path and Code at an error within two places, of sign's wrong, and of law07's Wrong and law22's told where they agree. Conditions: texts of at most a thousand bytes; the library's handle is as it was laid.
-/
import Derived.Test.YtephdodkijanmaaGreatDoorAs
import Derived.Test.YtephdodkijanmaaGreatDoorMakesA
set_option linter.unusedVariables false
set_option linter.unusedSimpArgs false
namespace Go.Proofs.YtephdodkijanmaaGreatDoor
open Go.RowKit
/-- An error within two places. -/
structure Flt (w : World) (b1 b2 : Nat) (s1 s2 : ByteArray) (k : Int) : Prop where
  q1 : Blk w b1 143 #[.string s1, .iface 139 (.pointer (some ⟨b2, 0, none⟩))]
  q2 : Blk w b2 143 #[.string s2, .iface 55 (.int .i64 k)]
theorem Flt.below {w w' : World} {b1 b2 : Nat} {s1 s2 : ByteArray} {k : Int} (h : Flt w b1 b2 s1 s2 k) (hb : Below w.heap.size w w') : Flt w' b1 b2 s1 s2 k := ⟨h.q1.below hb h.q1.lt, h.q2.below hb h.q2.lt⟩
section
variable {w : World}
set_option maxHeartbeats 1000000 in
theorem wrong_any (outer inner : ByteArray) (k : Int) (hk : (k == 0) = false) (w : World) : Calls Tryz.prog 41 #[.string outer, .string inner, .int .i64 k] w (fun e w' => ∃ b1 b2, e = .returned (.iface 139 (.pointer (some ⟨b1, 0, none⟩))) ∧ Flt w' b1 b2 outer inner k ∧ Below w.heap.size w w' ∧ w.heap.size ≤ b1 ∧ w.heap.size ≤ b2) := by
  go_enter Tryz.func41, Tryz.ntmps41
  go_wp2
  go_ret
  exact ⟨_, _, rfl, ⟨by simpa using Blk.new (w.alloc (.cells #[.string inner, .iface 55 (.int .i64 k)] 143)) 143 #[.string outer, .iface 139 (.pointer (some ⟨w.heap.size, 0, none⟩))], (Blk.new w _ _).alloc _⟩, by (repeat (first | exact Below.refl _ _ | refine below_drewN ?_ _ | refine Below.drew ?_ | refine Below.alloc ?_ (by first | omega | (simp; done) | (simp; omega)) _ | refine Below.setCell ?_ (by first | omega | (simp; done) | (simp; omega)) _ | refine bel_alloc ?_ _ | refine bel_trans ?_ (by assumption) | refine Below.trans ?_ (Below.mono (by assumption) (by first | omega | (simp; done) | (simp; omega))))), by omega, Nat.le_refl _⟩
set_option maxHeartbeats 4000000 in
theorem code_two {b1 b2 : Nat} {s1 s2 : ByteArray} {k : Int} (hg : Hand w) (h : Flt w b1 b2 s1 s2 k) : Calls Tryz.prog 76 #[.iface 139 (.pointer (some ⟨b1, 0, none⟩))] w (fun e w' => e = .returned (.int .i64 k) ∧ Below w.heap.size w w') := by
  have hb0 := (Below.refl w.heap.size w).alloc (Nat.le_refl _) (.cells #[.int .i64 0] 55)
  have hB := Blk.new w 55 #[.int .i64 0]
  have h2 := h.below hb0
  have HA := hide (asE_two b1 b2 s1 s2 k ⟨w.heap.size, 0, none⟩ (.int .i64 0) (hg.below hb0) (hB.cell 0) (hB.frozen 0) (h2.q1.cell 1) (h2.q2.cell 1))
  clear hg h h2
  go_enter Tryz.func76, Tryz.ntmps76
  go_wp2_with fail
  refine HA.out.mono ?_
  rintro e w1 ⟨rfl, W, hbW, rfl⟩
  have hc : (W.setCell ⟨w.heap.size, 0, none⟩ (.int .i64 k)).cell? ⟨w.heap.size, 0, none⟩ = some (.int .i64 k) := by
    have := (hB.below hbW hB.lt).set_ 0 (.int .i64 k)
    simpa using this.cell 0
  have hbl : Below w.heap.size w (W.setCell ⟨w.heap.size, 0, none⟩ (.int .i64 k)) := (hb0.trans (hbW.mono hb0.size)).setCell (Nat.le_refl _) _
  clear hB hb0 hbW
  go_wp2_with fail
  go_ret
  exact ⟨rfl, hbl⟩
theorem own_below {B0 size n : Nat} {t : TypeId} {v : Value} {xs : List Value} {w w' : World} (h : w.ownsRow B0 t size v n xs) (hb : Below w.heap.size w w') : w'.ownsRow B0 t size v n xs := by
  refine h.kept (only_of_below hb none) ?_
  cases eo : v.ownBlock with
  | none => exact .inl rfl
  | some i => exact .inr (fun e => by cases e)
theorem infoSt : (Tryz.prog.info? 9).map (fun i => (i.zero, i.size, i.bytes)) = some (some (.string ⟨#[]⟩), 1, 16) := by kernel_rfl
set_option maxHeartbeats 8000000 in
set_option maxRecDepth 100000 in
theorem path_two {b1 b2 : Nat} {s1 s2 : ByteArray} {k : Int} (hg : Hand w) (h : Flt w b1 b2 s1 s2 k) : Calls Tryz.prog 75 #[.iface 139 (.pointer (some ⟨b1, 0, none⟩))] w (fun e w' => ∃ v, e = .returned v ∧ w'.ownsRow w.heap.size 9 1 v 2 [.string s1, .string s2] ∧ Below w.heap.size w w') := by
  have hb0 := (Below.refl w.heap.size w).alloc (Nat.le_refl _) (.cells #[.pointer none] 139)
  have hB := Blk.new w 139 #[.pointer none]
  obtain ⟨w0, hw0⟩ : ∃ w0, w0 = w.alloc (.cells #[.pointer none] 139) := ⟨_, rfl⟩
  rw [← hw0] at hb0 hB
  have hF0 := h.below (hb0)
  have hg0 := hg.below hb0
  obtain ⟨tb, htb⟩ : ∃ tb, tb = w.heap.size := ⟨_, rfl⟩
  rw [← htb] at hB
  have H1 := hide (asF_hit ⟨b1, 0, none⟩ ⟨tb, 0, none⟩ (.pointer none) hg0 (hB.cell 0) (hB.frozen 0))
  have n1 : b1 ≠ tb := fun e => by have := h.q1.lt; omega
  have n2 : b2 ≠ tb := fun e => by have := h.q2.lt; omega
  have hz : 0 < w.heap.size := hg.pos
  obtain ⟨iI, hiI, hI0, hI1, hI2⟩ := info_parts infoSt
  have HB := hide hB
  have HF0 := hide hF0
  have Hg0 := hide hg0
  have Hb0 := hide hb0
  have Hh := hide h
  have Hg := hide hg
  clear h hg hB hF0 hg0 hb0
  go_enter Tryz.func75, Tryz.ntmps75
  go_upto_region 3 with fail
  rw [← hw0, ← htb]
  have Htb := hide htb
  clear hw0 htb
  refine wp_loop_rounds 3 ?_
  rw [rounds_succ]
  go_wp2_with fail
  refine H1.out.mono ?_
  rintro e w1 ⟨rfl, W1, hbW1, rfl⟩
  have hbX1 : Below w.heap.size w (W1.setCell ⟨tb, 0, none⟩ (.pointer (some ⟨b1, 0, none⟩))) := (Hb0.out.trans (hbW1.mono Hb0.out.size)).setCell (by rw [Htb.out]; exact Nat.le_refl _) _
  have hBX1 : Blk (W1.setCell ⟨tb, 0, none⟩ (.pointer (some ⟨b1, 0, none⟩))) tb 139 #[.pointer (some ⟨b1, 0, none⟩)] := by
    have := (HB.out.below hbW1 HB.out.lt).set_ 0 (.pointer (some ⟨b1, 0, none⟩))
    simpa using this
  generalize W1.setCell ⟨tb, 0, none⟩ (.pointer (some ⟨b1, 0, none⟩)) = X1 at hbX1 hBX1 ⊢
  have c1 : X1.cell? ⟨tb, 0, none⟩ = some (.pointer (some ⟨b1, 0, none⟩)) := hBX1.cell 0
  have c2 : X1.cell? ⟨b1, 0, none⟩ = some (.string s1) := (Hh.out.below hbX1).q1.cell 0
  have hsz1 : w.heap.size ≤ (X1.alloc (.cells #[.string s1] 9)).heap.size := by
    have := hbX1.size
    simp only [World.size_alloc]
    omega
  clear hbW1 H1
  go_wp2_with (first
    | (at_builtin; refine wpList_append_any _ rfl (.tmp 16) (.tmp 21) _ rfl w.heap.size 9 iI (.string ⟨#[]⟩) 1 16 Tryz.underlying32 hiI hI0 hI1 hI2 rfl (by decide) _ 0 [] rfl (World.ownsRow_nil _ _ _ _) _ (some ⟨_, 0, none⟩) 1 1 [.string s1] rfl (reads_blk (Blk.new _ _ _) rfl) (by simp [Value.oneCell']) (by unfold maxLen; omega) (by omega) hsz1 ?_; intro v6 w6 hown6 hgr6 hor6; obtain ⟨A6, cc6, hv6⟩ := own_sl hown6; subst hv6;
       have hbY := (hbX1.alloc hbX1.size (.cells #[.string s1] 9)).grown hgr6 hsz1 (fun k e => (by cases e));
       have hBY := Blk.grown (hBX1.alloc (.cells #[.string s1] 9)) hgr6 (fun e => (by cases e));
       have d1 := hBY.cell 0; have d2 := (Hh.out.below hbY).q1.cell 1; simp only [List.getElem?_toArray, List.getElem?_cons_zero, List.getElem?_cons_succ] at d1 d2;
       simp only [Nat.zero_add, List.nil_append] at hown6)
    | fail)
  have H2 := hide (asF_hit (w := w6) ⟨b2, 0, none⟩ ⟨tb, 0, none⟩ (.pointer (some ⟨b1, 0, none⟩)) (Hg.out.below hbY) d1 (hBY.frozen 0))
  clear c1 c2 d2 hBX1 hbX1 hgr6 hor6 d1
  have hnt : ∀ i, (Value.slice A6 1 cc6).ownBlock = some i → i ≠ tb := fun i hi e => by
    subst e
    exact own_blk_ne hown6 hBY (by decide) hi
  rw [rounds_succ]
  go_wp2_with fail
  refine H2.out.mono ?_
  rintro e w2 ⟨rfl, W2, hbW2, rfl⟩
  have hbX2 : Below w.heap.size w (W2.setCell ⟨tb, 0, none⟩ (.pointer (some ⟨b2, 0, none⟩))) := (hbY.trans (hbW2.mono hbY.size)).setCell (by rw [Htb.out]; exact Nat.le_refl _) _
  have hBX2 : Blk (W2.setCell ⟨tb, 0, none⟩ (.pointer (some ⟨b2, 0, none⟩))) tb 139 #[.pointer (some ⟨b2, 0, none⟩)] := by
    have := (hBY.below hbW2 hBY.lt).set_ 0 (.pointer (some ⟨b2, 0, none⟩))
    simpa using this
  have hoX2 : (W2.setCell ⟨tb, 0, none⟩ (.pointer (some ⟨b2, 0, none⟩))).ownsRow w.heap.size 9 1 (.slice A6 1 cc6) 1 [.string s1] := by
    have h1 : w6.grownBy (W2.setCell ⟨tb, 0, none⟩ (.pointer (some ⟨b2, 0, none⟩))) (some tb) := only_setCell (only_of_below hbW2 (some tb)) (.inl rfl) _
    refine hown6.kept h1 ?_
    cases eo : (Value.slice A6 1 cc6).ownBlock with
    | none => exact .inl rfl
    | some i => exact .inr (fun e => hnt i eo (Option.some.inj e))
  generalize W2.setCell ⟨tb, 0, none⟩ (.pointer (some ⟨b2, 0, none⟩)) = X2 at hbX2 hBX2 hoX2 ⊢
  have c1 : X2.cell? ⟨tb, 0, none⟩ = some (.pointer (some ⟨b2, 0, none⟩)) := hBX2.cell 0
  have c2 : X2.cell? ⟨b2, 0, none⟩ = some (.string s2) := (Hh.out.below hbX2).q2.cell 0
  have hsz2 : w.heap.size ≤ (X2.alloc (.cells #[.string s2] 9)).heap.size := by
    have := hbX2.size
    simp only [World.size_alloc]
    omega
  clear hbW2 H2 hBY hbY hown6
  go_wp2_with (first
    | (at_builtin; refine wpList_append_any _ rfl (.tmp 16) (.tmp 21) _ rfl w.heap.size 9 iI (.string ⟨#[]⟩) 1 16 Tryz.underlying32 hiI hI0 hI1 hI2 rfl (by decide) _ 1 _ rfl (hoX2.alloc _) _ (some ⟨_, 0, none⟩) 1 1 [.string s2] rfl (reads_blk (Blk.new _ _ _) rfl) (by simp [Value.oneCell']) (by unfold maxLen; omega) (by omega) hsz2 ?_; intro v7 w7 hown7 hgr7 hor7; obtain ⟨A7, cc7, hv7⟩ := own_sl hown7; subst hv7;
       have hbY := (hbX2.alloc hbX2.size (.cells #[.string s2] 9)).grown hgr7 hsz2 (fun k e => (hoX2.lt k e).1);
       have hBY := Blk.grown (hBX2.alloc (.cells #[.string s2] 9)) hgr7 (fun e => hnt tb e.symm rfl);
       have d1 := hBY.cell 0; have d2 := (Hh.out.below hbY).q2.cell 1; simp only [List.getElem?_toArray, List.getElem?_cons_zero, List.getElem?_cons_succ] at d1 d2)
    | fail)
  have H3 := hide (asF_miss (w := w7) k ⟨tb, 0, none⟩ (.pointer (some ⟨b2, 0, none⟩)) (Hg.out.below hbY) d1)
  clear c1 c2 d2 hBX2 hbX2 hgr7 hor7 d1
  rw [rounds_succ]
  go_wp2_with fail
  refine H3.out.mono ?_
  rintro e w8 ⟨rfl, hb8⟩
  have ho8 := own_below hown7 hb8
  go_wp2_with fail
  go_ret
  exact ⟨_, rfl, ho8, hbY.trans (hb8.mono hbY.size)⟩
set_option maxHeartbeats 8000000 in
set_option maxRecDepth 100000 in
/-- An error within just these places. -/
theorem wrongs_any {b1 b2 : Nat} {s1 s2 at_ : ByteArray} {k : Int} (hg : Hand w) (h : Flt w b1 b2 s1 s2 k) (h1 : s1.size ≤ 1000) (h2 : s2.size ≤ 1000) (hat : at_.data.toList = s1.data.toList ++ [32] ++ s2.data.toList ++ [32]) :
    Calls Tryz.prog 40 #[.iface 139 (.pointer (some ⟨b1, 0, none⟩)), .agg #[.int .i64 k, .string at_]] w (fun e w' => e = .returned (.bool true) ∧ Below w.heap.size w w') := by
  have HP := hide (fun (W : World) (hb : Below w.heap.size w W) => path_two (hg.below hb) (h.below hb))
  have HC := hide (fun (W : World) (hb : Below w.heap.size w W) => code_two (hg.below hb) (h.below hb))
  obtain ⟨x1, hx1⟩ : ∃ x1, x1 = (⟨#[]⟩ : ByteArray) ++ s1 := ⟨_, rfl⟩
  obtain ⟨x2, hx2⟩ : ∃ x2, x2 = x1 ++ ⟨#[32]⟩ := ⟨_, rfl⟩
  obtain ⟨x3, hx3⟩ : ∃ x3, x3 = x2 ++ s2 := ⟨_, rfl⟩
  obtain ⟨x4, hx4⟩ : ∃ x4, x4 = x3 ++ ⟨#[32]⟩ := ⟨_, rfl⟩
  have z0 : (⟨#[]⟩ : ByteArray).size = 0 := rfl
  have z1 : (⟨#[32]⟩ : ByteArray).size = 1 := rfl
  have y1 : x1.size = s1.size := by rw [hx1, ByteArray.size_append]; omega
  have y2 : x2.size = s1.size + 1 := by rw [hx2, ByteArray.size_append]; omega
  have y3 : x3.size = s1.size + 1 + s2.size := by rw [hx3, ByteArray.size_append]; omega
  have a1 : ∀ W, (Op.stringOp .add ⟨#[]⟩ s1).run Tryz.prog W = .ok (.string x1) W := fun W => by rw [hx1]; exact run_string_add_sum W _ _ (by omega)
  have a2 : ∀ W, (Op.stringOp .add x1 ⟨#[32]⟩).run Tryz.prog W = .ok (.string x2) W := fun W => by rw [hx2]; exact run_string_add_sum W _ _ (by omega)
  have a3 : ∀ W, (Op.stringOp .add x2 s2).run Tryz.prog W = .ok (.string x3) W := fun W => by rw [hx3]; exact run_string_add_sum W _ _ (by omega)
  have a4 : ∀ W, (Op.stringOp .add x3 ⟨#[32]⟩).run Tryz.prog W = .ok (.string x4) W := fun W => by rw [hx4]; exact run_string_add_sum W _ _ (by omega)
  have hx : x4 = at_ := by
    apply toList_inj
    rw [hat, hx4, hx3, hx2, hx1]
    simp [ByteArray.data_append]
  subst hx
  clear hg h hat hx1 hx2 hx3 hx4 z0 z1 y1 y2 y3 h1 h2
  go_enter Tryz.func40, Tryz.ntmps40
  go_wp2_with fail
  have hb0 := (Below.refl w.heap.size w).alloc (Nat.le_refl _) (.cells #[.int .i64 k, .string x4] 91)
  have hB0 := Blk.new w 91 #[.int .i64 k, .string x4]
  refine (HP.out _ hb0).mono ?_
  rintro e w1 ⟨v, rfl, hown, hb1⟩
  obtain ⟨A, c, rfl⟩ := own_sl hown
  obtain ⟨gb, cap, hv, _, hgl⟩ := hown.form (by omega)
  obtain rfl : A = some ⟨gb, 0, none⟩ := by injection hv
  have g0 := hown.cells (g := gb) rfl 0 (.string s1) rfl
  have g1 := hown.cells (g := gb) rfl 1 (.string s2) rfl
  rw [add_zero_] at g0 g1
  have hB1 := hB0.below hb1 hB0.lt
  have hb01 := hb0.trans (hb1.mono hb0.size)
  have d0 := hB1.cell 0
  have d1 := hB1.cell 1
  simp only [List.getElem?_toArray, List.getElem?_cons_zero, List.getElem?_cons_succ] at d0 d1
  have HC1 := hide (fun (W : World) (hb : Below w1.heap.size w1 W) => HC.out W (hb01.trans (hb.mono hb01.size)))
  have hlt := hB1.lt
  clear hown hB0 hb0 hb1 hv HP HC
  go_wp2_with fail
  refine wp_loop_rounds 3 ?_
  rw [rounds_succ]
  go_wp2_with fail
  rw [rounds_succ]
  go_wp2_with fail
  rw [rounds_succ]
  go_wp2_with fail
  have hdr : Below w1.heap.size w1 w1.drew := (Below.refl _ _).drew
  go_region_held3 (fun W => W.cell? ⟨w.heap.size, 0, none⟩ = some (.int .i64 k) ∧ W.cell? ⟨w.heap.size, 1, none⟩ = some (.string x4))
    (exact ⟨d0, d1⟩)
    (first
      | (go_at_call 76; refine (HC1.out _ hdr).mono ?_; rintro e w2 ⟨rfl, hb2⟩; replace d0 := ((hdr.trans hb2).cell (p := ⟨w.heap.size, 0, none⟩) hlt).trans d0; replace d1 := ((hdr.trans hb2).cell (p := ⟨w.heap.size, 1, none⟩) hlt).trans d1)
      | fail)
  all_goals go_wp2_with fail
  all_goals go_ret
  all_goals exact ⟨by simp, hb01.trans ((hdr.trans hb2).mono hb01.size)⟩
set_option maxHeartbeats 1000000 in
set_option maxRecDepth 100000 in
theorem told_two {b1 b2 : Nat} {s1 s2 : ByteArray} {k : Int} (hg : Hand w) (h : Flt w b1 b2 s1 s2 k) (h1 : s1.size ≤ 1000) (h2 : s2.size ≤ 1000) (hne : (s2.toList == []) = false) :
    Calls Tryz.prog 20 #[.iface 139 (.pointer (some ⟨b1, 0, none⟩)), .int .i64 k, .string s1, .string s2] w (fun e w' => e = .returned (.bool true) ∧ Below w.heap.size w w') := by
  obtain ⟨x1, hx1⟩ : ∃ x1, x1 = s1 ++ ⟨#[32]⟩ := ⟨_, rfl⟩
  obtain ⟨x2, hx2⟩ : ∃ x2, x2 = x1 ++ s2 := ⟨_, rfl⟩
  obtain ⟨x3, hx3⟩ : ∃ x3, x3 = x2 ++ ⟨#[32]⟩ := ⟨_, rfl⟩
  have z1 : (⟨#[32]⟩ : ByteArray).size = 1 := rfl
  have y1 : x1.size = s1.size + 1 := by rw [hx1, ByteArray.size_append]; omega
  have y2 : x2.size = s1.size + 1 + s2.size := by rw [hx2, ByteArray.size_append]; omega
  have a1 : ∀ W, (Op.stringOp .add s1 ⟨#[32]⟩).run Tryz.prog W = .ok (.string x1) W := fun W => by rw [hx1]; exact run_string_add_sum W _ _ (by omega)
  have a2 : ∀ W, (Op.stringOp .add x1 s2).run Tryz.prog W = .ok (.string x2) W := fun W => by rw [hx2]; exact run_string_add_sum W _ _ (by omega)
  have a3 : ∀ W, (Op.stringOp .add x2 ⟨#[32]⟩).run Tryz.prog W = .ok (.string x3) W := fun W => by rw [hx3]; exact run_string_add_sum W _ _ (by omega)
  have HW := hide (wrongs_any hg h h1 h2 (at_ := x3) (by
    rw [hx3, hx2, hx1]
    simp [ByteArray.data_append]))
  clear hg h hx1 hx2 hx3 z1 y1 y2 h1 h2
  go_enter Tryz.func20, Tryz.ntmps20
  go_wp2_with fail
  refine HW.out.mono ?_
  rintro e w1 ⟨rfl, hb1⟩
  go_wp2_with fail
  go_ret
  exact ⟨rfl, hb1⟩
theorem told_nil (k : Int) (s1 : ByteArray) (w : World) : Calls Tryz.prog 20 #[.nilIface, .int .i64 k, .string s1, .string ⟨#[]⟩] w (fun e w' => e = .returned (.bool true) ∧ w' = w) := by
  go_enter Tryz.func20, Tryz.ntmps20
  go_wp2_with fail
  go_ret
  exact ⟨rfl, rfl⟩
end
end Go.Proofs.YtephdodkijanmaaGreatDoor
