/-
  The contracts of the reference's View of a term's own bytes, and of ref22's Owner. Conditions: terms that fit.
-/
import Derived.Test.YtephdodkijanmaaGreatDoorOwner
set_option linter.unusedVariables false
set_option linter.unusedSimpArgs false
namespace Go.Proofs.YtephdodkijanmaaGreatDoor
open Go.RowKit Go.ChangeShapes Go.WideShapes Go.Sort
section
variable {w : World}
set_option maxHeartbeats 2000000 in
set_option maxRecDepth 100000 in
theorem rView_own {t : Tm} (ht : fine t) (w : World) : Calls Tryz.prog 79 #[.string (bs (enc t))] w (fun e w' => ∃ A n c, e = .returned (.agg #[.int .i64 t.k, .int .i64 t.a, .int .i64 t.b, .string t.s, .slice A n c]) ∧ Below w.heap.size w w') := by
  have HP := hide (fun W => parse_own ht W)
  generalize bs (enc t) = x at HP ⊢
  go_enter Tryz.func79, Tryz.ntmps79
  go_wp2_with fail
  have hb0 := (Below.refl w.heap.size w).alloc (Nat.le_refl _) (.cells #[.int .i64 0, .int .i64 0, .int .i64 0, .string ⟨#[]⟩, .slice none 0 0] 131)
  have hB0 := Blk.new w 131 #[.int .i64 0, .int .i64 0, .int .i64 0, .string ⟨#[]⟩, .slice none 0 0]
  refine (HP.out _).mono ?_
  rintro e w1 ⟨hb1, A, c, _, rfl⟩
  have hB1 := hB0.below hb1 hB0.lt
  have hb01 := hb0.trans (hb1.mono hb0.size)
  have hlt := hB1.lt
  have k0 := hB1.cell 0
  have k1 := hB1.cell 1
  have k2 := hB1.cell 2
  have k3 := hB1.cell 3
  have k4 := hB1.cell 4
  simp only [List.getElem?_toArray, List.getElem?_cons_zero, List.getElem?_cons_succ] at k0 k1 k2 k3 k4
  have f0 := hB1.frozen 0
  have f1 := hB1.frozen 1
  have f2 := hB1.frozen 2
  have f3 := hB1.frozen 3
  have f4 := hB1.frozen 4
  have hn := Nat.ne_of_lt hlt
  clear HP hB0 hb0 hb1
  go_wp2_with fail
  obtain ⟨W, hW⟩ : ∃ W, W = (((((w1.setCell ⟨w.heap.size, 0, none⟩ (.int .i64 t.k)).setCell ⟨w.heap.size, 1, none⟩ (.int .i64 t.a)).setCell ⟨w.heap.size, 2, none⟩ (.int .i64 t.b)).setCell ⟨w.heap.size, 3, none⟩ (.string t.s)).setCell ⟨w.heap.size, 4, none⟩ (.slice A t.l.length c)).alloc (.cells #[.int .i64 t.k, .int .i64 t.a, .int .i64 t.b, .string t.s, .slice A t.l.length c] 131) := ⟨_, rfl⟩
  rw [← hW]
  have hBW : Blk W w.heap.size 131 #[.int .i64 t.k, .int .i64 t.a, .int .i64 t.b, .string t.s, .slice A t.l.length c] := by
    rw [hW]
    have := (((((hB1.set_ 0 (.int .i64 t.k)).set_ 1 (.int .i64 t.a)).set_ 2 (.int .i64 t.b)).set_ 3 (.string t.s)).set_ 4 (.slice A t.l.length c)).alloc (.cells #[.int .i64 t.k, .int .i64 t.a, .int .i64 t.b, .string t.s, .slice A t.l.length c] 131)
    simpa using this
  have hbW : Below w.heap.size w W := by
    rw [hW]
    have hs := (((((hb01.setCell (p := ⟨w.heap.size, 0, none⟩) (Nat.le_refl _) (.int .i64 t.k)).setCell (p := ⟨w.heap.size, 1, none⟩) (Nat.le_refl _) (.int .i64 t.a)).setCell (p := ⟨w.heap.size, 2, none⟩) (Nat.le_refl _) (.int .i64 t.b)).setCell (p := ⟨w.heap.size, 3, none⟩) (Nat.le_refl _) (.string t.s)).setCell (p := ⟨w.heap.size, 4, none⟩) (Nat.le_refl _) (.slice A t.l.length c))
    exact hs.alloc hs.size _
  have q0 := hBW.cell 0
  have q1 := hBW.cell 1
  have q2 := hBW.cell 2
  have q3 := hBW.cell 3
  have q4 := hBW.cell 4
  simp only [List.getElem?_toArray, List.getElem?_cons_zero, List.getElem?_cons_succ] at q0 q1 q2 q3 q4
  clear hW hBW hB1 k0 k1 k2 k3 k4 f0 f1 f2 f3 f4
  exact bodyPost_ret (v := .agg #[.int .i64 t.k, .int .i64 t.a, .int .i64 t.b, .string t.s, .slice A t.l.length c]) (by simp [results, Tryz.results79, go_sem, q0, q1, q2, q3, q4]) rfl ⟨A, _, c, rfl, hbW⟩
theorem field_a (x0 x1 x2 : Int) (x3 : ByteArray) (A : Option Addr) (n c : Nat) (w : World) : (Instr.field 131 (.agg #[.int .i64 x0, .int .i64 x1, .int .i64 x2, .string x3, .slice A n c]) 1).run Tryz.prog w = .ok (.int .i64 x1) w := by kernel_rfl
set_option maxHeartbeats 2000000 in
set_option maxRecDepth 100000 in
theorem rOwner_any {o : Option Tm} (ho : fineO o) (w : World) : Calls Tryz.prog 47 #[.string (tx o)] w (fun e w' => e = .returned (.tuple #[.int .i64 (whoO o), .bool (isPb o)]) ∧ Below w.heap.size w w') := by
  have HK := hide (rKind_any ho w)
  by_cases hp : ∃ t, o = some t ∧ t.k = 4
  · obtain ⟨t, rfl, hk⟩ := hp
    have hft := ho t rfl
    obtain ⟨c, hc, hgc, _⟩ := pub_one hft.1 hk
    have e1 : whoO (some t) = c.a := by
      show (if t.k = 4 then _ else _) = _
      rw [if_pos hk, hc]
    have e2 : isPb (some t) = true := by
      show (t.k == 4) = true
      rw [hk]
      rfl
    rw [e1, e2]
    have heq : enc t = 244 :: enc c := by
      rw [enc_eta, hc, hk]
      have hs : t.s = eB ∧ t.a = 0 ∧ t.b = 0 := by
        have := hft.1
        cases t with
        | mk k a b s l =>
          simp only [Tm.k] at hk
          subst hk
          simp only [good, hd] at this
          exact ⟨this.1.2.2.2, this.1.1, this.1.2.1⟩
      rw [hs.1, hs.2.1, hs.2.2]
      simp [head, mid, encs]
    have hfc : fine c := ⟨hgc, by have := hft.2; rw [heq] at this; simp at this; omega⟩
    have hx : (tx (some t)).extract 1 (tx (some t)).size = bs (enc c) := by
      show (bs (enc t)).extract 1 (bs (enc t)).size = _
      rw [ext_bs, bs_data, heq, List.drop_succ_cons, List.drop_zero, List.take_of_length_le]
      have h9 : (bs (244 :: enc c)).size = (enc c).length + 1 := rfl
      rw [h9]
      omega
    have hsz : (1 : Int) ≤ (tx (some t)).size := by
      show (1 : Int) ≤ (enc t).length
      rw [heq]
      simp
      omega
    have hsz2 : (tx (some t)).size ≤ 131072 := hft.2
    have HV := hide (fun W => rView_own hfc W)
    rw [← hx] at HV
    have hk4 : kindO (some t) = 4 := hk
    rw [hk4] at HK
    clear hx e1 e2 heq hfc hft hk4 ho hc hgc hk
    generalize tx (some t) = x at HK HV hsz hsz2 ⊢
    go_enter Tryz.func47, Tryz.ntmps47
    go_wp2_with fail
    refine HK.out.mono ?_
    rintro e w1 ⟨rfl, rfl⟩
    go_wp2_with fail
    refine (HV.out _).mono ?_
    rintro e w2 ⟨A, n, c2, rfl, hb⟩
    have hfa := field_a
    go_wp2_with fail
    go_ret2
    exact ⟨rfl, hb⟩
  · have e1 : whoO o = 0 := by
      cases o with
      | none => rfl
      | some t =>
        show (if t.k = 4 then _ else _) = _
        rw [if_neg (fun h => hp ⟨t, rfl, h⟩)]
    have e2 : isPb o = false := by
      cases o with
      | none => rfl
      | some t =>
        show (t.k == 4) = false
        simpa using (fun h => hp ⟨t, rfl, h⟩)
    have hkk : ((kindO o : Nat) : Int) = 4 → False := fun h => by
      cases o with
      | none => simp [kindO] at h
      | some t => exact hp ⟨t, rfl, by simp [kindO] at h; omega⟩
    have hkb : (((kindO o : Nat) : Int) == 4) = false := by rw [beq_eq_false_iff_ne]; exact hkk
    rw [e1, e2]
    clear e1 e2 hp ho hkk
    go_enter Tryz.func47, Tryz.ntmps47
    go_wp2_with fail
    refine HK.out.mono ?_
    rintro e w1 ⟨rfl, rfl⟩
    go_wp2_with fail
    go_ret2
    exact ⟨rfl, Below.refl _ _⟩
end
end Go.Proofs.YtephdodkijanmaaGreatDoor
