/-
  The contract of kexinit's split. Conditions: lists of at most 1,000,000 names.
-/
import Derived.Test.YtjaipdenahlheaaGreatDoorKKxM
set_option linter.unusedVariables false
set_option linter.unusedSimpArgs false
namespace Go.Proofs.YtjaipdenahlheaaGreatDoor
open Go.RowKit Go.ChangeShapes Go.WideShapes Go.Sort
/-- What is left to do at place j. -/
def run0 (r : List (List UInt8)) (a b c d : Bool) : SplM := ⟨r, a, b, c, d⟩
def run1 (r : List (List UInt8)) (a b c d : Bool) : SplM := if r.getLast? = some mark0 then run0 r.dropLast true b c d else run0 r a b c d
def run2 (r : List (List UInt8)) (a b c d : Bool) : SplM := if r.getLast? = some mark1 then run1 r.dropLast a true c d else run1 r a b c d
def run3 (r : List (List UInt8)) (a b c d : Bool) : SplM := if r.getLast? = some mark2 then run2 r.dropLast a b true d else run2 r a b c d
def run4 (r : List (List UInt8)) (a b c d : Bool) : SplM := if r.getLast? = some mark3 then run3 r.dropLast a b c true else run3 r a b c d
def runM (j : Nat) (r : List (List UInt8)) (a b c d : Bool) : SplM := match j with
  | 0 => run0 r a b c d
  | 1 => run1 r a b c d
  | 2 => run2 r a b c d
  | 3 => run3 r a b c d
  | _ => run4 r a b c d
theorem strip_if (m : List UInt8) (l : List (List UInt8)) {α : Type} (f : List (List UInt8) → Bool → α) : f (stripM m l).1 (stripM m l).2 = if l.getLast? = some m then f l.dropLast true else f l false := by
  unfold stripM
  split <;> rfl
theorem runM_4 (l : List (List UInt8)) : runM 4 l false false false false = splitM l := by
  have h3 := strip_if mark3 l (fun r d => run3 r false false false d)
  have h2 := strip_if mark2 (stripM mark3 l).1 (fun r c => run2 r false false c (stripM mark3 l).2)
  have h1 := strip_if mark1 (stripM mark2 (stripM mark3 l).1).1 (fun r b => run1 r false b (stripM mark2 (stripM mark3 l).1).2 (stripM mark3 l).2)
  have h0 := strip_if mark0 (stripM mark1 (stripM mark2 (stripM mark3 l).1).1).1 (fun r a => run0 r a (stripM mark1 (stripM mark2 (stripM mark3 l).1).1).2 (stripM mark2 (stripM mark3 l).1).2 (stripM mark3 l).2)
  exact h3.symm.trans (h2.symm.trans (h1.symm.trans h0.symm))
def idxS : Nat → Int
  | 0 => -1
  | 1 => 0
  | 2 => 1
  | 3 => 2
  | _ => 3
theorem NewC.pre {lo : Nat} {W : World} {A : Option Addr} {c q : Nat} {l : List (List UInt8)} (h : NewC lo W (.slice A (q + 1) c) l) : l.length = q + 1 ∧ NewC lo W (.slice A q c) l.dropLast := by
  obtain ⟨A', c', e, hc, hS⟩ := h
  injection e with e1 e2 e3
  subst e1 e3
  have hl : l.dropLast.length = q := by rw [List.length_dropLast]; omega
  refine ⟨e2.symm, A, c, by rw [hl], by omega, ?_, fun hn => ?_⟩
  · rw [List.length_map, List.length_map, hl, Nat.mul_one]
  · obtain ⟨ad, e4, h1, h2, h3⟩ := hS.2 (by omega)
    refine ⟨ad, e4, h1, h2, fun j u hu => h3 j u ?_⟩
    rw [List.dropLast_eq_take, List.map_take, List.map_take, List.getElem?_take] at hu
    split at hu
    · exact hu
    · cases hu
theorem NewC.last {lo : Nat} {W : World} {A : Option Addr} {c q : Nat} {l : List (List UInt8)} (h : NewC lo W (.slice A (q + 1) c) l) : ∃ ad x, A = some ad ∧ l.getLast? = some x ∧ W.cell? (ad.add q) = some (.string (bs x)) ∧ q + 1 ≤ c := by
  obtain ⟨A', c', e, hc, hS⟩ := h
  injection e with e1 e2 e3
  subst e1 e3
  obtain ⟨ad, e4, h1, h2, h3⟩ := hS.2 (by omega)
  have hq : q < l.length := by omega
  refine ⟨ad, l[q], e4, ?_, h3 q _ (by rw [List.getElem?_map, List.getElem?_map, List.getElem?_eq_getElem hq]; rfl), by omega⟩
  rw [List.getLast?_eq_getElem?, show l.length - 1 = q by omega, List.getElem?_eq_getElem hq]
/-- While the marks are split off. -/
structure SpI (w : World) (l : List (List UInt8)) (xb fk pk : Nat) (v0 v1 v2 v3 v4 v5 v6 v7 v8 v9 v10 vf : Value) (j : Nat) (r : List (List UInt8)) (A : Option Addr) (n c : Nat) (fa fb fc fd : Bool) (W : World) : Prop where
  gb : w.grownBy W (some xb)
  xB : Blk W xb 45 #[v0, v1, v2, v3, v4, v5, v6, v7, v8, v9, v10, .bool fa, .bool fb, .bool fc, .bool fd, vf]
  fB : Blk W fk 9 ((marksL.map bs).map Value.string).toArray
  pB : Blk W pk 141 #[.pointer (some ⟨xb, 11, none⟩), .pointer (some ⟨xb, 12, none⟩), .pointer (some ⟨xb, 13, none⟩), .pointer (some ⟨xb, 14, none⟩)]
  tx : NewC 0 W (.slice A n c) r
  run : runM j r fa fb fc fd = splitM l
theorem SpI.drewN {w : World} {l : List (List UInt8)} {xb fk pk : Nat} {v0 v1 v2 v3 v4 v5 v6 v7 v8 v9 v10 vf : Value} {j : Nat} {r : List (List UInt8)} {A : Option Addr} {n c : Nat} {fa fb fc fd : Bool} {W : World} (h : SpI w l xb fk pk v0 v1 v2 v3 v4 v5 v6 v7 v8 v9 v10 vf j r A n c fa fb fc fd W) (k : Nat) : SpI w l xb fk pk v0 v1 v2 v3 v4 v5 v6 v7 v8 v9 v10 vf j r A n c fa fb fc fd (W.drewN k) :=
  ⟨⟨h.gb.os, h.gb.tape, h.gb.output, h.gb.size, h.gb.block⟩, h.xB, h.fB, h.pB, h.tx, h.run⟩
theorem SpI.drew {w : World} {l : List (List UInt8)} {xb fk pk : Nat} {v0 v1 v2 v3 v4 v5 v6 v7 v8 v9 v10 vf : Value} {j : Nat} {r : List (List UInt8)} {A : Option Addr} {n c : Nat} {fa fb fc fd : Bool} {W : World} (h : SpI w l xb fk pk v0 v1 v2 v3 v4 v5 v6 v7 v8 v9 v10 vf j r A n c fa fb fc fd W) : SpI w l xb fk pk v0 v1 v2 v3 v4 v5 v6 v7 v8 v9 v10 vf j r A n c fa fb fc fd W.drew :=
  ⟨only_drew h.gb, h.xB, h.fB, h.pB, h.tx, h.run⟩
theorem SpI.set {w : World} {l : List (List UInt8)} {xb fk pk o : Nat} {v0 v1 v2 v3 v4 v5 v6 v7 v8 v9 v10 vf : Value} {j j2 : Nat} {r r2 : List (List UInt8)} {A : Option Addr} {n c q : Nat} {fa fb fc fd ga gb gc gd : Bool} {W : World} (h : SpI w l xb fk pk v0 v1 v2 v3 v4 v5 v6 v7 v8 v9 v10 vf j r A n c fa fb fc fd W) (hf : xb ≠ fk) (hp : xb ≠ pk) (ho : 11 ≤ o ∧ o < 15)
    (hs : ∀ W, Blk W xb 45 #[v0, v1, v2, v3, v4, v5, v6, v7, v8, v9, v10, .bool fa, .bool fb, .bool fc, .bool fd, vf] → Blk (W.setCell ⟨xb, o, none⟩ (.bool true)) xb 45 #[v0, v1, v2, v3, v4, v5, v6, v7, v8, v9, v10, .bool ga, .bool gb, .bool gc, .bool gd, vf]) (ht : NewC 0 W (.slice A q c) r2) (hr : runM j2 r2 ga gb gc gd = splitM l) : SpI w l xb fk pk v0 v1 v2 v3 v4 v5 v6 v7 v8 v9 v10 vf j2 r2 A q c ga gb gc gd (W.setCell ⟨xb, o, none⟩ (.bool true)) := by
  have hc : ∃ b, W.cell? ⟨xb, o, none⟩ = some (.bool b) := by
    rw [h.xB.cell o]
    obtain ⟨h1, h2⟩ := ho
    obtain rfl | rfl | rfl | rfl : o = 11 ∨ o = 12 ∨ o = 13 ∨ o = 14 := by omega
    · exact ⟨fa, rfl⟩
    · exact ⟨fb, rfl⟩
    · exact ⟨fc, rfl⟩
    · exact ⟨fd, rfl⟩
  obtain ⟨b, hc⟩ := hc
  exact ⟨only_setCell h.gb (.inl rfl) _, hs W h.xB, h.fB.far (p := ⟨xb, o, none⟩) (Ne.symm hf) _, h.pB.far (p := ⟨xb, o, none⟩) (Ne.symm hp) _, ht.setNS hc (fun s e => by cases e) _, hr⟩
/-- What split answers. -/
def SplitP (w : World) (l : List (List UInt8)) (xb : Nat) (v0 v1 v2 v3 v4 v5 v6 v7 v8 v9 v10 vf : Value) (A : Option Addr) (c : Nat) (e : Ending) (w' : World) : Prop :=
  ∃ n, e = .returned (.tuple #[.slice A n c, .bool (!markedL (splitM l).rest)]) ∧ NewC 0 w' (.slice A n c) (splitM l).rest ∧ Blk w' xb 45 #[v0, v1, v2, v3, v4, v5, v6, v7, v8, v9, v10, .bool (splitM l).a, .bool (splitM l).b, .bool (splitM l).c, .bool (splitM l).d, vf] ∧ w.grownBy w' (some xb)
theorem step_call0 {P : Program} {Q : Exit → Act → World → Prop} {ops : Array Oper} {o : Oper} {a : Act} {w : World} {f : FuncId} {K : Act → World → Prop} {F : Prop} (hgd : o.guard = none)
    (hr : (execOp a.eval o).run P w = .ok (.enter f #[]) w) {post : Ending → World → Prop} (hc : Calls P f #[] w post) (h : ∀ e w', post e w' → ∃ r, e = .returned r ∧ K (a.put o.dst r) w') : if Region.wanted o (yielded ops a.tmps) = true then Oper.wp P o a w K Q else F := by
  rw [if_pos (by simp [Region.wanted, hgd])]
  unfold Oper.wp
  rw [hr, Oper.upon_enter]
  refine hc.mono fun e w' hp => ?_
  obtain ⟨r, rfl, hk⟩ := h e w' hp
  exact hk
theorem call4 {ts : Array TypeId} (o : Oper) (ho : o.op = .call { callee := .value (.func 88), args := #[], argTypes := ts }) (a : Act) (w : World) : (execOp a.eval o).run Tryz.prog w = .ok (.enter 88 #[]) w := by
  obtain ⟨d, op, t, p, af, gd⟩ := o
  simp only at ho
  subst ho
  have h1 : a.eval (.func 88) = .func (.func 88) #[] #[] := rfl
  go_simp
theorem bldP4 {x0 x1 x2 x3 : Operand} {p0 p1 p2 p3 : Option Addr} (o : Oper) (ho : o.op = .buildSlice 142 4 #[(0, x0), (1, x1), (2, x2), (3, x3)]) (ρ : Operand → Value) (h0 : ρ x0 = .pointer p0) (h1 : ρ x1 = .pointer p1) (h2 : ρ x2 = .pointer p2) (h3 : ρ x3 = .pointer p3) (w : World) :
    (execOp ρ o).run Tryz.prog w = .ok (.value (.slice (some ⟨w.heap.size, 0, none⟩) 4 4)) (w.alloc (.cells #[.pointer p0, .pointer p1, .pointer p2, .pointer p3] 141)) := by
  obtain ⟨d, op, t, p, af, gd⟩ := o
  simp only at ho
  subst ho
  go_simp
set_option maxHeartbeats 8000000 in
set_option maxRecDepth 100000 in
theorem split16_any {w : World} {l : List (List UInt8)} {xb : Nat} {v0 v1 v2 v3 v4 v5 v6 v7 v8 v9 v10 vf : Value} {A : Option Addr} {n0 c : Nat} (h : NewC 0 w (.slice A n0 c) l) (hll : l.length ≤ 1000000) (hX : Blk w xb 45 #[v0, v1, v2, v3, v4, v5, v6, v7, v8, v9, v10, .bool false, .bool false, .bool false, .bool false, vf]) :
    Calls Tryz.prog 51 #[.slice A n0 c, .pointer (some ⟨xb, 0, none⟩)] w (SplitP w l xb v0 v1 v2 v3 v4 v5 v6 v7 v8 v9 v10 vf A c) := by
  have H4 := hide (fun W => four_any W)
  have HX := hide (And.intro h (And.intro hX hll))
  clear h hX hll
  go_enter Tryz.func51, Tryz.ntmps51
  go_upto_region 1 with fail
  go_cut [6, 7] (fun v6 v7 wx => ∃ fk pk, v6 = .slice (some ⟨fk, 0, none⟩) 4 4 ∧ v7 = .slice (some ⟨pk, 0, none⟩) 4 4 ∧ Hid (Blk wx fk 9 ((marksL.map bs).map Value.string).toArray ∧ Blk wx pk 141 #[.pointer (some ⟨xb, 11, none⟩), .pointer (some ⟨xb, 12, none⟩), .pointer (some ⟨xb, 13, none⟩), .pointer (some ⟨xb, 14, none⟩)] ∧ Below w.heap.size w wx ∧ w.heap.size ≤ fk ∧ w.heap.size ≤ pk))
  case first =>
    as_aux_lemma =>
      refine wp_region_E (fun _ => True) (fun _ => false) (by kernel_rfl) ?_
      obtain ⟨Wd, hWd⟩ : ∃ Wd, Wd = w.drew := ⟨_, rfl⟩
      have hbd : Below w.heap.size w Wd := by rw [hWd]; exact (Below.refl _ _).drew
      rw [← hWd]
      clear hWd
      refine wpAnyE_takeY (i := 1) (oi := ?_) (v := .pointer (some ⟨xb, 0, none⟩)) ?_ ?_ ?_ ?_ ?_ ?_ ?_ ?_
      rotate_left 1
      · (first | (simp only [List.getElem?_toArray, List.getElem?_cons_succ, List.getElem?_cons_zero]; exact rfl) | exact rfl)
      · kernel_rfl
      · kernel_rfl
      · kernel_rfl
      · rfl
      · exact fun _ _ _ h => h
      · exact Or.inl ⟨by rfl, fun w _ => by go_simp⟩
      try simp only [Act.put, List.setIfInBounds_toArray, List.set_cons_zero, List.set_cons_succ]
      refine wpAnyE_takeY (i := 2) (oi := ?_) (v := .pointer (some ⟨xb, 0, none⟩)) ?_ ?_ ?_ ?_ ?_ ?_ ?_ ?_
      rotate_left 1
      · (first | (simp only [List.getElem?_toArray, List.getElem?_cons_succ, List.getElem?_cons_zero]; exact rfl) | exact rfl)
      · kernel_rfl
      · kernel_rfl
      · kernel_rfl
      · rfl
      · exact fun _ _ _ h => h
      · exact Or.inl ⟨by rfl, fun w _ => by go_simp⟩
      try simp only [Act.put, List.setIfInBounds_toArray, List.set_cons_zero, List.set_cons_succ]
      refine wpAnyE_takeY (i := 3) (oi := ?_) (v := .pointer (some ⟨xb, 11, none⟩)) ?_ ?_ ?_ ?_ ?_ ?_ ?_ ?_
      rotate_left 1
      · (first | (simp only [List.getElem?_toArray, List.getElem?_cons_succ, List.getElem?_cons_zero]; exact rfl) | exact rfl)
      · kernel_rfl
      · kernel_rfl
      · kernel_rfl
      · rfl
      · exact fun _ _ _ h => h
      · exact Or.inl ⟨by rfl, fun w _ => by go_simp⟩
      try simp only [Act.put, List.setIfInBounds_toArray, List.set_cons_zero, List.set_cons_succ]
      refine wpAnyE_takeY (i := 4) (oi := ?_) (v := .pointer (some ⟨xb, 0, none⟩)) ?_ ?_ ?_ ?_ ?_ ?_ ?_ ?_
      rotate_left 1
      · (first | (simp only [List.getElem?_toArray, List.getElem?_cons_succ, List.getElem?_cons_zero]; exact rfl) | exact rfl)
      · kernel_rfl
      · kernel_rfl
      · kernel_rfl
      · rfl
      · exact fun _ _ _ h => h
      · exact Or.inl ⟨by rfl, fun w _ => by go_simp⟩
      try simp only [Act.put, List.setIfInBounds_toArray, List.set_cons_zero, List.set_cons_succ]
      refine wpAnyE_takeY (i := 5) (oi := ?_) (v := .pointer (some ⟨xb, 0, none⟩)) ?_ ?_ ?_ ?_ ?_ ?_ ?_ ?_
      rotate_left 1
      · (first | (simp only [List.getElem?_toArray, List.getElem?_cons_succ, List.getElem?_cons_zero]; exact rfl) | exact rfl)
      · kernel_rfl
      · kernel_rfl
      · kernel_rfl
      · rfl
      · exact fun _ _ _ h => h
      · exact Or.inl ⟨by rfl, fun w _ => by go_simp⟩
      try simp only [Act.put, List.setIfInBounds_toArray, List.set_cons_zero, List.set_cons_succ]
      refine wpAnyE_takeY (i := 6) (oi := ?_) (v := .pointer (some ⟨xb, 12, none⟩)) ?_ ?_ ?_ ?_ ?_ ?_ ?_ ?_
      rotate_left 1
      · (first | (simp only [List.getElem?_toArray, List.getElem?_cons_succ, List.getElem?_cons_zero]; exact rfl) | exact rfl)
      · kernel_rfl
      · kernel_rfl
      · kernel_rfl
      · rfl
      · exact fun _ _ _ h => h
      · exact Or.inl ⟨by rfl, fun w _ => by go_simp⟩
      try simp only [Act.put, List.setIfInBounds_toArray, List.set_cons_zero, List.set_cons_succ]
      refine wpAnyE_takeY (i := 7) (oi := ?_) (v := .pointer (some ⟨xb, 0, none⟩)) ?_ ?_ ?_ ?_ ?_ ?_ ?_ ?_
      rotate_left 1
      · (first | (simp only [List.getElem?_toArray, List.getElem?_cons_succ, List.getElem?_cons_zero]; exact rfl) | exact rfl)
      · kernel_rfl
      · kernel_rfl
      · kernel_rfl
      · rfl
      · exact fun _ _ _ h => h
      · exact Or.inl ⟨by rfl, fun w _ => by go_simp⟩
      try simp only [Act.put, List.setIfInBounds_toArray, List.set_cons_zero, List.set_cons_succ]
      refine wpAnyE_takeY (i := 8) (oi := ?_) (v := .pointer (some ⟨xb, 0, none⟩)) ?_ ?_ ?_ ?_ ?_ ?_ ?_ ?_
      rotate_left 1
      · (first | (simp only [List.getElem?_toArray, List.getElem?_cons_succ, List.getElem?_cons_zero]; exact rfl) | exact rfl)
      · kernel_rfl
      · kernel_rfl
      · kernel_rfl
      · rfl
      · exact fun _ _ _ h => h
      · exact Or.inl ⟨by rfl, fun w _ => by go_simp⟩
      try simp only [Act.put, List.setIfInBounds_toArray, List.set_cons_zero, List.set_cons_succ]
      refine wpAnyE_takeY (i := 9) (oi := ?_) (v := .pointer (some ⟨xb, 13, none⟩)) ?_ ?_ ?_ ?_ ?_ ?_ ?_ ?_
      rotate_left 1
      · (first | (simp only [List.getElem?_toArray, List.getElem?_cons_succ, List.getElem?_cons_zero]; exact rfl) | exact rfl)
      · kernel_rfl
      · kernel_rfl
      · kernel_rfl
      · rfl
      · exact fun _ _ _ h => h
      · exact Or.inl ⟨by rfl, fun w _ => by go_simp⟩
      try simp only [Act.put, List.setIfInBounds_toArray, List.set_cons_zero, List.set_cons_succ]
      refine wpAnyE_takeY (i := 10) (oi := ?_) (v := .pointer (some ⟨xb, 0, none⟩)) ?_ ?_ ?_ ?_ ?_ ?_ ?_ ?_
      rotate_left 1
      · (first | (simp only [List.getElem?_toArray, List.getElem?_cons_succ, List.getElem?_cons_zero]; exact rfl) | exact rfl)
      · kernel_rfl
      · kernel_rfl
      · kernel_rfl
      · rfl
      · exact fun _ _ _ h => h
      · exact Or.inl ⟨by rfl, fun w _ => by go_simp⟩
      try simp only [Act.put, List.setIfInBounds_toArray, List.set_cons_zero, List.set_cons_succ]
      refine wpAnyE_takeY (i := 11) (oi := ?_) (v := .pointer (some ⟨xb, 0, none⟩)) ?_ ?_ ?_ ?_ ?_ ?_ ?_ ?_
      rotate_left 1
      · (first | (simp only [List.getElem?_toArray, List.getElem?_cons_succ, List.getElem?_cons_zero]; exact rfl) | exact rfl)
      · kernel_rfl
      · kernel_rfl
      · kernel_rfl
      · rfl
      · exact fun _ _ _ h => h
      · exact Or.inl ⟨by rfl, fun w _ => by go_simp⟩
      try simp only [Act.put, List.setIfInBounds_toArray, List.set_cons_zero, List.set_cons_succ]
      refine wpAnyE_takeY (i := 12) (oi := ?_) (v := .pointer (some ⟨xb, 14, none⟩)) ?_ ?_ ?_ ?_ ?_ ?_ ?_ ?_
      rotate_left 1
      · (first | (simp only [List.getElem?_toArray, List.getElem?_cons_succ, List.getElem?_cons_zero]; exact rfl) | exact rfl)
      · kernel_rfl
      · kernel_rfl
      · kernel_rfl
      · rfl
      · exact fun _ _ _ h => h
      · exact Or.inl ⟨by rfl, fun w _ => by go_simp⟩
      try simp only [Act.put, List.setIfInBounds_toArray, List.set_cons_zero, List.set_cons_succ]
      refine wpAnyE_ready (rs := [0, 13]) (by kernel_rfl) (by simp) ?_
      refine AllReadyE.late (o := ?_) ?_ rfl (fun K hK => ?_) (AllReadyE.late (o := ?_) ?_ rfl (fun K hK => ?_) AllReadyE.nil)
      rotate_left 1
      · (first | (simp only [List.getElem?_toArray, List.getElem?_cons_succ, List.getElem?_cons_zero]; exact rfl) | exact rfl)
      rotate_left 2
      · (first | (simp only [List.getElem?_toArray, List.getElem?_cons_succ, List.getElem?_cons_zero]; exact rfl) | exact rfl)
      rotate_left 1
      · refine step_call0 (f := 88) rfl (call4 _ rfl _ _) (H4.out _) ?_
        rintro e w1 ⟨rfl, hbk, hb1⟩
        refine ⟨_, rfl, ?_⟩
        refine hK.out _ _ ?_
        clear hK K
        try simp only [Act.put, List.setIfInBounds_toArray, List.set_cons_zero, List.set_cons_succ]
        refine wpAnyE_takeY (i := 14) (oi := ?_) (v := .slice (some ⟨Wd.heap.size, 0, none⟩) 4 4) ?_ ?_ ?_ ?_ ?_ ?_ ?_ ?_
        rotate_left 1
        · (first | (simp only [List.getElem?_toArray, List.getElem?_cons_succ, List.getElem?_cons_zero]; exact rfl) | exact rfl)
        · kernel_rfl
        · kernel_rfl
        · kernel_rfl
        · rfl
        · exact fun _ _ _ h => h
        · exact Or.inl ⟨by rfl, fun w _ => by go_simp⟩
        try simp only [Act.put, List.setIfInBounds_toArray, List.set_cons_zero, List.set_cons_succ]
        refine wpAnyE_ready (rs := [13]) (by kernel_rfl) (by simp) ?_
        refine AllReadyE.late (o := ?_) ?_ rfl (fun K hK => ?_) AllReadyE.nil
        rotate_left 1
        · (first | (simp only [List.getElem?_toArray, List.getElem?_cons_succ, List.getElem?_cons_zero]; exact rfl) | exact rfl)
        refine step_eqA rfl (bldP4 (x0 := .tmp 13) (x1 := .tmp 16) (x2 := .tmp 19) (x3 := .tmp 22) (p0 := some ⟨xb, 11, none⟩) (p1 := some ⟨xb, 12, none⟩) (p2 := some ⟨xb, 13, none⟩) (p3 := some ⟨xb, 14, none⟩) _ rfl _ (by rfl) (by rfl) (by rfl) (by rfl) _) ?_
        refine hK.out _ _ ?_
        clear hK K
        try simp only [Act.put, List.setIfInBounds_toArray, List.set_cons_zero, List.set_cons_succ]
        refine wpAnyE_takeY (i := 15) (oi := ?_) (v := .slice (some ⟨w1.heap.size, 0, none⟩) 4 4) ?_ ?_ ?_ ?_ ?_ ?_ ?_ ?_
        rotate_left 1
        · (first | (simp only [List.getElem?_toArray, List.getElem?_cons_succ, List.getElem?_cons_zero]; exact rfl) | exact rfl)
        · kernel_rfl
        · kernel_rfl
        · kernel_rfl
        · rfl
        · exact fun _ _ _ h => h
        · exact Or.inl ⟨by rfl, fun w _ => by go_simp⟩
        try simp only [Act.put, List.setIfInBounds_toArray, List.set_cons_zero, List.set_cons_succ]
        refine wpAnyE_done (by kernel_rfl) ?_ _
        go_wp2_with fail
        go_meet
        exact ⟨_, _, rfl, rfl, hide ⟨hbk.alloc _, Blk.new _ _ _, hbd.trans ((hb1.alloc hb1.size _).mono hbd.size), hbd.size, Nat.le_trans hbd.size hb1.size⟩⟩
      · refine step_eqA rfl (bldP4 (x0 := .tmp 13) (x1 := .tmp 16) (x2 := .tmp 19) (x3 := .tmp 22) (p0 := some ⟨xb, 11, none⟩) (p1 := some ⟨xb, 12, none⟩) (p2 := some ⟨xb, 13, none⟩) (p3 := some ⟨xb, 14, none⟩) _ rfl _ (by rfl) (by rfl) (by rfl) (by rfl) _) ?_
        refine hK.out _ _ ?_
        clear hK K
        try simp only [Act.put, List.setIfInBounds_toArray, List.set_cons_zero, List.set_cons_succ]
        refine wpAnyE_ready (rs := [0]) (by kernel_rfl) (by simp) ?_
        refine AllReadyE.late (o := ?_) ?_ rfl (fun K hK => ?_) AllReadyE.nil
        rotate_left 1
        · (first | (simp only [List.getElem?_toArray, List.getElem?_cons_succ, List.getElem?_cons_zero]; exact rfl) | exact rfl)
        refine step_call0 (f := 88) rfl (call4 _ rfl _ _) (H4.out _) ?_
        rintro e w1 ⟨rfl, hbk, hb1⟩
        refine ⟨_, rfl, ?_⟩
        refine hK.out _ _ ?_
        clear hK K
        try simp only [Act.put, List.setIfInBounds_toArray, List.set_cons_zero, List.set_cons_succ]
        refine wpAnyE_takeY (i := 14) (oi := ?_) (v := .slice (some ⟨(Wd.alloc (.cells #[.pointer (some ⟨xb, 11, none⟩), .pointer (some ⟨xb, 12, none⟩), .pointer (some ⟨xb, 13, none⟩), .pointer (some ⟨xb, 14, none⟩)] 141)).heap.size, 0, none⟩) 4 4) ?_ ?_ ?_ ?_ ?_ ?_ ?_ ?_
        rotate_left 1
        · (first | (simp only [List.getElem?_toArray, List.getElem?_cons_succ, List.getElem?_cons_zero]; exact rfl) | exact rfl)
        · kernel_rfl
        · kernel_rfl
        · kernel_rfl
        · rfl
        · exact fun _ _ _ h => h
        · exact Or.inl ⟨by rfl, fun w _ => by go_simp⟩
        try simp only [Act.put, List.setIfInBounds_toArray, List.set_cons_zero, List.set_cons_succ]
        refine wpAnyE_takeY (i := 15) (oi := ?_) (v := .slice (some ⟨Wd.heap.size, 0, none⟩) 4 4) ?_ ?_ ?_ ?_ ?_ ?_ ?_ ?_
        rotate_left 1
        · (first | (simp only [List.getElem?_toArray, List.getElem?_cons_succ, List.getElem?_cons_zero]; exact rfl) | exact rfl)
        · kernel_rfl
        · kernel_rfl
        · kernel_rfl
        · rfl
        · exact fun _ _ _ h => h
        · exact Or.inl ⟨by rfl, fun w _ => by go_simp⟩
        try simp only [Act.put, List.setIfInBounds_toArray, List.set_cons_zero, List.set_cons_succ]
        refine wpAnyE_done (by kernel_rfl) ?_ _
        go_wp2_with fail
        go_meet
        exact ⟨_, _, rfl, rfl, hide ⟨hbk, (Blk.new _ _ _).below hb1 (by simp), hbd.trans (((Below.refl _ _).alloc (Nat.le_refl _) _).trans (hb1.mono (by simp)) |>.mono hbd.size), by have := hbd.size; simp only [World.size_alloc]; omega, hbd.size⟩⟩
  case rest =>
    obtain ⟨fk, pk, rfl, rfl, HF⟩ := hcut
    have hn06 : n0 ≤ 1000000 := by
      obtain ⟨_, _, e, _⟩ := HX.out.1
      injection e with _ e2 _
      rw [e2]
      exact HX.out.2.2
    have HI0 := hide (show SpI w l xb fk pk v0 v1 v2 v3 v4 v5 v6 v7 v8 v9 v10 vf 4 l A n0 c false false false false wc from ⟨only_of_below HF.out.2.2.1 _, HX.out.2.1.below HF.out.2.2.1 HX.out.2.1.lt, HF.out.1, HF.out.2.1, HX.out.1.belowW HF.out.2.2.1, runM_4 l⟩)
    have hfx : xb ≠ fk := by have := HX.out.2.1.lt; have := HF.out.2.2.2.1; omega
    have hpx : xb ≠ pk := by have := HX.out.2.1.lt; have := HF.out.2.2.2.2; omega
    clear HF
    go_wp2_with fail
    go_loopw [0, 8, 9] (fun sl0 vi sl9 wr => ∃ (j n : Nat) (r : List (List UInt8)) (fa fb fc fd : Bool), sl0 = .slice A n c ∧ vi = .int .i64 (idxS j) ∧ j ≤ 4 ∧ n ≤ 1000000 ∧ Hid (SpI w l xb fk pk v0 v1 v2 v3 v4 v5 v6 v7 v8 v9 v10 vf j r A n c fa fb fc fd wr)) (fun _ vi _ _ => (intOf vi + 1).toNat)
    case atStart => exact ⟨4, n0, l, false, false, false, false, rfl, rfl, by omega, hn06, HI0⟩
    case round =>
      obtain ⟨j, n, r, fa, fb, fc, fd, rfl, rfl, hj, hn6, HI⟩ := hrel
      clear HI0
      match j, hj, HI with
      | 4, _, HI =>
        rw [show idxS 4 = 3 from rfl]
        have hfb := HI.out.fB.cell 3
        simp [marksL] at hfb
        by_cases hn : n = 0
        · subst hn
          have hr0 : r = [] := by
            obtain ⟨_, _, e, _⟩ := HI.out.tx
            injection e with _ e2 _
            exact List.eq_nil_of_length_eq_zero e2.symm
          have HN := hide (show ∀ k, SpI w l xb fk pk v0 v1 v2 v3 v4 v5 v6 v7 v8 v9 v10 vf 3 r A 0 c fa fb fc fd (wr.drewN k) from fun k => ⟨(HI.out.drewN k).gb, HI.out.xB, HI.out.fB, HI.out.pB, HI.out.tx, (if_neg (show ¬ r.getLast? = some mark3 by rw [hr0]; simp)).symm.trans HI.out.run⟩)
          clear hr0 HI hfb
          go_upto_region 6 with fail
          go_quiet (fail)
          go_wp2_with fail
          exact ⟨⟨3, 0, r, fa, fb, fc, fd, rfl, rfl, by omega, by omega, hide (HN.out _)⟩, by simp [intOf]⟩
        · obtain ⟨q, hq⟩ : ∃ q, n = q + 1 := ⟨n - 1, by omega⟩
          have htx : NewC 0 wr (.slice A (q + 1) c) r := by have := HI.out.tx; rwa [hq] at this
          obtain ⟨ad, x, hA, hx, hcl, hqc⟩ := htx.last
          have hw1 : IntKind.i64.wrap ((n : Int) - 1) = (q : Int) := by rw [wrap_small _ (by omega) (by omega)]; omega
          have hp0 : (0 : Int) < (n : Int) := by omega
          have hp1 : 0 < n := by omega
          have hp2 : decide (0 < n) = true := decide_eq_true hp1
          have hqn : (q : Int) < (n : Int) := by omega
          have hqC : (q : Int) ≤ (c : Int) := by omega
          have hq6 : q ≤ 1000000 := by omega
          clear hq hn
          by_cases hm : x = mark3
          · have e1 : ((bs x).toList == (bs mark3).toList) = true := by rw [hm]; exact beq_self_eq_true _
            have HR := hide (show runM 4 r fa fb fc fd = runM 3 r.dropLast fa fb fc true from if_pos (by rw [hx, hm]))
            have HN := hide (show ∀ k, SpI w l xb fk pk v0 v1 v2 v3 v4 v5 v6 v7 v8 v9 v10 vf 3 r.dropLast A q c fa fb fc true ((wr.drewN k).drew.setCell ⟨xb, 14, none⟩ (.bool true)) from fun k => SpI.set (o := 14) (HI.out.drewN k).drew hfx hpx (by omega) (by intro W hB; simpa using hB.set_ 14 (.bool true)) htx.pre.2 (HR.out.symm.trans HI.out.run))
            have hx0 := HI.out.xB.cell 14
            have hx1 := HI.out.xB.frozen 14
            have hpb := HI.out.pB.cell 3
            simp at hx0 hpb
            rw [hm] at hcl e1
            clear HI hm hx HR htx hn6
            subst hA
            go_upto_region 6 with fail
            go_quiet (fail)
            go_upto_region 7 with fail
            go_region
            go_wp2_with fail
            exact ⟨⟨3, q, r.dropLast, fa, fb, fc, true, by first | rfl | (simp; done), rfl, by omega, hq6, hide (HN.out _)⟩, by simp [intOf]⟩
          · have e1 : ((bs x).toList == (bs mark3).toList) = false := bytes_ne (fun e => hm (bs_inj e))
            have HN := hide (show ∀ k, SpI w l xb fk pk v0 v1 v2 v3 v4 v5 v6 v7 v8 v9 v10 vf 3 r A n c fa fb fc fd (wr.drewN k) from fun k => ⟨(HI.out.drewN k).gb, HI.out.xB, HI.out.fB, HI.out.pB, HI.out.tx, (if_neg (show ¬ r.getLast? = some mark3 by rw [hx]; exact fun e => hm (Option.some.inj e))).symm.trans HI.out.run⟩)
            clear HI hm hx htx
            subst hA
            generalize bs x = sx at hcl e1
            go_upto_region 6 with fail
            go_quiet (fail)
            go_wp2_with fail
            exact ⟨⟨3, n, r, fa, fb, fc, fd, rfl, rfl, by omega, hn6, hide (HN.out _)⟩, by simp [intOf]⟩
      | 3, _, HI =>
        rw [show idxS 3 = 2 from rfl]
        have hfb := HI.out.fB.cell 2
        simp [marksL] at hfb
        by_cases hn : n = 0
        · subst hn
          have hr0 : r = [] := by
            obtain ⟨_, _, e, _⟩ := HI.out.tx
            injection e with _ e2 _
            exact List.eq_nil_of_length_eq_zero e2.symm
          have HN := hide (show ∀ k, SpI w l xb fk pk v0 v1 v2 v3 v4 v5 v6 v7 v8 v9 v10 vf 2 r A 0 c fa fb fc fd (wr.drewN k) from fun k => ⟨(HI.out.drewN k).gb, HI.out.xB, HI.out.fB, HI.out.pB, HI.out.tx, (if_neg (show ¬ r.getLast? = some mark2 by rw [hr0]; simp)).symm.trans HI.out.run⟩)
          clear hr0 HI hfb
          go_upto_region 6 with fail
          go_quiet (fail)
          go_wp2_with fail
          exact ⟨⟨2, 0, r, fa, fb, fc, fd, rfl, rfl, by omega, by omega, hide (HN.out _)⟩, by simp [intOf]⟩
        · obtain ⟨q, hq⟩ : ∃ q, n = q + 1 := ⟨n - 1, by omega⟩
          have htx : NewC 0 wr (.slice A (q + 1) c) r := by have := HI.out.tx; rwa [hq] at this
          obtain ⟨ad, x, hA, hx, hcl, hqc⟩ := htx.last
          have hw1 : IntKind.i64.wrap ((n : Int) - 1) = (q : Int) := by rw [wrap_small _ (by omega) (by omega)]; omega
          have hp0 : (0 : Int) < (n : Int) := by omega
          have hp1 : 0 < n := by omega
          have hp2 : decide (0 < n) = true := decide_eq_true hp1
          have hqn : (q : Int) < (n : Int) := by omega
          have hqC : (q : Int) ≤ (c : Int) := by omega
          have hq6 : q ≤ 1000000 := by omega
          clear hq hn
          by_cases hm : x = mark2
          · have e1 : ((bs x).toList == (bs mark2).toList) = true := by rw [hm]; exact beq_self_eq_true _
            have HR := hide (show runM 3 r fa fb fc fd = runM 2 r.dropLast fa fb true fd from if_pos (by rw [hx, hm]))
            have HN := hide (show ∀ k, SpI w l xb fk pk v0 v1 v2 v3 v4 v5 v6 v7 v8 v9 v10 vf 2 r.dropLast A q c fa fb true fd ((wr.drewN k).drew.setCell ⟨xb, 13, none⟩ (.bool true)) from fun k => SpI.set (o := 13) (HI.out.drewN k).drew hfx hpx (by omega) (by intro W hB; simpa using hB.set_ 13 (.bool true)) htx.pre.2 (HR.out.symm.trans HI.out.run))
            have hx0 := HI.out.xB.cell 13
            have hx1 := HI.out.xB.frozen 13
            have hpb := HI.out.pB.cell 2
            simp at hx0 hpb
            rw [hm] at hcl e1
            clear HI hm hx HR htx hn6
            subst hA
            go_upto_region 6 with fail
            go_quiet (fail)
            go_upto_region 7 with fail
            go_region
            go_wp2_with fail
            exact ⟨⟨2, q, r.dropLast, fa, fb, true, fd, by first | rfl | (simp; done), rfl, by omega, hq6, hide (HN.out _)⟩, by simp [intOf]⟩
          · have e1 : ((bs x).toList == (bs mark2).toList) = false := bytes_ne (fun e => hm (bs_inj e))
            have HN := hide (show ∀ k, SpI w l xb fk pk v0 v1 v2 v3 v4 v5 v6 v7 v8 v9 v10 vf 2 r A n c fa fb fc fd (wr.drewN k) from fun k => ⟨(HI.out.drewN k).gb, HI.out.xB, HI.out.fB, HI.out.pB, HI.out.tx, (if_neg (show ¬ r.getLast? = some mark2 by rw [hx]; exact fun e => hm (Option.some.inj e))).symm.trans HI.out.run⟩)
            clear HI hm hx htx
            subst hA
            generalize bs x = sx at hcl e1
            go_upto_region 6 with fail
            go_quiet (fail)
            go_wp2_with fail
            exact ⟨⟨2, n, r, fa, fb, fc, fd, rfl, rfl, by omega, hn6, hide (HN.out _)⟩, by simp [intOf]⟩
      | 2, _, HI =>
        rw [show idxS 2 = 1 from rfl]
        have hfb := HI.out.fB.cell 1
        simp [marksL] at hfb
        by_cases hn : n = 0
        · subst hn
          have hr0 : r = [] := by
            obtain ⟨_, _, e, _⟩ := HI.out.tx
            injection e with _ e2 _
            exact List.eq_nil_of_length_eq_zero e2.symm
          have HN := hide (show ∀ k, SpI w l xb fk pk v0 v1 v2 v3 v4 v5 v6 v7 v8 v9 v10 vf 1 r A 0 c fa fb fc fd (wr.drewN k) from fun k => ⟨(HI.out.drewN k).gb, HI.out.xB, HI.out.fB, HI.out.pB, HI.out.tx, (if_neg (show ¬ r.getLast? = some mark1 by rw [hr0]; simp)).symm.trans HI.out.run⟩)
          clear hr0 HI hfb
          go_upto_region 6 with fail
          go_quiet (fail)
          go_wp2_with fail
          exact ⟨⟨1, 0, r, fa, fb, fc, fd, rfl, rfl, by omega, by omega, hide (HN.out _)⟩, by simp [intOf]⟩
        · obtain ⟨q, hq⟩ : ∃ q, n = q + 1 := ⟨n - 1, by omega⟩
          have htx : NewC 0 wr (.slice A (q + 1) c) r := by have := HI.out.tx; rwa [hq] at this
          obtain ⟨ad, x, hA, hx, hcl, hqc⟩ := htx.last
          have hw1 : IntKind.i64.wrap ((n : Int) - 1) = (q : Int) := by rw [wrap_small _ (by omega) (by omega)]; omega
          have hp0 : (0 : Int) < (n : Int) := by omega
          have hp1 : 0 < n := by omega
          have hp2 : decide (0 < n) = true := decide_eq_true hp1
          have hqn : (q : Int) < (n : Int) := by omega
          have hqC : (q : Int) ≤ (c : Int) := by omega
          have hq6 : q ≤ 1000000 := by omega
          clear hq hn
          by_cases hm : x = mark1
          · have e1 : ((bs x).toList == (bs mark1).toList) = true := by rw [hm]; exact beq_self_eq_true _
            have HR := hide (show runM 2 r fa fb fc fd = runM 1 r.dropLast fa true fc fd from if_pos (by rw [hx, hm]))
            have HN := hide (show ∀ k, SpI w l xb fk pk v0 v1 v2 v3 v4 v5 v6 v7 v8 v9 v10 vf 1 r.dropLast A q c fa true fc fd ((wr.drewN k).drew.setCell ⟨xb, 12, none⟩ (.bool true)) from fun k => SpI.set (o := 12) (HI.out.drewN k).drew hfx hpx (by omega) (by intro W hB; simpa using hB.set_ 12 (.bool true)) htx.pre.2 (HR.out.symm.trans HI.out.run))
            have hx0 := HI.out.xB.cell 12
            have hx1 := HI.out.xB.frozen 12
            have hpb := HI.out.pB.cell 1
            simp at hx0 hpb
            rw [hm] at hcl e1
            clear HI hm hx HR htx hn6
            subst hA
            go_upto_region 6 with fail
            go_quiet (fail)
            go_upto_region 7 with fail
            go_region
            go_wp2_with fail
            exact ⟨⟨1, q, r.dropLast, fa, true, fc, fd, by first | rfl | (simp; done), rfl, by omega, hq6, hide (HN.out _)⟩, by simp [intOf]⟩
          · have e1 : ((bs x).toList == (bs mark1).toList) = false := bytes_ne (fun e => hm (bs_inj e))
            have HN := hide (show ∀ k, SpI w l xb fk pk v0 v1 v2 v3 v4 v5 v6 v7 v8 v9 v10 vf 1 r A n c fa fb fc fd (wr.drewN k) from fun k => ⟨(HI.out.drewN k).gb, HI.out.xB, HI.out.fB, HI.out.pB, HI.out.tx, (if_neg (show ¬ r.getLast? = some mark1 by rw [hx]; exact fun e => hm (Option.some.inj e))).symm.trans HI.out.run⟩)
            clear HI hm hx htx
            subst hA
            generalize bs x = sx at hcl e1
            go_upto_region 6 with fail
            go_quiet (fail)
            go_wp2_with fail
            exact ⟨⟨1, n, r, fa, fb, fc, fd, rfl, rfl, by omega, hn6, hide (HN.out _)⟩, by simp [intOf]⟩
      | 1, _, HI =>
        rw [show idxS 1 = 0 from rfl]
        have hfb := HI.out.fB.cell 0
        simp [marksL] at hfb
        by_cases hn : n = 0
        · subst hn
          have hr0 : r = [] := by
            obtain ⟨_, _, e, _⟩ := HI.out.tx
            injection e with _ e2 _
            exact List.eq_nil_of_length_eq_zero e2.symm
          have HN := hide (show ∀ k, SpI w l xb fk pk v0 v1 v2 v3 v4 v5 v6 v7 v8 v9 v10 vf 0 r A 0 c fa fb fc fd (wr.drewN k) from fun k => ⟨(HI.out.drewN k).gb, HI.out.xB, HI.out.fB, HI.out.pB, HI.out.tx, (if_neg (show ¬ r.getLast? = some mark0 by rw [hr0]; simp)).symm.trans HI.out.run⟩)
          clear hr0 HI hfb
          go_upto_region 6 with fail
          go_quiet (fail)
          go_wp2_with fail
          exact ⟨⟨0, 0, r, fa, fb, fc, fd, rfl, rfl, by omega, by omega, hide (HN.out _)⟩, by simp [intOf]⟩
        · obtain ⟨q, hq⟩ : ∃ q, n = q + 1 := ⟨n - 1, by omega⟩
          have htx : NewC 0 wr (.slice A (q + 1) c) r := by have := HI.out.tx; rwa [hq] at this
          obtain ⟨ad, x, hA, hx, hcl, hqc⟩ := htx.last
          have hw1 : IntKind.i64.wrap ((n : Int) - 1) = (q : Int) := by rw [wrap_small _ (by omega) (by omega)]; omega
          have hp0 : (0 : Int) < (n : Int) := by omega
          have hp1 : 0 < n := by omega
          have hp2 : decide (0 < n) = true := decide_eq_true hp1
          have hqn : (q : Int) < (n : Int) := by omega
          have hqC : (q : Int) ≤ (c : Int) := by omega
          have hq6 : q ≤ 1000000 := by omega
          clear hq hn
          by_cases hm : x = mark0
          · have e1 : ((bs x).toList == (bs mark0).toList) = true := by rw [hm]; exact beq_self_eq_true _
            have HR := hide (show runM 1 r fa fb fc fd = runM 0 r.dropLast true fb fc fd from if_pos (by rw [hx, hm]))
            have HN := hide (show ∀ k, SpI w l xb fk pk v0 v1 v2 v3 v4 v5 v6 v7 v8 v9 v10 vf 0 r.dropLast A q c true fb fc fd ((wr.drewN k).drew.setCell ⟨xb, 11, none⟩ (.bool true)) from fun k => SpI.set (o := 11) (HI.out.drewN k).drew hfx hpx (by omega) (by intro W hB; simpa using hB.set_ 11 (.bool true)) htx.pre.2 (HR.out.symm.trans HI.out.run))
            have hx0 := HI.out.xB.cell 11
            have hx1 := HI.out.xB.frozen 11
            have hpb := HI.out.pB.cell 0
            simp at hx0 hpb
            rw [hm] at hcl e1
            clear HI hm hx HR htx hn6
            subst hA
            go_upto_region 6 with fail
            go_quiet (fail)
            go_upto_region 7 with fail
            go_region
            go_wp2_with fail
            exact ⟨⟨0, q, r.dropLast, true, fb, fc, fd, by first | rfl | (simp; done), rfl, by omega, hq6, hide (HN.out _)⟩, by simp [intOf]⟩
          · have e1 : ((bs x).toList == (bs mark0).toList) = false := bytes_ne (fun e => hm (bs_inj e))
            have HN := hide (show ∀ k, SpI w l xb fk pk v0 v1 v2 v3 v4 v5 v6 v7 v8 v9 v10 vf 0 r A n c fa fb fc fd (wr.drewN k) from fun k => ⟨(HI.out.drewN k).gb, HI.out.xB, HI.out.fB, HI.out.pB, HI.out.tx, (if_neg (show ¬ r.getLast? = some mark0 by rw [hx]; exact fun e => hm (Option.some.inj e))).symm.trans HI.out.run⟩)
            clear HI hm hx htx
            subst hA
            generalize bs x = sx at hcl e1
            go_upto_region 6 with fail
            go_quiet (fail)
            go_wp2_with fail
            exact ⟨⟨0, n, r, fa, fb, fc, fd, rfl, rfl, by omega, hn6, hide (HN.out _)⟩, by simp [intOf]⟩
      | 0, _, HI =>
        rw [show idxS 0 = -1 from rfl]
        have hrun : (⟨r, fa, fb, fc, fd⟩ : SplM) = splitM l := HI.out.run
        have hrl : r.length ≤ 1000000 := by
          have h1 : r = (splitM l).rest := congrArg SplM.rest hrun
          have h2 := congrArg List.length (splitM_app l)
          rw [List.length_append, ← h1] at h2
          have := HX.out.2.2
          omega
        obtain ⟨A', c', e, hcc, hSS⟩ := id HI.out.tx
        have hnr : n = r.length := by injection e
        have ht := HI.out.tx.txc.1
        have HK := hide (show Calls Tryz.prog 38 #[.slice A n c] wr (fun e w' => e = .returned (.bool (markedL r)) ∧ Below wr.heap.size wr w') from by rw [hnr] at ht ⊢; exact kmarked_any ht (by omega))
        have HR := hide hrun
        clear e hcc hSS hnr ht hrl hrun
        go_wp2_with (first
          | (go_at_call 38; refine HK.out.mono ?_; rintro e w5 ⟨rfl, hb5⟩)
          | fail)
        go_ret2
        refine ⟨n, ?_, ?_, ?_, ?_⟩
        · rw [← HR.out]
          rfl
        · rw [← HR.out]
          exact HI.out.tx.belowW hb5
        · rw [← HR.out]
          exact HI.out.xB.below hb5 HI.out.xB.lt
        · exact only_trans HI.out.gb (only_of_below hb5 _)
      | p + 5, hj, _ => omega
end Go.Proofs.YtjaipdenahlheaaGreatDoor
