/-
  Several of my texts in one: SeF, SeO.
-/
import Derived.Test.YtmgfcjpifkoahaaGreatDoorKSeK
set_option linter.unusedVariables false
set_option linter.unusedSimpArgs false
namespace Go.Proofs.YtmgfcjpifkoahaaGreatDoor
open Go.RowKit Go.ChangeShapes Go.WideShapes Go.Sort
section
variable {w : World}
theorem ok1_any {bx : Nat} {k : Int} {b : Bool} (hc : w.cell? ⟨bx, 0, none⟩ = some (.int .i64 k)) (hb : (k != 9) = b) : Calls Tryz.prog 102 #[.pointer (some ⟨bx, 0, none⟩)] w (fun e w' => e = .returned (.bool b) ∧ w = w') := by
 go_enter Tryz.func102, Tryz.ntmps102
 go_wp2_with fail
 go_ret
 exact ⟨by rw [← hb]; rfl, rfl⟩
set_option maxRecDepth 100000 in
theorem ok2_any {bx A nA cA : Nat} {p q : Addr} {j m b0 : Int} {n : Nat} {r : Bool} (h4 : w.cell? ⟨bx, 4, none⟩ = some (.slice (some ⟨A, 0, none⟩) nA cA)) (hA : 0 < nA) (hj : w.cell? ⟨A, 0, none⟩ = some (.int .i64 j)) (h2 : w.cell? ⟨bx, 2, none⟩ = some (.int .i64 b0))
  (hp : w.cell? p = some (.int .i64 m)) (hq : w.cell? q = some (.int .u32 n)) (hn : n < 4294967296) (hr : r = ((j != m) || (b0 != (n : Int)))) : Calls Tryz.prog 103 #[.pointer (some ⟨bx, 0, none⟩), .pointer (some p), .pointer (some q)] w (fun e w' => e = .returned (.bool r) ∧ Below w.heap.size w w') := by
 have hA0 : (0 : Int) < (nA : Int) := by omega
 have wn : IntKind.i64.wrap (n : Int) = n := by rw [IntKind.wrap_i64]; omega
 have Hr := hide hr
 clear hr
 cases e1 : (j != m) with
 | true =>
  rw [e1, Bool.true_or] at Hr
  go_enter Tryz.func103, Tryz.ntmps103
  go_upto_region 1 with fail
  go_quiet (fail)
  go_wp2_with fail
  go_ret
  exact ⟨by rw [Hr.out]; rfl, by exact bel_by⟩
 | false =>
  rw [e1, Bool.false_or] at Hr
  go_enter Tryz.func103, Tryz.ntmps103
  go_upto_region 1 with fail
  go_quiet (fail)
  go_wp2_with fail
  go_ret
  exact ⟨by rw [Hr.out]; rfl, by exact bel_by⟩
theorem cell_new1 (w : World) (t : TypeId) (x y : Value) : (w.alloc (.cells #[x, y] t)).cell? ⟨w.heap.size, 1, none⟩ = some y := (Blk.new w t #[x, y]).cell 1
structure OfI (w : World) (post : Int → World → Prop) (b1 b2 : Bool) (i : Nat) (wr : World) : Prop where
 le : i ≤ 3
 bel : i ≤ 2 → Below w.heap.size w wr
 f1 : 0 < i → b1 = false
 f2 : 1 < i → b2 = false
 last : i = 3 → ∀ W', Below wr.heap.size wr W' → post 0 W'
set_option maxHeartbeats 2000000 in
set_option maxRecDepth 100000 in
theorem ofirst_any {bq : Nat} {a1 a2 a3 : Array Value} {b1 b2 : Bool} {x1 x2 x3 : Int} {post : Int → World → Prop}
  (hB : Blk w bq 146 #[.func (.func 102) #[] a1, .int .i64 x1, .func (.func 103) #[] a2, .int .i64 x2, .func (.func 104) #[] a3, .int .i64 x3])
  (H1 : ∀ W, Below w.heap.size w W → Calls Tryz.prog 102 a1 W (fun e w' => e = .returned (.bool b1) ∧ Below W.heap.size W w'))
  (H2 : b1 = false → ∀ W, Below w.heap.size w W → Calls Tryz.prog 103 a2 W (fun e w' => e = .returned (.bool b2) ∧ Below W.heap.size W w'))
  (H3 : b1 = false → b2 = false → ∀ W, Below w.heap.size w W → Calls Tryz.prog 104 a3 W (fun e w' => ∃ b, e = .returned (.bool b) ∧ (∀ j, w.heap.size ≤ j → j < W.heap.size → w'.heap[j]? = W.heap[j]?) ∧ ∀ W', Below w'.heap.size w' W' → post (if b = true then x3 else 0) W'))
  (P1 : b1 = true → ∀ W', Below w.heap.size w W' → post x1 W') (P2 : b1 = false → b2 = true → ∀ W', Below w.heap.size w W' → post x2 W') :
  Calls Tryz.prog 96 #[.slice (some ⟨bq, 0, none⟩) 3 3] w (fun e w' => ∃ x, e = .returned (.int .i64 x) ∧ post x w') := by
 have H1 := hide H1
 have H2 := hide H2
 have H3 := hide H3
 have P1 := hide P1
 have P2 := hide P2
 have HB := hide hB
 clear hB
 go_enter Tryz.func96, Tryz.ntmps96
 go_wp2_with fail
 go_loopw [7] (fun vi wr => ∃ i : Nat, vi = .int .i64 i ∧ OfI w post b1 b2 i wr) (fun vi _ => 3 - (intOf vi).toNat)
 case atStart => exact ⟨0, rfl, by omega, fun _ => Below.refl _ _, by omega, by omega, by omega⟩
 case round =>
  obtain ⟨i, rfl, hI⟩ := hrel
  have Hle := hI.le
  by_cases h3 : i = 3
  ·subst h3
   have HL := hide (hI.last rfl)
   clear hI
   go_wp2_with fail
   go_ret
   exact ⟨0, rfl, HL.out _ (by exact bel_by)⟩
  have hb := hI.bel (by omega)
  have hBr := HB.out.below hb HB.out.lt
  have k0 := hBr.cell 0
  have k1 := hBr.cell 1
  have k2 := hBr.cell 2
  have k3 := hBr.cell 3
  have k4 := hBr.cell 4
  have k5 := hBr.cell 5
  simp only [List.getElem?_toArray, List.getElem?_cons_zero, List.getElem?_cons_succ] at k0 k1 k2 k3 k4 k5
  have hlt := hBr.lt
  have Hb := hide hb
  have HI := hide hI
  clear hBr hI hb
  match i, Hle, h3, HI with
  | 0, hi, h3, HI =>
   clear hi h3
   have HX := hide (fun (W : World) (hW : Below wr.heap.size wr W) => H1.out W (Hb.out.trans (hW.mono Hb.out.size)))
   cases b1 with
   | true =>
    go_wp2_with (first
     | (go_at_call 102; refine (HX.out _ (by exact bel_by)).mono ?_; rintro e w5 ⟨rfl, hb5⟩; have q1 := cellB hb5 (cell_new1 wr 146 (.func (.func 102) #[] a1) (.int .i64 x1)))
     | fail)
    go_ret
    exact ⟨_, rfl, P1.out (by simp) _ (by exact bel_by)⟩
   | false =>
    go_wp2_with (first
     | (go_at_call 102; refine (HX.out _ (by exact bel_by)).mono ?_; rintro e w5 ⟨rfl, hb5⟩; have q1 := cellB hb5 (cell_new1 wr 146 (.func (.func 102) #[] a1) (.int .i64 x1)))
     | fail)
    exact ⟨⟨1, by go_num, by omega, fun _ => by exact bel_by, by simp, by simp, by simp⟩, by simp [intOf]⟩
  | 1, hi, h3, HI =>
   have g1 := HI.out.f1 (by omega)
   subst g1
   clear hi h3
   have HX := hide (fun (W : World) (hW : Below wr.heap.size wr W) => H2.out rfl W (Hb.out.trans (hW.mono Hb.out.size)))
   cases b2 with
   | true =>
    go_wp2_with (first
     | (go_at_call 103; refine (HX.out _ (by exact bel_by)).mono ?_; rintro e w5 ⟨rfl, hb5⟩; have q1 := cellB hb5 (cell_new1 wr 146 (.func (.func 103) #[] a2) (.int .i64 x2)))
     | fail)
    go_ret
    exact ⟨_, rfl, P2.out (by simp) (by simp) _ (by exact bel_by)⟩
   | false =>
    go_wp2_with (first
     | (go_at_call 103; refine (HX.out _ (by exact bel_by)).mono ?_; rintro e w5 ⟨rfl, hb5⟩; have q1 := cellB hb5 (cell_new1 wr 146 (.func (.func 103) #[] a2) (.int .i64 x2)))
     | fail)
    exact ⟨⟨2, by go_num, by omega, fun _ => by exact bel_by, by simp, by simp, by simp⟩, by simp [intOf]⟩
  | 2, hi, h3, HI =>
   have g1 := HI.out.f1 (by omega)
   have g2 := HI.out.f2 (by omega)
   subst g1 g2
   clear hi h3
   have HX := hide (fun (W : World) (hW : Below wr.heap.size wr W) => H3.out rfl rfl W (Hb.out.trans (hW.mono Hb.out.size)))
   have hsw := Hb.out.size
   go_upto_region 4 with fail
   go_wp2_with fail
   refine (HX.out _ (by exact bel_by)).mono ?_
   rintro e w5 ⟨b, rfl, hkeep, hpost⟩
   have q1 : w5.cell? ⟨wr.heap.size, 1, none⟩ = some (.int .i64 x3) := (World.cell?_of_block (hkeep wr.heap.size hsw (by simp))).trans (cell_new1 wr 146 (.func (.func 104) #[] a3) (.int .i64 x3))
   have HQ := hide hpost
   clear hpost hkeep k0 k1 k2 k3 k4 k5
   cases b with
   | true =>
    go_wp2_with fail
    go_ret
    exact ⟨_, rfl, HQ.out _ (by exact bel_by)⟩
   | false =>
    go_wp2_with fail
    exact ⟨⟨3, by go_num, by omega, by simp, by simp, by simp, fun _ => HQ.out⟩, by simp [intOf]⟩
  | 3, hi, h3, HI => exact absurd rfl h3
  | n + 4, hi, h3, HI => omega
end
end Go.Proofs.YtmgfcjpifkoahaaGreatDoor
namespace Go.Proofs.YtmgfcjpifkoahaaGreatDoor
open Go.RowKit Go.ChangeShapes Go.WideShapes Go.Sort
section
variable {w0 wb w w' : World} {B g : Nat} {T : List Tm} {S S1 : Nat → Prop}
theorem Pay.kept (h : Pay w0 B g T S w) {b : Nat} (k : w.grownBy w' (some b)) (hn : ¬ S b) (hB : B ≤ b) : Pay w0 B g T S w' := by
 refine ⟨h.use.kept k (fun i e => by cases e; exact ⟨hn, hB⟩), ?_, h.bel.grown k h.bel.size (fun i e => by cases e; have := h.base; omega), h.base⟩
 obtain ⟨w9, h1, h2, h3⟩ := h.max
 exact ⟨w9, h1, h2, h3.grown k h3.size (fun i e => by cases e; omega)⟩
def Ok3 (w0 : World) (B g : Nat) (T : List Tm) (S : Nat → Prop) (wb w : World) (pB pI : Nat) (r : Option (List UInt8)) (e : Ending) (w' : World) : Prop :=
 ∃ T' S' b, e = .returned (.bool b) ∧ b = (r.getD [] == []) ∧ T <+: T' ∧ T'.length ≤ T.length + 2000000 ∧ Pay w0 B g T' S' w' ∧ Grown S wb S' w' ∧ ¬ S' pB ∧ w'.cell? ⟨pB, 0, none⟩ = some (.string (bs (r.getD []))) ∧ pB < w'.heap.size ∧
  ∀ j, j < w.heap.size → ¬ S j → j ≠ pB → j ≠ pI → w'.heap[j]? = w.heap[j]?
theorem setCell_heap (w : World) (b : Nat) (u : Value) {j : Nat} (h : j ≠ b) : (w.setCell ⟨b, 0, none⟩ u).heap[j]? = w.heap[j]? := Below.heap_setCell w ⟨b, 0, none⟩ u j h
theorem cell_far {w : World} {q : Addr} {v : Value} (h : w.cell? q = some v) {b : Nat} (hne : q.block ≠ b) (u : Value) : (w.setCell ⟨b, 0, none⟩ u).cell? q = some v :=
 (World.cell?_of_block (Below.heap_setCell w ⟨b, 0, none⟩ u q.block hne)).trans h
set_option maxHeartbeats 2000000 in
set_option maxRecDepth 100000 in
theorem ok3_any (h : Pay w0 B g T S wb) (hb : Below wb.heap.size wb w) {bx A nA cA pB pI : Nat} {p : Addr} {m1 : Int} {x1 : Option Tm} {s0 : ByteArray} {b0 : Bool}
  (hp : w.cell? p = some (.pointer (some ⟨g, 0, none⟩))) (h4 : w.cell? ⟨bx, 4, none⟩ = some (.slice (some ⟨A, 0, none⟩) nA cA)) (hA : 1 < nA) (hj : w.cell? ⟨A, 1, none⟩ = some (.int .i64 m1)) (hx : Idn T x1 m1)
  (hB : Blk w pB 9 #[.string s0]) (hI : Blk w pI 4 #[.bool b0]) (l1 : wb.heap.size ≤ pB) (l2 : wb.heap.size ≤ pI) (d1 : p.block < pB) (d2 : bx < pB) (d3 : A < pB) (d4 : pB < pI) (nX : ¬ S bx) (nA' : ¬ S A) (nP : ¬ S p.block) (hT : T.length ≤ 600000000) :
  Calls Tryz.prog 104 #[.pointer (some p), .pointer (some ⟨bx, 0, none⟩), .pointer (some ⟨pB, 0, none⟩), .pointer (some ⟨pI, 0, none⟩)] w (Ok3 w0 B g T S wb w pB pI (x1.bind bytesT)) := by
 have hA1 : (1 : Int) < (nA : Int) := by omega
 have HB := hide (bytes_pay (h.below hb) hx hT)
 have Hb := hide hb
 have hsL := h.ar.sL
 have hBw := h.use.base
 have nB : ¬ S pB := fun h9 => by have := hsL _ h9; omega
 have nI : ¬ S pI := fun h9 => by have := hsL _ h9; omega
 have HBl := hide (And.intro hB hI)
 have hlx : bx < w.heap.size := block_lt_of_cell h4
 have hlA : A < w.heap.size := block_lt_of_cell hj
 have hlB := hB.lt
 have hlI := hI.lt
 clear h hb hsL hB hI hx
 generalize x1.bind bytesT = r at HB ⊢
 go_enter Tryz.func104, Tryz.ntmps104
 go_upto_region 1 with fail
 go_region_held3 (fun W => W.cell? p = some (.pointer (some ⟨g, 0, none⟩)) ∧ W.cell? ⟨bx, 4, none⟩ = some (.slice (some ⟨A, 0, none⟩) nA cA) ∧ W.cell? ⟨A, 1, none⟩ = some (.int .i64 m1))
  (first | exact ⟨hp, h4, hj⟩ | exact ⟨cell_far hp (by omega) _, cell_far h4 (by show bx ≠ _; omega) _, cell_far hj (by show A ≠ _; omega) _⟩ | exact ⟨cell_far (cell_far hp (by omega) _) (by omega) _, cell_far (cell_far h4 (by show bx ≠ _; omega) _) (by show bx ≠ _; omega) _, cell_far (cell_far hj (by show A ≠ _; omega) _) (by show A ≠ _; omega) _⟩)
  (first
   | (go_at_call 10; refine (HB.out _ (by exact bel_by)).mono ?_; rintro e w2 ⟨T2, S2, rfl, hp2, hl2, hP2, hG2⟩; replace hp := hG2.outs.cell hp nP; replace h4 := hG2.outs.cell h4 nX; replace hj := hG2.outs.cell hj nA'; have hB2 := hG2.outs.blk HBl.out.1 nB; have hI2 := hG2.outs.blk HBl.out.2 nI; have cB := hB2.cell 0; have cI := hI2.cell 0; have fB := hB2.frozen 0; have fI := hI2.frozen 0; simp only [List.getElem?_toArray, List.getElem?_cons_zero] at cB cI; have hsz2 := hG2.size)
   | fail)
 obtain ⟨w4, hw4⟩ : ∃ W, W = (w2.setCell ⟨pB, 0, none⟩ (.string (bs (r.getD [])))).setCell ⟨pI, 0, none⟩ (.bool r.isSome) := ⟨_, rfl⟩
 have hB4 : Blk w4 pB 9 #[.string (bs (r.getD []))] := by rw [hw4]; exact (hB2.set_ 0 _).far (p := ⟨pI, 0, none⟩) (by show pB ≠ pI; omega) _
 have hI4 : Blk w4 pI 4 #[.bool r.isSome] := by rw [hw4]; exact (hI2.far (p := ⟨pB, 0, none⟩) (by show pI ≠ pB; omega) _).set_ 0 _
 have k1 : w2.grownBy (w2.setCell ⟨pB, 0, none⟩ (.string (bs (r.getD [])))) (some pB) := only_setCell (only_refl w2 (some pB)) (.inl rfl) _
 have k2 : (w2.setCell ⟨pB, 0, none⟩ (.string (bs (r.getD [])))).grownBy w4 (some pI) := by rw [hw4]; exact only_setCell (only_refl _ (some pI)) (.inl rfl) _
 have nB2 := hG2.notin2 nB hlB
 have nI2 := hG2.notin2 nI hlI
 have HPf := hide ((hP2.kept k1 nB2 (by omega)).kept k2 nI2 (by omega))
 have HGf := hide (((((Grown.of_below Hb.out).trans hG2).keepNew k1 (fun i e => by cases e; exact l1)).keepNew k2 (fun i e => by cases e; exact l2)))
 have HKf := hide (show ∀ j, j < w.heap.size → ¬ S j → j ≠ pB → j ≠ pI → w4.heap[j]? = w.heap[j]? from fun j h1 h2 h3 h5 => by
  rw [hw4, setCell_heap _ _ _ h5, setCell_heap _ _ _ h3]
  exact hG2.block j h1 h2)
 rw [← hw4]
 have q0 := hB4.cell 0
 have q1 := hI4.cell 0
 simp only [List.getElem?_toArray, List.getElem?_cons_zero] at q0 q1
 have hlt4 := hB4.lt
 have Hq0 := hide q0
 have Hp2 := hide (And.intro hp2 hl2)
 clear hw4 hB4 hI4 k1 k2 hP2 hG2 hB2 hI2 fB fI cB cI hp h4 hj HB hp2 hl2
 cases r with
 | none =>
  simp only [Option.getD_none, Option.isSome_none] at q0 q1
  go_wp2_with fail
  go_ret
  exact ⟨T2, S2, true, rfl, rfl, Hp2.out.1, Hp2.out.2, HPf.out, HGf.out, nB2, Hq0.out, hlt4, HKf.out⟩
 | some s =>
  simp only [Option.getD_some, Option.isSome_some] at q0 q1
  cases s with
  | nil =>
   have hx : ((bs []).toList == []) = true := by rw [bs_toList]; rfl
   go_wp2_with fail
   go_ret
   exact ⟨T2, S2, true, rfl, rfl, Hp2.out.1, Hp2.out.2, HPf.out, HGf.out, nB2, Hq0.out, hlt4, HKf.out⟩
  | cons c s =>
   have hx : ((bs (c :: s)).toList == []) = false := by rw [bs_toList]; rfl
   generalize hz : bs (c :: s) = z at q0 hx
   have Hz := hide hz
   clear hz
   go_wp2_with fail
   go_ret
   exact ⟨T2, S2, false, rfl, rfl, Hp2.out.1, Hp2.out.2, HPf.out, HGf.out, nB2, Hq0.out, hlt4, HKf.out⟩
end
end Go.Proofs.YtmgfcjpifkoahaaGreatDoor
