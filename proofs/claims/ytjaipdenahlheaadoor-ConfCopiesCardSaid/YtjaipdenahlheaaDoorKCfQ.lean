/-
  The contract of conf.Copy. Conditions: lists of at most 1,000,000 texts.
-/
import Derived.Test.YtjaipdenahlheaaDoorKCfP
import Derived.Test.YtjaipdenahlheaaDoorKKx6
set_option linter.unusedVariables false
set_option linter.unusedSimpArgs false
namespace Go.Proofs.YtjaipdenahlheaaDoor
open Go.RowKit Go.ChangeShapes Go.WideShapes Go.Sort
theorem wrA_mid (pre mid post vs : List Value) (h : mid.length = vs.length) : wrA (pre ++ mid ++ post).toArray pre.length vs = (pre ++ vs ++ post).toArray := by
  induction vs generalizing pre mid with
  | nil =>
    have : mid = [] := List.eq_nil_of_length_eq_zero h
    subst this
    simp [wrA]
  | cons v r ih =>
    match mid, h with
    | p :: m, h =>
      unfold wrA
      rw [List.setIfInBounds_toArray, List.append_assoc, List.set_append_right _ _ (Nat.le_refl _), Nat.sub_self, List.cons_append, List.set_cons_zero]
      have h2 := ih (pre ++ [v]) m (by simpa using h)
      rw [List.length_append, List.length_singleton] at h2
      rw [show pre ++ v :: (m ++ post) = pre ++ [v] ++ m ++ post by simp, h2]
      simp
theorem wpList_skip {w w' : World} {ops : Array Oper} {rest : List Oper} {op : Oper} {a : Act} {Q : Exit → Act → World → Prop} (hgd : op.guard = none) (hr : (execOp a.eval op).run Tryd.prog w = .ok .skip w')
    (h : wpList Tryd.prog ops Q rest (a.put op.dst undef) w') : wpList Tryd.prog ops Q (op :: rest) a w :=
  wpList_plain hgd fun _ hK => by
    unfold Oper.wp
    rw [hr]
    exact hK _ _ h
theorem RowC.eight {w : World} {g : Nat} {ls : List (List (List UInt8))} (h : RowC w g ls) (hs : ∀ l ∈ ls, l.length ≤ 1000000) : Eight w g ls :=
  ⟨h.1, hs, fun i l hl => by
    obtain ⟨hi, rfl⟩ := List.getElem?_eq_some_iff.1 hl
    obtain ⟨A, c, h1, h2, _⟩ := h.2.2 i hi
    exact ⟨A, c, h1, h2⟩⟩
theorem blk_there_at {w : World} {b o : Nat} {t : TypeId} {cs : Array Value} {n : Nat} (h : Blk w b t cs) (hn : o + n ≤ cs.size) : w.there b o n := fun j hj => by
  rw [h.cell (o + j), Array.getElem?_eq_getElem (by omega)]
  exact ⟨rfl, h.frozen (o + j)⟩
theorem own_baseC {w : World} {b b' : Nat} {e : TypeId} {size n : Nat} {v : Value} {xs : List Value} (h : w.ownsRow b e size v n xs) (hb : b' ≤ b) : w.ownsRow b' e size v n xs := by
  refine ⟨h.1, ?_⟩
  rcases h.2 with h0 | ⟨g, cap, cur, h1, h2, h3⟩
  · exact .inl h0
  · exact .inr ⟨g, cap, cur, h1, Nat.le_trans hb h2, h3⟩
theorem own_setC {w : World} {b : Nat} {e : TypeId} {size n : Nat} {v : Value} {xs : List Value} (h : w.ownsRow b e size v n xs) {p : Addr} (hp : p.block < b) (u : Value) : (w.setCell p u).ownsRow b e size v n xs := by
  have hg : w.grownBy (w.setCell p u) (some p.block) := only_setCell (only_refl w _) (.inl rfl) u
  refine h.kept hg ?_
  cases ev : v.ownBlock with
  | none => exact .inl rfl
  | some i =>
    right
    intro e2
    have := (h.lt i ev).1
    cases e2
    omega
theorem own_setCells {b g : Nat} {e : TypeId} {size n : Nat} {v : Value} {xs : List Value} (hg : g < b) : ∀ (vs : List Value) (o : Nat) {w : World}, w.ownsRow b e size v n xs → (w.setCells g o vs).ownsRow b e size v n xs
  | [], _, _, h => h
  | u :: r, o, _, h => own_setCells hg r (o + 1) (own_setC h (p := ⟨g, o, none⟩) hg u)
theorem infoPrefs : (Tryd.prog.info? 24).map (·.size) = some 8 := by kernel_rfl
section
variable {w : World}
set_option maxHeartbeats 8000000 in
set_option maxRecDepth 100000 in
theorem copy_any {sv ex ge : Bool} {sw cm us : List UInt8} {A0 A1 A2 A3 A4 A5 A6 A7 A8 A9 A10 : Option Addr} {n0 n1 n2 n3 n4 n5 n6 n7 c0 c1 c2 c3 c4 c5 c6 c7 c8 c9 c10 : Nat} {al : List (List UInt8)} {own lim peer q0 q1 q2 : Int} {gr : List (List UInt8 × Int)} {ky : List Int} {ls : List (List (List UInt8))} (hC : CfM w sw cm us [.slice A0 n0 c0, .slice A1 n1 c1, .slice A2 n2 c2, .slice A3 n3 c3, .slice A4 n4 c4, .slice A5 n5 c5, .slice A6 n6 c6, .slice A7 n7 c7] ls A8 c8 al A9 gr A10 ky) : Calls Tryd.prog 7 #[.agg #[.bool sv, .string (bs sw), .string (bs cm), .slice A0 n0 c0, .slice A1 n1 c1, .slice A2 n2 c2, .slice A3 n3 c3, .slice A4 n4 c4, .slice A5 n5 c5, .slice A6 n6 c6, .slice A7 n7 c7, .slice A8 al.length c8, .int .i64 own, .slice A9 gr.length c9, .int .i64 lim, .int .i64 peer, .string (bs us), .slice A10 ky.length c10, .bool ex, .bool ge, .int .u32 q0, .int .u32 q1, .int .u32 q2]] w (fun e w' => ∃ B0 m0 d0 B1 m1 d1 B2 m2 d2 B3 m3 d3 B4 m4 d4 B5 m5 d5 B6 m6 d6 B7 m7 d7 B8 d8 B9 d9 B10 d10, e = .returned (.agg #[.bool sv, .string (bs sw), .string (bs cm), .slice B0 m0 d0, .slice B1 m1 d1, .slice B2 m2 d2, .slice B3 m3 d3, .slice B4 m4 d4, .slice B5 m5 d5, .slice B6 m6 d6, .slice B7 m7 d7, .slice B8 al.length d8, .int .i64 own, .slice B9 gr.length d9, .int .i64 lim, .int .i64 peer, .string (bs us), .slice B10 ky.length d10, .bool ex, .bool ge, .int .u32 q0, .int .u32 q1, .int .u32 q2]) ∧ (∀ (i : Nat) v l, ([.slice B0 m0 d0, .slice B1 m1 d1, .slice B2 m2 d2, .slice B3 m3 d3, .slice B4 m4 d4, .slice B5 m5 d5, .slice B6 m6 d6, .slice B7 m7 d7] : List Value)[i]? = some v → ls[i]? = some l → NewC w.heap.size w' v l) ∧ NewC w.heap.size w' (.slice B8 al.length d8) al ∧ w'.ownsRow w.heap.size 36 2 (.slice B9 gr.length d9) gr.length (flatG gr) ∧ w'.ownsRow w.heap.size 3 1 (.slice B10 ky.length d10) ky.length (ky.map (Value.int .i64)) ∧ Below w.heap.size w w') := by
  obtain ⟨W0, hW0⟩ : ∃ W0, W0 = (w.alloc (.cells #[.bool sv, .string (bs sw), .string (bs cm), .slice A0 n0 c0, .slice A1 n1 c1, .slice A2 n2 c2, .slice A3 n3 c3, .slice A4 n4 c4, .slice A5 n5 c5, .slice A6 n6 c6, .slice A7 n7 c7, .slice A8 al.length c8, .int .i64 own, .slice A9 gr.length c9, .int .i64 lim, .int .i64 peer, .string (bs us), .slice A10 ky.length c10, .bool ex, .bool ge, .int .u32 q0, .int .u32 q1, .int .u32 q2] 30)).alloc (.cells zeroC 30) := ⟨_, rfl⟩
  have hb0 : Below w.heap.size w W0 := by rw [hW0]; (repeat (first | exact Below.refl _ _ | refine below_drewN ?_ _ | refine Below.drew ?_ | refine Below.alloc ?_ (by first | omega | (simp; done) | (simp; omega)) _ | refine Below.setCell ?_ (by first | omega | (simp; done) | (simp; omega)) _ | refine bel_alloc ?_ _ | refine bel_trans ?_ (by assumption) | refine Below.trans ?_ (Below.mono (by assumption) (by first | omega | (simp; done) | (simp; omega)))))
  have hX0 : Blk W0 w.heap.size 30 #[.bool sv, .string (bs sw), .string (bs cm), .slice A0 n0 c0, .slice A1 n1 c1, .slice A2 n2 c2, .slice A3 n3 c3, .slice A4 n4 c4, .slice A5 n5 c5, .slice A6 n6 c6, .slice A7 n7 c7, .slice A8 al.length c8, .int .i64 own, .slice A9 gr.length c9, .int .i64 lim, .int .i64 peer, .string (bs us), .slice A10 ky.length c10, .bool ex, .bool ge, .int .u32 q0, .int .u32 q1, .int .u32 q2] := by rw [hW0]; exact (Blk.new w _ _).alloc _
  have hR0 : Blk W0 (w.heap.size + 1) 30 zeroC := by rw [hW0]; exact blk_new2 w _ _ _
  have hC0 := hC.below hb0
  have HL := hide (plc_any hC0.hl8)
  have HS := hide (fun l hl => (hC0.hl8.small l hl).1)
  have HX := hide (And.intro hb0 (And.intro hX0 (And.intro hR0 hC0)))
  have hltR := hR0.lt
  have hltX := hX0.lt
  have HC := hide hC
  have y3 := hX0.cell 3
  have z3 := hX0.frozen 3
  have y4 := hX0.cell 4
  have z4 := hX0.frozen 4
  have y5 := hX0.cell 5
  have z5 := hX0.frozen 5
  have y6 := hX0.cell 6
  have z6 := hX0.frozen 6
  have y7 := hX0.cell 7
  have z7 := hX0.frozen 7
  have y8 := hX0.cell 8
  have z8 := hX0.frozen 8
  have y9 := hX0.cell 9
  have z9 := hX0.frozen 9
  have y10 := hX0.cell 10
  have z10 := hX0.frozen 10
  simp only [List.getElem?_toArray, List.getElem?_cons_zero, List.getElem?_cons_succ] at y3 y4 y5 y6 y7 y8 y9 y10
  clear hb0 hX0 hR0 hC hC0
  go_enter Tryd.func7, Tryd.ntmps7
  go_upto_region 1 with fail
  unfold zeroC at hW0
  rw [← hW0]
  clear hW0
  refine wp_region_lit ?_
  refine wpList_val (v := .pointer (some ⟨w.heap.size, 3, none⟩)) (w' := W0) rfl (by go_simp) ?_
  try simp only [Act.put, List.setIfInBounds_toArray, List.set_cons_zero, List.set_cons_succ]
  refine wpList_val (v := .agg #[.slice A0 n0 c0, .slice A1 n1 c1, .slice A2 n2 c2, .slice A3 n3 c3, .slice A4 n4 c4, .slice A5 n5 c5, .slice A6 n6 c6, .slice A7 n7 c7]) (w' := W0) rfl (by go_simp) ?_
  try simp only [Act.put, List.setIfInBounds_toArray, List.set_cons_zero, List.set_cons_succ]
  refine wpList_call_ (f := 17) rfl (by go_simp) HL.out ?_
  rintro e w1 ⟨g, rfl, hR1, hb1⟩
  refine ⟨_, rfl, ?_⟩
  try simp only [Act.put, List.setIfInBounds_toArray, List.set_cons_zero, List.set_cons_succ]
  have HO := hide (pof_any (c := 8) (hR1.eight HS.out))
  refine wpList_call_ (f := 16) rfl (by go_simp) HO.out ?_
  rintro e w2 ⟨B0, m0, d0, B1, m1, d1, B2, m2, d2, B3, m3, d3, B4, m4, d4, B5, m5, d5, B6, m6, d6, B7, m7, d7, rfl, hall, hb2⟩
  refine ⟨_, rfl, ?_⟩
  try simp only [Act.put, List.setIfInBounds_toArray, List.set_cons_zero, List.set_cons_succ]
  have hb02 := hb1.trans (hb2.mono hb1.size)
  have hX2 := HX.out.2.1.below hb02 hltX
  have hR2 := HX.out.2.2.1.below hb02 hltR
  have hsz0 : w.heap.size + 2 ≤ w1.heap.size := by have := hb1.size; have := hltR; omega
  have hb2w : Below w.heap.size w w2 := HX.out.1.trans (hb02.mono HX.out.1.size)
  have hn2 : ∀ (i : Nat) v l, ([.slice B0 m0 d0, .slice B1 m1 d1, .slice B2 m2 d2, .slice B3 m3 d3, .slice B4 m4 d4, .slice B5 m5 d5, .slice B6 m6 d6, .slice B7 m7 d7] : List Value)[i]? = some v → ls[i]? = some l → NewC (w.heap.size + 2) w2 v l := fun i v l h1 h2 => (hall i v l h1 h2).mono hsz0
  clear hR1 hb1 hb2 hall HL HO y3 z3 y4 z4 y5 z5 y6 z6 y7 z7 y8 z8 y9 z9 y10 z10 hltX hltR hb02 HX HS hsz0
  refine wpList_val (v := .tuple #[.agg #[.slice B0 m0 d0, .slice B1 m1 d1, .slice B2 m2 d2, .slice B3 m3 d3, .slice B4 m4 d4, .slice B5 m5 d5, .slice B6 m6 d6, .slice B7 m7 d7], .bool true]) (w' := w2) rfl (by go_simp) ?_
  try simp only [Act.put, List.setIfInBounds_toArray, List.set_cons_zero, List.set_cons_succ]
  refine wpList_val (v := .agg #[.slice B0 m0 d0, .slice B1 m1 d1, .slice B2 m2 d2, .slice B3 m3 d3, .slice B4 m4 d4, .slice B5 m5 d5, .slice B6 m6 d6, .slice B7 m7 d7]) (w' := w2) rfl (by go_simp) ?_
  try simp only [Act.put, List.setIfInBounds_toArray, List.set_cons_zero, List.set_cons_succ]
  refine wpList_val (v := .bool true) (w' := w2) rfl (by go_simp) ?_
  try simp only [Act.put, List.setIfInBounds_toArray, List.set_cons_zero, List.set_cons_succ]
  refine wpList_val (v := .pointer (some ⟨w.heap.size, 3, none⟩)) (w' := w2) rfl (by go_simp) ?_
  try simp only [Act.put, List.setIfInBounds_toArray, List.set_cons_zero, List.set_cons_succ]
  refine wpList_store_mid rfl 24 (.tmp 10) (.tmp 8) rfl w.heap.size 3 #[.slice B0 m0 d0, .slice B1 m1 d1, .slice B2 m2 d2, .slice B3 m3 d3, .slice B4 m4 d4, .slice B5 m5 d5, .slice B6 m6 d6, .slice B7 m7 d7] (by rfl) (by rfl) (blk_there_at hX2 (by simp)) infoPrefs (by simp [Value.oneCell']) ?_
  have hX : Blk (w2.setCells w.heap.size 3 [.slice B0 m0 d0, .slice B1 m1 d1, .slice B2 m2 d2, .slice B3 m3 d3, .slice B4 m4 d4, .slice B5 m5 d5, .slice B6 m6 d6, .slice B7 m7 d7]) w.heap.size 30 #[.bool sv, .string (bs sw), .string (bs cm), .slice B0 m0 d0, .slice B1 m1 d1, .slice B2 m2 d2, .slice B3 m3 d3, .slice B4 m4 d4, .slice B5 m5 d5, .slice B6 m6 d6, .slice B7 m7 d7, .slice A8 al.length c8, .int .i64 own, .slice A9 gr.length c9, .int .i64 lim, .int .i64 peer, .string (bs us), .slice A10 ky.length c10, .bool ex, .bool ge, .int .u32 q0, .int .u32 q1, .int .u32 q2] := by
    have h9 := Blk.setCells [.slice B0 m0 d0, .slice B1 m1 d1, .slice B2 m2 d2, .slice B3 m3 d3, .slice B4 m4 d4, .slice B5 m5 d5, .slice B6 m6 d6, .slice B7 m7 d7] 3 hX2
    rw [show wrA #[.bool sv, .string (bs sw), .string (bs cm), .slice A0 n0 c0, .slice A1 n1 c1, .slice A2 n2 c2, .slice A3 n3 c3, .slice A4 n4 c4, .slice A5 n5 c5, .slice A6 n6 c6, .slice A7 n7 c7, .slice A8 al.length c8, .int .i64 own, .slice A9 gr.length c9, .int .i64 lim, .int .i64 peer, .string (bs us), .slice A10 ky.length c10, .bool ex, .bool ge, .int .u32 q0, .int .u32 q1, .int .u32 q2] 3 [.slice B0 m0 d0, .slice B1 m1 d1, .slice B2 m2 d2, .slice B3 m3 d3, .slice B4 m4 d4, .slice B5 m5 d5, .slice B6 m6 d6, .slice B7 m7 d7] = #[.bool sv, .string (bs sw), .string (bs cm), .slice B0 m0 d0, .slice B1 m1 d1, .slice B2 m2 d2, .slice B3 m3 d3, .slice B4 m4 d4, .slice B5 m5 d5, .slice B6 m6 d6, .slice B7 m7 d7, .slice A8 al.length c8, .int .i64 own, .slice A9 gr.length c9, .int .i64 lim, .int .i64 peer, .string (bs us), .slice A10 ky.length c10, .bool ex, .bool ge, .int .u32 q0, .int .u32 q1, .int .u32 q2] from wrA_mid [.bool sv, .string (bs sw), .string (bs cm)] [.slice A0 n0 c0, .slice A1 n1 c1, .slice A2 n2 c2, .slice A3 n3 c3, .slice A4 n4 c4, .slice A5 n5 c5, .slice A6 n6 c6, .slice A7 n7 c7] [.slice A8 al.length c8, .int .i64 own, .slice A9 gr.length c9, .int .i64 lim, .int .i64 peer, .string (bs us), .slice A10 ky.length c10, .bool ex, .bool ge, .int .u32 q0, .int .u32 q1, .int .u32 q2] [.slice B0 m0 d0, .slice B1 m1 d1, .slice B2 m2 d2, .slice B3 m3 d3, .slice B4 m4 d4, .slice B5 m5 d5, .slice B6 m6 d6, .slice B7 m7 d7] rfl] at h9
    exact h9
  have hB := below_setCells (b := w.heap.size) (Nat.le_refl _) [.slice B0 m0 d0, .slice B1 m1 d1, .slice B2 m2 d2, .slice B3 m3 d3, .slice B4 m4 d4, .slice B5 m5 d5, .slice B6 m6 d6, .slice B7 m7 d7] 3 hb2w
  have hR := Blk.setCells_far (b := w.heap.size) (by simp) [.slice B0 m0 d0, .slice B1 m1 d1, .slice B2 m2 d2, .slice B3 m3 d3, .slice B4 m4 d4, .slice B5 m5 d5, .slice B6 m6 d6, .slice B7 m7 d7] 3 hR2
  have hN : ∀ (i : Nat) v l, ([.slice B0 m0 d0, .slice B1 m1 d1, .slice B2 m2 d2, .slice B3 m3 d3, .slice B4 m4 d4, .slice B5 m5 d5, .slice B6 m6 d6, .slice B7 m7 d7] : List Value)[i]? = some v → ls[i]? = some l → NewC (w.heap.size + 2) (w2.setCells w.heap.size 3 [.slice B0 m0 d0, .slice B1 m1 d1, .slice B2 m2 d2, .slice B3 m3 d3, .slice B4 m4 d4, .slice B5 m5 d5, .slice B6 m6 d6, .slice B7 m7 d7]) v l := fun i v l h1 h2 => NewC.setCells (by omega) [.slice B0 m0 d0, .slice B1 m1 d1, .slice B2 m2 d2, .slice B3 m3 d3, .slice B4 m4 d4, .slice B5 m5 d5, .slice B6 m6 d6, .slice B7 m7 d7] 3 (hn2 i v l h1 h2)
  show wpList _ _ _ _ _ (w2.setCells w.heap.size 3 [.slice B0 m0 d0, .slice B1 m1 d1, .slice B2 m2 d2, .slice B3 m3 d3, .slice B4 m4 d4, .slice B5 m5 d5, .slice B6 m6 d6, .slice B7 m7 d7])
  generalize w2.setCells w.heap.size 3 [.slice B0 m0 d0, .slice B1 m1 d1, .slice B2 m2 d2, .slice B3 m3 d3, .slice B4 m4 d4, .slice B5 m5 d5, .slice B6 m6 d6, .slice B7 m7 d7] = W2 at hX hB hR hN ⊢
  clear hX2 hR2 hn2 hb2w
  have HB := hide hB
  have HR := hide hR
  have HN := hide hN
  have HX := hide hX
  clear hB hR hN hX
  try simp only [Act.put, List.setIfInBounds_toArray, List.set_cons_zero, List.set_cons_succ]
  go_upto_region 2 with fail
  have hX2 := HX.out
  have hs2 := HB.out.size
  have y := hX2.cell 11
  have z := hX2.frozen 11
  simp only [List.getElem?_toArray, List.getElem?_cons_zero, List.getElem?_cons_succ] at y
  refine wp_region_lit ?_
  refine wpList_val (v := .pointer (some ⟨w.heap.size, 11, none⟩)) (w' := W2) rfl (by go_simp) ?_
  try simp only [Act.put, List.setIfInBounds_toArray, List.set_cons_zero, List.set_cons_succ]
  refine wpList_val (v := .slice A8 al.length c8) (w' := W2) rfl (by go_simp) ?_
  try simp only [Act.put, List.setIfInBounds_toArray, List.set_cons_zero, List.set_cons_succ]
  clear y z
  have hC2 := HC.out.below HB.out
  refine wpList_call_ (f := 18) rfl (by go_simp) (clone_own (ss := al.map bs) hC2.hal (by rw [List.length_map]; exact Nat.le_trans HC.out.all (by decide))) ?_
  rintro e w3 ⟨v', rfl, hown, hbb⟩
  rw [List.length_map] at hown
  obtain ⟨B8, d8, rfl⟩ := own_slN hown
  refine ⟨_, rfl, ?_⟩
  try simp only [Act.put, List.setIfInBounds_toArray, List.set_cons_zero, List.set_cons_succ]
  clear hC2
  have hlx : w.heap.size < W2.heap.size := hX2.lt
  have hlr : w.heap.size + 1 < W2.heap.size := HR.out.lt
  have hX := hX2.below hbb hlx
  have y := hX.cell 11
  have z := hX.frozen 11
  simp only [List.getElem?_toArray, List.getElem?_cons_zero, List.getElem?_cons_succ] at y
  refine wpList_val (v := .pointer (some ⟨w.heap.size, 11, none⟩)) (w' := w3) rfl (by go_simp) ?_
  try simp only [Act.put, List.setIfInBounds_toArray, List.set_cons_zero, List.set_cons_succ]
  refine wpList_skip (w' := w3.setCell ⟨w.heap.size, 11, none⟩ (.slice B8 al.length d8)) rfl (by go_simp) ?_
  try simp only [Act.put, List.setIfInBounds_toArray, List.set_cons_zero, List.set_cons_succ]
  clear y z
  have HX2 := hide (show Blk (w3.setCell ⟨w.heap.size, 11, none⟩ (.slice B8 al.length d8)) w.heap.size 30 #[.bool sv, .string (bs sw), .string (bs cm), .slice B0 m0 d0, .slice B1 m1 d1, .slice B2 m2 d2, .slice B3 m3 d3, .slice B4 m4 d4, .slice B5 m5 d5, .slice B6 m6 d6, .slice B7 m7 d7, .slice B8 al.length d8, .int .i64 own, .slice A9 gr.length c9, .int .i64 lim, .int .i64 peer, .string (bs us), .slice A10 ky.length c10, .bool ex, .bool ge, .int .u32 q0, .int .u32 q1, .int .u32 q2] from by
    have h9 := hX.set_ 11 (.slice B8 al.length d8)
    simpa using h9)
  have HB2 := hide ((HB.out.trans (hbb.mono hs2)).setCell (p := ⟨w.heap.size, 11, none⟩) (Nat.le_refl _) (.slice B8 al.length d8))
  have HR2 := hide ((HR.out.below hbb hlr).far (p := ⟨w.heap.size, 11, none⟩) (by simp) (.slice B8 al.length d8))
  have HN2 := hide (show ∀ (i : Nat) v l, ([.slice B0 m0 d0, .slice B1 m1 d1, .slice B2 m2 d2, .slice B3 m3 d3, .slice B4 m4 d4, .slice B5 m5 d5, .slice B6 m6 d6, .slice B7 m7 d7] : List Value)[i]? = some v → ls[i]? = some l → NewC (w.heap.size + 2) (w3.setCell ⟨w.heap.size, 11, none⟩ (.slice B8 al.length d8)) v l from fun i v l h1 h2 => ((HN.out i v l h1 h2).belowW hbb).set_ (p := ⟨w.heap.size, 11, none⟩) (by show w.heap.size < _; omega) _)
  have H82 := hide (((newC_own hown rfl).mono (lo2 := w.heap.size + 2) (by omega)).set_ (p := ⟨w.heap.size, 11, none⟩) (by show w.heap.size < _; omega) (.slice B8 al.length d8))
  generalize w3.setCell ⟨w.heap.size, 11, none⟩ (.slice B8 al.length d8) = W3 at HX2 HB2 HR2 HN2 H82 ⊢
  clear hX2 HX HB HR HN hown hbb hX hs2 hlx hlr
  have HX := HX2
  have HB := HB2
  have HR := HR2
  have HN := HN2
  have H8 := H82
  clear HX2 HB2 HR2 HN2 H82
  go_upto_region 3 with fail
  have hX3 := HX.out
  have hs3 := HB.out.size
  have y := hX3.cell 13
  have z := hX3.frozen 13
  simp only [List.getElem?_toArray, List.getElem?_cons_zero, List.getElem?_cons_succ] at y
  refine wp_region_lit ?_
  refine wpList_val (v := .pointer (some ⟨w.heap.size, 13, none⟩)) (w' := W3) rfl (by go_simp) ?_
  try simp only [Act.put, List.setIfInBounds_toArray, List.set_cons_zero, List.set_cons_succ]
  refine wpList_val (v := .slice A9 gr.length c9) (w' := W3) rfl (by go_simp) ?_
  try simp only [Act.put, List.setIfInBounds_toArray, List.set_cons_zero, List.set_cons_succ]
  clear y z
  have hC3 := HC.out.below HB.out
  refine wpList_call_ (f := 19) rfl (by go_simp) (clone_gr (c := c9) hC3.hgr.reads (flatG_one gr) HC.out.grl) ?_
  rintro e w4 ⟨v', rfl, hown, hbb⟩
  obtain ⟨B9, d9, rfl⟩ := own_slN hown
  refine ⟨_, rfl, ?_⟩
  try simp only [Act.put, List.setIfInBounds_toArray, List.set_cons_zero, List.set_cons_succ]
  clear hC3
  have hlx : w.heap.size < W3.heap.size := hX3.lt
  have hlr : w.heap.size + 1 < W3.heap.size := HR.out.lt
  have hX := hX3.below hbb hlx
  have y := hX.cell 13
  have z := hX.frozen 13
  simp only [List.getElem?_toArray, List.getElem?_cons_zero, List.getElem?_cons_succ] at y
  refine wpList_val (v := .pointer (some ⟨w.heap.size, 13, none⟩)) (w' := w4) rfl (by go_simp) ?_
  try simp only [Act.put, List.setIfInBounds_toArray, List.set_cons_zero, List.set_cons_succ]
  refine wpList_skip (w' := w4.setCell ⟨w.heap.size, 13, none⟩ (.slice B9 gr.length d9)) rfl (by go_simp) ?_
  try simp only [Act.put, List.setIfInBounds_toArray, List.set_cons_zero, List.set_cons_succ]
  clear y z
  have HX2 := hide (show Blk (w4.setCell ⟨w.heap.size, 13, none⟩ (.slice B9 gr.length d9)) w.heap.size 30 #[.bool sv, .string (bs sw), .string (bs cm), .slice B0 m0 d0, .slice B1 m1 d1, .slice B2 m2 d2, .slice B3 m3 d3, .slice B4 m4 d4, .slice B5 m5 d5, .slice B6 m6 d6, .slice B7 m7 d7, .slice B8 al.length d8, .int .i64 own, .slice B9 gr.length d9, .int .i64 lim, .int .i64 peer, .string (bs us), .slice A10 ky.length c10, .bool ex, .bool ge, .int .u32 q0, .int .u32 q1, .int .u32 q2] from by
    have h9 := hX.set_ 13 (.slice B9 gr.length d9)
    simpa using h9)
  have HB2 := hide ((HB.out.trans (hbb.mono hs3)).setCell (p := ⟨w.heap.size, 13, none⟩) (Nat.le_refl _) (.slice B9 gr.length d9))
  have HR2 := hide ((HR.out.below hbb hlr).far (p := ⟨w.heap.size, 13, none⟩) (by simp) (.slice B9 gr.length d9))
  have HN2 := hide (show ∀ (i : Nat) v l, ([.slice B0 m0 d0, .slice B1 m1 d1, .slice B2 m2 d2, .slice B3 m3 d3, .slice B4 m4 d4, .slice B5 m5 d5, .slice B6 m6 d6, .slice B7 m7 d7] : List Value)[i]? = some v → ls[i]? = some l → NewC (w.heap.size + 2) (w4.setCell ⟨w.heap.size, 13, none⟩ (.slice B9 gr.length d9)) v l from fun i v l h1 h2 => ((HN.out i v l h1 h2).belowW hbb).set_ (p := ⟨w.heap.size, 13, none⟩) (by show w.heap.size < _; omega) _)
  have H82 := hide ((H8.out.belowW hbb).set_ (p := ⟨w.heap.size, 13, none⟩) (by show w.heap.size < _; omega) (.slice B9 gr.length d9))
  have H92 := hide (own_setC (own_baseC hown (b' := w.heap.size + 2) (by omega)) (p := ⟨w.heap.size, 13, none⟩) (by show w.heap.size < _; omega) (.slice B9 gr.length d9))
  generalize w4.setCell ⟨w.heap.size, 13, none⟩ (.slice B9 gr.length d9) = W4 at HX2 HB2 HR2 HN2 H82 H92 ⊢
  clear hX3 HX HB HR HN H8 hown hbb hX hs3 hlx hlr
  have HX := HX2
  have HB := HB2
  have HR := HR2
  have HN := HN2
  have H8 := H82
  have H9 := H92
  clear HX2 HB2 HR2 HN2 H82 H92
  go_upto_region 4 with fail
  have hX4 := HX.out
  have hs4 := HB.out.size
  have y := hX4.cell 17
  have z := hX4.frozen 17
  simp only [List.getElem?_toArray, List.getElem?_cons_zero, List.getElem?_cons_succ] at y
  refine wp_region_lit ?_
  refine wpList_val (v := .pointer (some ⟨w.heap.size, 17, none⟩)) (w' := W4) rfl (by go_simp) ?_
  try simp only [Act.put, List.setIfInBounds_toArray, List.set_cons_zero, List.set_cons_succ]
  refine wpList_val (v := .slice A10 ky.length c10) (w' := W4) rfl (by go_simp) ?_
  try simp only [Act.put, List.setIfInBounds_toArray, List.set_cons_zero, List.set_cons_succ]
  clear y z
  have hC4 := HC.out.below HB.out
  refine wpList_call_ (f := 20) rfl (by go_simp) (clone_in (c := c10) hC4.hky.reads (fun u hu => by obtain ⟨x, _, rfl⟩ := List.mem_map.1 hu; rfl) HC.out.kyl) ?_
  rintro e w5 ⟨v', rfl, hown, hbb⟩
  obtain ⟨B10, d10, rfl⟩ := own_slN hown
  refine ⟨_, rfl, ?_⟩
  try simp only [Act.put, List.setIfInBounds_toArray, List.set_cons_zero, List.set_cons_succ]
  clear hC4
  have hlx : w.heap.size < W4.heap.size := hX4.lt
  have hlr : w.heap.size + 1 < W4.heap.size := HR.out.lt
  have hX := hX4.below hbb hlx
  have y := hX.cell 17
  have z := hX.frozen 17
  simp only [List.getElem?_toArray, List.getElem?_cons_zero, List.getElem?_cons_succ] at y
  refine wpList_val (v := .pointer (some ⟨w.heap.size, 17, none⟩)) (w' := w5) rfl (by go_simp) ?_
  try simp only [Act.put, List.setIfInBounds_toArray, List.set_cons_zero, List.set_cons_succ]
  refine wpList_skip (w' := w5.setCell ⟨w.heap.size, 17, none⟩ (.slice B10 ky.length d10)) rfl (by go_simp) ?_
  try simp only [Act.put, List.setIfInBounds_toArray, List.set_cons_zero, List.set_cons_succ]
  clear y z
  have HX2 := hide (show Blk (w5.setCell ⟨w.heap.size, 17, none⟩ (.slice B10 ky.length d10)) w.heap.size 30 #[.bool sv, .string (bs sw), .string (bs cm), .slice B0 m0 d0, .slice B1 m1 d1, .slice B2 m2 d2, .slice B3 m3 d3, .slice B4 m4 d4, .slice B5 m5 d5, .slice B6 m6 d6, .slice B7 m7 d7, .slice B8 al.length d8, .int .i64 own, .slice B9 gr.length d9, .int .i64 lim, .int .i64 peer, .string (bs us), .slice B10 ky.length d10, .bool ex, .bool ge, .int .u32 q0, .int .u32 q1, .int .u32 q2] from by
    have h9 := hX.set_ 17 (.slice B10 ky.length d10)
    simpa using h9)
  have HB2 := hide ((HB.out.trans (hbb.mono hs4)).setCell (p := ⟨w.heap.size, 17, none⟩) (Nat.le_refl _) (.slice B10 ky.length d10))
  have HR2 := hide ((HR.out.below hbb hlr).far (p := ⟨w.heap.size, 17, none⟩) (by simp) (.slice B10 ky.length d10))
  have HN2 := hide (show ∀ (i : Nat) v l, ([.slice B0 m0 d0, .slice B1 m1 d1, .slice B2 m2 d2, .slice B3 m3 d3, .slice B4 m4 d4, .slice B5 m5 d5, .slice B6 m6 d6, .slice B7 m7 d7] : List Value)[i]? = some v → ls[i]? = some l → NewC (w.heap.size + 2) (w5.setCell ⟨w.heap.size, 17, none⟩ (.slice B10 ky.length d10)) v l from fun i v l h1 h2 => ((HN.out i v l h1 h2).belowW hbb).set_ (p := ⟨w.heap.size, 17, none⟩) (by show w.heap.size < _; omega) _)
  have H82 := hide ((H8.out.belowW hbb).set_ (p := ⟨w.heap.size, 17, none⟩) (by show w.heap.size < _; omega) (.slice B10 ky.length d10))
  have H92 := hide (own_setC (own_belowN H9.out hbb) (p := ⟨w.heap.size, 17, none⟩) (by show w.heap.size < _; omega) (.slice B10 ky.length d10))
  have H102 := hide (own_setC (own_baseC hown (b' := w.heap.size + 2) (by omega)) (p := ⟨w.heap.size, 17, none⟩) (by show w.heap.size < _; omega) (.slice B10 ky.length d10))
  generalize w5.setCell ⟨w.heap.size, 17, none⟩ (.slice B10 ky.length d10) = W5 at HX2 HB2 HR2 HN2 H82 H92 H102 ⊢
  clear hX4 HX HB HR HN H8 H9 hown hbb hX hs4 hlx hlr
  have HX := HX2
  have HB := HB2
  have HR := HR2
  have HN := HN2
  have H8 := H82
  have H9 := H92
  have H10 := H102
  clear HX2 HB2 HR2 HN2 H82 H92 H102
  go_upto_region 5 with fail
  refine wp_region_lit ?_
  obtain ⟨cF, hcF⟩ : ∃ c : Array Value, c = #[.bool sv, .string (bs sw), .string (bs cm), .slice B0 m0 d0, .slice B1 m1 d1, .slice B2 m2 d2, .slice B3 m3 d3, .slice B4 m4 d4, .slice B5 m5 d5, .slice B6 m6 d6, .slice B7 m7 d7, .slice B8 al.length d8, .int .i64 own, .slice B9 gr.length d9, .int .i64 lim, .int .i64 peer, .string (bs us), .slice B10 ky.length d10, .bool ex, .bool ge, .int .u32 q0, .int .u32 q1, .int .u32 q2] := ⟨_, rfl⟩
  have hlF : cF.toList.length = 23 := by rw [hcF]; rfl
  have hone : cF.all (·.oneCell') = true := by rw [hcF]; simp [Value.oneCell']
  have hX := HX.out
  rw [← hcF] at hX
  refine wpList_load_confA rfl (.tmp 1) rfl (by rfl) hX hlF ?_
  try simp only [Act.put, List.setIfInBounds_toArray, List.set_cons_zero, List.set_cons_succ]
  refine wpList_store_conf rfl (.tmp 2) (.tmp 23) rfl (by rfl) (by rfl) HR.out rfl hlF hone ?_
  have hR7 : Blk (W5.setCells (w.heap.size + 1) 0 cF.toList) (w.heap.size + 1) 30 cF := by
    have h9 := Blk.setCells cF.toList 0 HR.out
    rw [wrA_all (by rw [hlF]; rfl), Array.toArray_toList] at h9
    exact h9
  have hb7 := hide (below_setCells (b := w.heap.size + 1) (by omega) cF.toList 0 HB.out)
  have hn7 := hide (show ∀ (i : Nat) v l, ([.slice B0 m0 d0, .slice B1 m1 d1, .slice B2 m2 d2, .slice B3 m3 d3, .slice B4 m4 d4, .slice B5 m5 d5, .slice B6 m6 d6, .slice B7 m7 d7] : List Value)[i]? = some v → ls[i]? = some l → NewC w.heap.size (W5.setCells (w.heap.size + 1) 0 cF.toList) v l from fun i v l h1 h2 => (NewC.setCells (by omega) cF.toList 0 (HN.out i v l h1 h2)).mono (by omega))
  have h87 := hide ((NewC.setCells (b := w.heap.size + 1) (by omega) cF.toList 0 H8.out).mono (lo2 := w.heap.size) (by omega))
  have h97 := hide (own_baseC (own_setCells (g := w.heap.size + 1) (by omega) cF.toList 0 H9.out) (b' := w.heap.size) (by omega))
  have h107 := hide (own_baseC (own_setCells (g := w.heap.size + 1) (by omega) cF.toList 0 H10.out) (b' := w.heap.size) (by omega))
  generalize W5.setCells (w.heap.size + 1) 0 cF.toList = W7 at hR7 hb7 hn7 h87 h97 h107 ⊢
  have HR7 := hide hR7
  clear hX HX HR HB HN H8 H9 H10 HC hR7 hone
  try simp only [Act.put, List.setIfInBounds_toArray, List.set_cons_zero, List.set_cons_succ]
  go_wp2_with fail
  refine bodyPost_ret (results_conf rfl (by rfl) HR7.out hlF) rfl ?_
  subst hcF
  exact ⟨B0, m0, d0, B1, m1, d1, B2, m2, d2, B3, m3, d3, B4, m4, d4, B5, m5, d5, B6, m6, d6, B7, m7, d7, B8, d8, B9, d9, B10, d10, rfl, hn7.out, h87.out, h97.out, h107.out, hb7.out⟩
end
end Go.Proofs.YtjaipdenahlheaaDoor
