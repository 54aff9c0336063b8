/-
  The contract of the law's awake of confs. Conditions: the listed variables are there.
-/
import Derived.Test.YtjaipdenahlheaaDoorKCfL
set_option linter.unusedVariables false
set_option linter.unusedSimpArgs false
namespace Go.Proofs.YtjaipdenahlheaaDoor
open Go.RowKit Go.ChangeShapes Go.WideShapes Go.Sort
section
variable {w : World}
theorem wpList_wanted {P : Program} {ops : Array Oper} {rest : List Oper} {o : Oper} {a : Act} {Q : Exit → Act → World → Prop} (hw : Region.wanted o (yielded ops a.tmps) = true)
    (h : ∀ K : Act → World → Prop, (∀ a w, wpList P ops Q rest a w → K a w) → o.wp P a w K Q) : wpList P ops Q (o :: rest) a w := by
  unfold wpList
  rw [if_pos hw]
  exact .inl (h _ (fun _ _ h => h))
theorem wpList_valG {w' : World} {v : Value} {ops : Array Oper} {rest : List Oper} {op : Oper} {a : Act} {Q : Exit → Act → World → Prop} (hw : Region.wanted op (yielded ops a.tmps) = true) (hr : (execOp a.eval op).run Tryd.prog w = .ok (.value v) w')
    (h : wpList Tryd.prog ops Q rest (a.put op.dst v) w') : wpList Tryd.prog ops Q (op :: rest) a w :=
  wpList_wanted hw fun _ hK => by
    unfold Oper.wp
    rw [hr]
    exact hK _ _ h
theorem wpList_callG {f : FuncId} {args : Array Value} {ops : Array Oper} {rest : List Oper} {op : Oper} {a : Act} {Q : Exit → Act → World → Prop} (hw : Region.wanted op (yielded ops a.tmps) = true) (hr : (execOp a.eval op).run Tryd.prog w = .ok (.enter f args) w)
    {post : Ending → World → Prop} (hc : Calls Tryd.prog f args w post) (h : ∀ e w', post e w' → ∃ r, e = .returned r ∧ wpList Tryd.prog ops Q rest (a.put op.dst r) w') : wpList Tryd.prog ops Q (op :: rest) a w :=
  wpList_wanted hw fun _ hK => by
    unfold Oper.wp
    rw [hr, Oper.upon_enter]
    refine hc.mono fun e w' hp => ?_
    obtain ⟨r, rfl, hk⟩ := h e w' hp
    exact hK _ _ hk
theorem wpList_load_confG {ops : Array Oper} {rest : List Oper} {op : Oper} {a : Act} {Q : Exit → Act → World → Prop} (hw : Region.wanted op (yielded ops a.tmps) = true) (x : Operand) (ho : op.op = .load 30 x) {b : Nat} (hx : a.eval x = .pointer (some ⟨b, 0, none⟩)) {cv : Array Value} (hX : Blk w b 30 cv) (hl : cv.toList.length = 23)
    (h : wpList Tryd.prog ops Q rest (a.put op.dst (.agg cv)) w) : wpList Tryd.prog ops Q (op :: rest) a w :=
  wpList_valG hw (by
    unfold execOp
    have key := run_loadAt_mid (P := Tryd.prog) w b 0 30 cv.toList _ (rangeC (by rw [Array.toArray_toList]; exact hX)) Tryd.underlying30 rfl (by rw [hl]; exact infoConf)
    rw [Array.toArray_toList] at key
    simp only [ho, hx]
    simp [Sem.run_bind, key]) h
theorem zero_all8 (w : World) : All8 w [.slice none 0 0, .slice none 0 0, .slice none 0 0, .slice none 0 0, .slice none 0 0, .slice none 0 0, .slice none 0 0, .slice none 0 0] [[], [], [], [], [], [], [], []] := ⟨rfl, rfl, fun i v l h1 h2 => by
  have key : Txc w (.slice none 0 0) [] ∧ ([] : List (List UInt8)).length ≤ 1000000 ∧ ∀ y ∈ ([] : List (List UInt8)), y.length ≤ 1000000 := ⟨(newC_nil 0 w 0).txc, Nat.zero_le _, fun y hy => by cases hy⟩
  match i, h1, h2 with
  | 0, h1, h2 => cases h1; cases h2; exact key
  | 1, h1, h2 => cases h1; cases h2; exact key
  | 2, h1, h2 => cases h1; cases h2; exact key
  | 3, h1, h2 => cases h1; cases h2; exact key
  | 4, h1, h2 => cases h1; cases h2; exact key
  | 5, h1, h2 => cases h1; cases h2; exact key
  | 6, h1, h2 => cases h1; cases h2; exact key
  | 7, h1, h2 => cases h1; cases h2; exact key
  | n + 8, h1, _ => simp at h1⟩
theorem zero_cfM (w : World) : CfM w [] [] [] [.slice none 0 0, .slice none 0 0, .slice none 0 0, .slice none 0 0, .slice none 0 0, .slice none 0 0, .slice none 0 0, .slice none 0 0] [[], [], [], [], [], [], [], []] none 0 [] none [] none [] :=
  ⟨Nat.zero_le _, Nat.zero_le _, Nat.zero_le _, zero_all8 w, (newC_nil 0 w 0).txc.1, Nat.zero_le _, Nat.zero_le _, (fun y hy => by cases hy), (fun k hk => absurd hk (Nat.not_lt_zero _)), Nat.zero_le _, (fun y hy => by cases hy), (fun k hk => absurd hk (Nat.not_lt_zero _)), Nat.zero_le _⟩
theorem es_s : inC (fstE [unl (verL [112, 108, 97, 105, 110] [] != []) [118, 101, 114, 115, 105, 111, 110] 1, prR (prW plainLs), unl (princL 1) [111, 119, 110] 5, denyR (denyE [([97, 110, 110], 8)] [[115, 115, 104, 45, 101, 100, 50, 53, 53, 49, 57]] 3)]) = none := by kernel_rfl
theorem es_c : inC (fstE [unl (verL [112, 108, 97, 105, 110] [] != []) [118, 101, 114, 115, 105, 111, 110] 1, prR (prW plainLs), unl (princL 1) [112, 101, 101, 114] 5, unl (userL [97, 110, 110]) [117, 115, 101, 114] 3, keyE [8], denyR (denyE [] [[115, 115, 104, 45, 101, 100, 50, 53, 53, 49, 57]] 1), unl (groupL 2048 3072 8192) [119, 105, 115, 104] 5]) = none := by kernel_rfl
theorem es_z : inC (fstE [unl (verL [] [] != []) [118, 101, 114, 115, 105, 111, 110] 1, prR (prW [[], [], [], [], [], [], [], []]), unl (princL 0) [112, 101, 101, 114] 5, unl (userL []) [117, 115, 101, 114] 3, keyE [], denyR (denyE [] [] 1), unl (groupL 0 0 0) [119, 105, 115, 104] 5]) = some ([[99, 111, 110, 102], [118, 101, 114, 115, 105, 111, 110]], 1) := by kernel_rfl
theorem check_zero (hM : MethV w) (hW : WordV w) : Calls Tryd.prog 11 #[.agg zeroC] w (fun e w' => ∃ b, e = .returned (errV b) ∧ Below w.heap.size w w') := by
  have h := check_c (w := w) (ex := false) (ge := false) (c9 := 0) (c10 := 0) (own := 0) (lim := 0) (peer := 0) (q0 := 0) (q1 := 0) (q2 := 0) hM hW (zero_cfM w)
  rw [es_z] at h
  exact (errR_some h).mono fun e w' hp => let ⟨b, he, _, hb⟩ := hp; ⟨b, he, hb⟩
set_option maxRecDepth 100000 in
theorem ckp_s {B0 B1 B2 B3 B4 B5 B6 B7 B8 B9 : Option Addr} {m0 m1 m2 m3 m4 m5 m6 m7 d0 d1 d2 d3 d4 d5 d6 d7 d8 d9 : Nat} (hM : MethV w) (hW : WordV w) (hC : CfM w [112, 108, 97, 105, 110] [] [] [.slice B0 m0 d0, .slice B1 m1 d1, .slice B2 m2 d2, .slice B3 m3 d3, .slice B4 m4 d4, .slice B5 m5 d5, .slice B6 m6 d6, .slice B7 m7 d7] plainLs B8 d8 [[115, 115, 104, 45, 101, 100, 50, 53, 53, 49, 57]] B9 [([97, 110, 110], 8)] none []) :
    Calls Tryd.prog 11 #[.agg #[.bool true, .string ⟨#[112, 108, 97, 105, 110]⟩, .string ⟨#[]⟩, .slice B0 m0 d0, .slice B1 m1 d1, .slice B2 m2 d2, .slice B3 m3 d3, .slice B4 m4 d4, .slice B5 m5 d5, .slice B6 m6 d6, .slice B7 m7 d7, .slice B8 1 d8, .int .i64 1, .slice B9 1 d9, .int .i64 3, .int .i64 0, .string ⟨#[]⟩, .slice none 0 0, .bool false, .bool false, .int .u32 0, .int .u32 0, .int .u32 0]] w (fun e w' => e = .returned .nilIface ∧ Below w.heap.size w w') := by
  have h := check_s (ex := false) (ge := false) (own := 1) (lim := 3) (peer := 0) (q0 := 0) (q1 := 0) (q2 := 0) (c9 := d9) (c10 := 0) hM hW hC
  rw [es_s] at h
  exact errR_none h
set_option maxRecDepth 100000 in
theorem ckp_c {B0 B1 B2 B3 B4 B5 B6 B7 B8 B9 : Option Addr} {m0 m1 m2 m3 m4 m5 m6 m7 d0 d1 d2 d3 d4 d5 d6 d7 d8 d9 : Nat} (hM : MethV w) (hW : WordV w) (hC : CfM w [112, 108, 97, 105, 110] [] [97, 110, 110] [.slice B0 m0 d0, .slice B1 m1 d1, .slice B2 m2 d2, .slice B3 m3 d3, .slice B4 m4 d4, .slice B5 m5 d5, .slice B6 m6 d6, .slice B7 m7 d7] plainLs B8 d8 [[115, 115, 104, 45, 101, 100, 50, 53, 53, 49, 57]] none [] B9 [8]) :
    Calls Tryd.prog 11 #[.agg #[.bool false, .string ⟨#[112, 108, 97, 105, 110]⟩, .string ⟨#[]⟩, .slice B0 m0 d0, .slice B1 m1 d1, .slice B2 m2 d2, .slice B3 m3 d3, .slice B4 m4 d4, .slice B5 m5 d5, .slice B6 m6 d6, .slice B7 m7 d7, .slice B8 1 d8, .int .i64 0, .slice none 0 0, .int .i64 0, .int .i64 1, .string ⟨#[97, 110, 110]⟩, .slice B9 1 d9, .bool true, .bool false, .int .u32 2048, .int .u32 3072, .int .u32 8192]] w (fun e w' => e = .returned .nilIface ∧ Below w.heap.size w w') := by
  have h := check_c (ex := true) (ge := false) (own := 0) (lim := 0) (peer := 1) (q0 := 2048) (q1 := 3072) (q2 := 8192) (c9 := 0) (c10 := d9) hM hW hC
  rw [es_c] at h
  exact errR_none h
set_option maxHeartbeats 1000000 in
set_option maxRecDepth 100000 in
theorem awake25_any (hM : MethV w) (hW : WordV w) : Calls Tryd.prog 6 #[] w (fun e w' => e = .returned (.bool true) ∧ Below w.heap.size w w') := by
  have HV := hide (fun (W : World) (hb : Below w.heap.size w W) => And.intro (hM.below hb) (hW.below hb))
  have hb00 := Below.refl w.heap.size w
  clear hM hW
  go_enter Tryd.func6, Tryd.ntmps6
  go_upto_region 1 with fail
  refine wp_region_lit ?_
  refine wpList_call_ (f := 9) (args := #[.bool true, .int .i64 1]) rfl (by go_simp) (cplain_s (HV.out _ hb00).1 1) ?_
  rintro e w1 ⟨B0, m0, d0, B1, m1, d1, B2, m2, d2, B3, m3, d3, B4, m4, d4, B5, m5, d5, B6, m6, d6, B7, m7, d7, B8, d8, B9, d9, rfl, hC1, hb1⟩
  refine ⟨_, rfl, ?_⟩
  try simp only [Act.put, List.setIfInBounds_toArray, List.set_cons_zero, List.set_cons_succ]
  have K1 := hide (fun (W : World) (hb : Below w1.heap.size w1 W) => ckp_s (d9 := d9) (HV.out W (hb1.trans (hb.mono hb1.size))).1 (HV.out W (hb1.trans (hb.mono hb1.size))).2 (hC1.below hb))
  obtain ⟨cv1, hcv1⟩ : ∃ c : Array Value, c = #[.bool true, .string ⟨#[112, 108, 97, 105, 110]⟩, .string ⟨#[]⟩, .slice B0 m0 d0, .slice B1 m1 d1, .slice B2 m2 d2, .slice B3 m3 d3, .slice B4 m4 d4, .slice B5 m5 d5, .slice B6 m6 d6, .slice B7 m7 d7, .slice B8 1 d8, .int .i64 1, .slice B9 1 d9, .int .i64 3, .int .i64 0, .string ⟨#[]⟩, .slice none 0 0, .bool false, .bool false, .int .u32 0, .int .u32 0, .int .u32 0] := ⟨_, rfl⟩
  have K1 := hide (show ∀ W, Below w1.heap.size w1 W → Calls Tryd.prog 11 #[.agg cv1] W (fun e w' => e = .returned .nilIface ∧ Below W.heap.size W w') from by rw [hcv1]; exact K1.out)
  have hl1 : cv1.toList.length = 23 := by rw [hcv1]; rfl
  have ho1 : cv1.all (·.oneCell') = true := by rw [hcv1]; simp [Value.oneCell']
  have hp1 : cv1[0]? = some (.bool true) ∧ cv1[12]? = some (.int .i64 1) := by rw [hcv1]; exact ⟨rfl, rfl⟩
  rw [← hcv1]
  clear hcv1 hC1
  refine wpList_call_ (f := 9) (args := #[.bool false, .int .i64 1]) rfl (by go_simp) (cplain_c (HV.out _ hb1).1 1) ?_
  rintro e w2 ⟨B0, m0, d0, B1, m1, d1, B2, m2, d2, B3, m3, d3, B4, m4, d4, B5, m5, d5, B6, m6, d6, B7, m7, d7, B8, d8, B9, d9, rfl, hC2, hb2⟩
  refine ⟨_, rfl, ?_⟩
  try simp only [Act.put, List.setIfInBounds_toArray, List.set_cons_zero, List.set_cons_succ]
  have hb12 := hb1.trans (hb2.mono hb1.size)
  have K2 := hide (fun (W : World) (hb : Below w2.heap.size w2 W) => ckp_c (d9 := d9) (HV.out W (hb12.trans (hb.mono hb12.size))).1 (HV.out W (hb12.trans (hb.mono hb12.size))).2 (hC2.below hb))
  obtain ⟨cv2, hcv2⟩ : ∃ c : Array Value, c = #[.bool false, .string ⟨#[112, 108, 97, 105, 110]⟩, .string ⟨#[]⟩, .slice B0 m0 d0, .slice B1 m1 d1, .slice B2 m2 d2, .slice B3 m3 d3, .slice B4 m4 d4, .slice B5 m5 d5, .slice B6 m6 d6, .slice B7 m7 d7, .slice B8 1 d8, .int .i64 0, .slice none 0 0, .int .i64 0, .int .i64 1, .string ⟨#[97, 110, 110]⟩, .slice B9 1 d9, .bool true, .bool false, .int .u32 2048, .int .u32 3072, .int .u32 8192] := ⟨_, rfl⟩
  have K2 := hide (show ∀ W, Below w2.heap.size w2 W → Calls Tryd.prog 11 #[.agg cv2] W (fun e w' => e = .returned .nilIface ∧ Below W.heap.size W w') from by rw [hcv2]; exact K2.out)
  have hl2 : cv2.toList.length = 23 := by rw [hcv2]; rfl
  have ho2 : cv2.all (·.oneCell') = true := by rw [hcv2]; simp [Value.oneCell']
  have hp2 : cv2[0]? = some (.bool false) ∧ cv2[15]? = some (.int .i64 1) := by rw [hcv2]; exact ⟨rfl, rfl⟩
  rw [← hcv2]
  clear hcv2 hC2
  obtain ⟨w3, hw3⟩ : ∃ w3, w3 = w2.alloc (.cells zeroC 30) := ⟨_, rfl⟩
  have hX3 : Blk w3 w2.heap.size 30 zeroC := by rw [hw3]; exact Blk.new w2 _ _
  have hb3 : Below w2.heap.size w2 w3 := by rw [hw3]; exact bel_newN _
  refine wpList_val (v := .pointer (some ⟨w2.heap.size, 0, none⟩)) (w' := w3) rfl (by rw [hw3]; exact allocC _ rfl _ _) ?_
  clear hw3
  try simp only [Act.put, List.setIfInBounds_toArray, List.set_cons_zero, List.set_cons_succ]
  obtain ⟨w4, hw4⟩ : ∃ w4, w4 = w3.alloc (.cells zeroC 30) := ⟨_, rfl⟩
  have hX4 : Blk w4 w3.heap.size 30 zeroC := by rw [hw4]; exact Blk.new w3 _ _
  have hb4 : Below w3.heap.size w3 w4 := by rw [hw4]; exact bel_newN _
  refine wpList_val (v := .pointer (some ⟨w3.heap.size, 0, none⟩)) (w' := w4) rfl (by rw [hw4]; exact allocC _ rfl _ _) ?_
  clear hw4
  try simp only [Act.put, List.setIfInBounds_toArray, List.set_cons_zero, List.set_cons_succ]
  have hX34 := hX3.below hb4 hX3.lt
  have hne : w2.heap.size ≠ w3.heap.size := by have := hX3.lt; omega
  have hle : w2.heap.size ≤ w3.heap.size := hb3.size
  have hb24 := hb3.trans (hb4.mono hb3.size)
  refine wpList_store_conf rfl (.tmp 1) (.tmp 3) rfl (by rfl) (by rfl) hX34 rfl hl1 ho1 ?_
  have hX5 : Blk (w4.setCells w2.heap.size 0 cv1.toList) w2.heap.size 30 cv1 := by
    have h9 := Blk.setCells cv1.toList 0 hX34
    rw [wrA_all (by rw [hl1]; rfl), Array.toArray_toList] at h9
    exact h9
  have hX6 := Blk.setCells_far (Ne.symm hne) cv1.toList 0 hX4
  have hb5 : Below w2.heap.size w2 (w4.setCells w2.heap.size 0 cv1.toList) := below_setCells (Nat.le_refl _) _ _ hb24
  generalize w4.setCells w2.heap.size 0 cv1.toList = w5 at hX5 hX6 hb5 ⊢
  try simp only [Act.put, List.setIfInBounds_toArray, List.set_cons_zero, List.set_cons_succ]
  refine wpList_store_conf rfl (.tmp 2) (.tmp 4) rfl (by rfl) (by rfl) hX6 rfl hl2 ho2 ?_
  have hX7 : Blk (w5.setCells w3.heap.size 0 cv2.toList) w3.heap.size 30 cv2 := by
    have h9 := Blk.setCells cv2.toList 0 hX6
    rw [wrA_all (by rw [hl2]; rfl), Array.toArray_toList] at h9
    exact h9
  have hX8 := Blk.setCells_far hne cv2.toList 0 hX5
  have hb6 : Below w2.heap.size w2 (w5.setCells w3.heap.size 0 cv2.toList) := below_setCells hle _ _ hb5
  generalize w5.setCells w3.heap.size 0 cv2.toList = w6 at hX7 hX8 hb6 ⊢
  try simp only [Act.put, List.setIfInBounds_toArray, List.set_cons_zero, List.set_cons_succ]
  generalize w2.heap.size = b1 at hX3 hX34 hX5 hX8 hne hle ⊢
  generalize w3.heap.size = b2 at hX4 hX6 hX7 hne hle ⊢
  have HB6 := hide (hb12.trans (hb6.mono hb12.size))
  have HBx := hide (And.intro (hb2.trans (hb6.mono hb2.size)) hb6)
  have HX := hide (And.intro hX8 hX7)
  have y0 := (hX8.cell 0).trans hp1.1
  have y1 := (hX8.cell 12).trans hp1.2
  have y2 := (hX7.cell 0).trans hp2.1
  have y3 := (hX7.cell 15).trans hp2.2
  have K3 := hide (fun (W : World) (hb : Below w.heap.size w W) => check_zero (HV.out W hb).1 (HV.out W hb).2)
  clear hX3 hX34 hX4 hX5 hX6 hX7 hX8 hb1 hb2 hb3 hb4 hb5 hb6 hb12 hb24 hne hle ho1 ho2 hp1 hp2 HV
  go_upto_region 2 with fail
  refine wp_region_lit ?_
  refine wpList_valG (v := .pointer (some ⟨b1, 0, none⟩)) (w' := w6) (by rfl) (by first | rfl | go_simp) ?_
  try simp only [Act.put, List.setIfInBounds_toArray, List.set_cons_zero, List.set_cons_succ]
  refine wpList_valG (v := .bool true) (w' := w6) (by rfl) (by first | rfl | go_simp) ?_
  try simp only [Act.put, List.setIfInBounds_toArray, List.set_cons_zero, List.set_cons_succ]
  refine wpList_valG (v := .bool true) (w' := w6) (by rfl) (by first | rfl | go_simp) ?_
  try simp only [Act.put, List.setIfInBounds_toArray, List.set_cons_zero, List.set_cons_succ]
  refine wpList_valG (v := .pointer (some ⟨b2, 0, none⟩)) (w' := w6) (by rfl) (by first | rfl | go_simp) ?_
  try simp only [Act.put, List.setIfInBounds_toArray, List.set_cons_zero, List.set_cons_succ]
  refine wpList_valG (v := .bool false) (w' := w6) (by rfl) (by first | rfl | go_simp) ?_
  try simp only [Act.put, List.setIfInBounds_toArray, List.set_cons_zero, List.set_cons_succ]
  refine wpList_valG (v := .bool true) (w' := w6) (by rfl) (by first | rfl | go_simp) ?_
  try simp only [Act.put, List.setIfInBounds_toArray, List.set_cons_zero, List.set_cons_succ]
  refine wpList_valG (v := .bool true) (w' := w6) (by rfl) (by first | rfl | go_simp) ?_
  try simp only [Act.put, List.setIfInBounds_toArray, List.set_cons_zero, List.set_cons_succ]
  refine wpList_valG (v := .bool true) (w' := w6) (by rfl) (by first | rfl | go_simp) ?_
  try simp only [Act.put, List.setIfInBounds_toArray, List.set_cons_zero, List.set_cons_succ]
  refine wpList_valG (v := .pointer (some ⟨b1, 12, none⟩)) (w' := w6) (by rfl) (by first | rfl | go_simp) ?_
  try simp only [Act.put, List.setIfInBounds_toArray, List.set_cons_zero, List.set_cons_succ]
  refine wpList_valG (v := .int .i64 1) (w' := w6) (by rfl) (by first | rfl | go_simp) ?_
  try simp only [Act.put, List.setIfInBounds_toArray, List.set_cons_zero, List.set_cons_succ]
  refine wpList_valG (v := .bool true) (w' := w6) (by rfl) (by first | rfl | go_simp) ?_
  try simp only [Act.put, List.setIfInBounds_toArray, List.set_cons_zero, List.set_cons_succ]
  refine wpList_valG (v := .bool true) (w' := w6) (by rfl) (by first | rfl | go_simp) ?_
  try simp only [Act.put, List.setIfInBounds_toArray, List.set_cons_zero, List.set_cons_succ]
  refine wpList_valG (v := .bool true) (w' := w6) (by rfl) (by first | rfl | go_simp) ?_
  try simp only [Act.put, List.setIfInBounds_toArray, List.set_cons_zero, List.set_cons_succ]
  refine wpList_valG (v := .pointer (some ⟨b2, 15, none⟩)) (w' := w6) (by rfl) (by first | rfl | go_simp) ?_
  try simp only [Act.put, List.setIfInBounds_toArray, List.set_cons_zero, List.set_cons_succ]
  refine wpList_valG (v := .int .i64 1) (w' := w6) (by rfl) (by first | rfl | go_simp) ?_
  try simp only [Act.put, List.setIfInBounds_toArray, List.set_cons_zero, List.set_cons_succ]
  refine wpList_valG (v := .bool true) (w' := w6) (by rfl) (by first | rfl | go_simp) ?_
  try simp only [Act.put, List.setIfInBounds_toArray, List.set_cons_zero, List.set_cons_succ]
  refine wpList_valG (v := .bool true) (w' := w6) (by rfl) (by first | rfl | go_simp) ?_
  try simp only [Act.put, List.setIfInBounds_toArray, List.set_cons_zero, List.set_cons_succ]
  refine wpList_valG (v := .bool true) (w' := w6) (by rfl) (by first | rfl | go_simp) ?_
  try simp only [Act.put, List.setIfInBounds_toArray, List.set_cons_zero, List.set_cons_succ]
  refine wpList_load_confG (by rfl) (.tmp 1) rfl (by rfl) (HX.out.1) hl1 ?_
  try simp only [Act.put, List.setIfInBounds_toArray, List.set_cons_zero, List.set_cons_succ]
  refine wpList_callG (f := 11) (args := #[.agg cv1]) (by rfl) (by go_simp) (K1.out _ HBx.out.1) ?_
  rintro e w7 ⟨rfl, hb7⟩
  refine ⟨_, rfl, ?_⟩
  try simp only [Act.put, List.setIfInBounds_toArray, List.set_cons_zero, List.set_cons_succ]
  refine wpList_valG (v := .bool true) (w' := w7) (by rfl) (by first | rfl | go_simp) ?_
  try simp only [Act.put, List.setIfInBounds_toArray, List.set_cons_zero, List.set_cons_succ]
  refine wpList_valG (v := .bool true) (w' := w7) (by rfl) (by first | rfl | go_simp) ?_
  try simp only [Act.put, List.setIfInBounds_toArray, List.set_cons_zero, List.set_cons_succ]
  refine wpList_valG (v := .bool true) (w' := w7) (by rfl) (by first | rfl | go_simp) ?_
  try simp only [Act.put, List.setIfInBounds_toArray, List.set_cons_zero, List.set_cons_succ]
  refine wpList_load_confG (by rfl) (.tmp 2) rfl (by rfl) (HX.out.2.below hb7 HX.out.2.lt) hl2 ?_
  try simp only [Act.put, List.setIfInBounds_toArray, List.set_cons_zero, List.set_cons_succ]
  refine wpList_callG (f := 11) (args := #[.agg cv2]) (by rfl) (by go_simp) (K2.out _ (HBx.out.2.trans (hb7.mono HBx.out.2.size))) ?_
  rintro e w8 ⟨rfl, hb8⟩
  refine ⟨_, rfl, ?_⟩
  try simp only [Act.put, List.setIfInBounds_toArray, List.set_cons_zero, List.set_cons_succ]
  refine wpList_valG (v := .bool true) (w' := w8) (by rfl) (by first | rfl | go_simp) ?_
  try simp only [Act.put, List.setIfInBounds_toArray, List.set_cons_zero, List.set_cons_succ]
  refine wpList_valG (v := .bool true) (w' := w8) (by rfl) (by first | rfl | go_simp) ?_
  try simp only [Act.put, List.setIfInBounds_toArray, List.set_cons_zero, List.set_cons_succ]
  refine wpList_valG (v := .bool true) (w' := w8) (by rfl) (by first | rfl | go_simp) ?_
  try simp only [Act.put, List.setIfInBounds_toArray, List.set_cons_zero, List.set_cons_succ]
  have hb68 := hb7.trans (hb8.mono hb7.size)
  have HB8 := hide (HB6.out.trans (hb68.mono HB6.out.size))
  refine wpList_valG (v := .agg zeroC) (w' := w8) (by rfl) (by unfold zeroC; go_simp) ?_
  try simp only [Act.put, List.setIfInBounds_toArray, List.set_cons_zero, List.set_cons_succ]
  refine wpList_callG (f := 11) (args := #[.agg zeroC]) (by rfl) (by go_simp) (K3.out _ HB8.out) ?_
  rintro e w9 ⟨b, rfl, hb9⟩
  refine ⟨_, rfl, ?_⟩
  try simp only [Act.put, List.setIfInBounds_toArray, List.set_cons_zero, List.set_cons_succ]
  unfold errV
  refine wpList_valG (v := .bool true) (w' := w9) (by rfl) (by first | rfl | go_simp) ?_
  try simp only [Act.put, List.setIfInBounds_toArray, List.set_cons_zero, List.set_cons_succ]
  refine wpList_valG (v := .bool true) (w' := w9) (by rfl) (by first | rfl | go_simp) ?_
  try simp only [Act.put, List.setIfInBounds_toArray, List.set_cons_zero, List.set_cons_succ]
  go_wp2_with fail
  go_ret
  exact ⟨rfl, HB8.out.trans (hb9.mono HB8.out.size)⟩
end
end Go.Proofs.YtjaipdenahlheaaDoor
