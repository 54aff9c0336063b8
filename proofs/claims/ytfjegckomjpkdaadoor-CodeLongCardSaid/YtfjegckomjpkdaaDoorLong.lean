/-
  CodeLong's walk. Conditions: a byte.
-/
import Derived.Test.YtfjegckomjpkdaaDoorOpq
import Derived.Deep.OwnRows
import Derived.Lib.BufferWrite
import Derived.Lib.SlBuf
set_option linter.unusedVariables false
set_option linter.unusedSimpArgs false
namespace Go.Proofs.YtfjegckomjpkdaaDoor
open Go.RowKit Go.ChangeShapes Go.WideShapes Go.Sort
theorem u8_info : (Tryd.prog.info? 5).map (fun i => (i.zero, i.size, i.bytes)) = some (some (.int .u8 0), 1, 1) := by kernel_rfl
theorem made_bytes (n : Nat) : madeCells #[Value.int .u8 0] n = Array.replicate n (Value.int .u8 0) := by
  apply Array.ext
  · simp [madeCells]
  · intro i h1 h2
    simp [madeCells, Nat.mod_one]
theorem conv_blk {w : World} {g c : Nat} {t : TypeId} {cs : Array Value} (hb : Blk w g t cs) (l : List UInt8) (n : Nat) (hn : l.length = n) (hc : ∀ j (hj : j < l.length), cs[j]? = some (.int .u8 (l[j].toNat : Int))) :
    (convert 34 9 (.slice (some ⟨g, 0, none⟩) n c)).run Tryd.prog w = .ok (.string ⟨l.toArray⟩) w := by
  subst hn
  refine run_convert_bytes_back w 34 9 5 _ c l Tryd.underlying34 Tryd.underlying5 Tryd.underlying9 fun j hj => ?_
  rw [add_zero_, hb.cell]
  exact hc j hj
def zerosB (n : Nat) : ByteArray := ⟨(List.replicate n 0).toArray⟩
theorem zerosB_data (n : Nat) : (zerosB n).data.toList = List.replicate n 0 := rfl
theorem zerosB_size (n : Nat) : (zerosB n).size = n := by
  show (zerosB n).data.toList.length = n
  rw [zerosB_data, List.length_replicate]
theorem make_int (N : Nat) (hN : N ≤ 1000000) (w : World) :
    (Instr.makeSlice 34 (.int .i64 (N : Int)) (.int .i64 (N : Int))).run Tryd.prog w = .ok (.slice (some ⟨w.heap.size, 0, none⟩) N N) (w.alloc (.cells (madeCells #[.int .u8 0] N) 5)) :=
  run_make_row' 34 5 _ 1 Tryd.underlying34 u8_info rfl .i64 .i64 N (by omega) (by omega) w
theorem conv_made {w : World} {b n : Nat} {t : TypeId} (hb : Blk w b t (madeCells #[.int .u8 0] n)) :
    (convert 34 9 (.slice (some ⟨b, 0, none⟩) n n)).run Tryd.prog w = .ok (.string (zerosB n)) w := by
  refine conv_blk hb (List.replicate n 0) n (by simp) fun j hj => ?_
  rw [made_bytes, Array.getElem?_replicate, if_pos (by simpa using hj)]
  simp
theorem mk34 (N : Nat) (hN : N ≤ 1000000) {x : Operand} (o : Oper) (ho : o.op = .makeSlice 34 x x) (ρ : Operand → Value) (hρ : ρ x = .int .i64 (N : Int)) (w : World) :
    (execOp ρ o).run Tryd.prog w = .ok (.value (.slice (some ⟨w.heap.size, 0, none⟩) N N)) (w.alloc (.cells (madeCells #[.int .u8 0] N) 5)) := by
  have h := make_int N hN w
  obtain ⟨d, op, t, p, af, gd⟩ := o
  simp only at ho
  subst ho
  go_simp
theorem cv34 {w : World} {b N : Nat} {t : TypeId} (hb : Blk w b t (madeCells #[.int .u8 0] N)) {x : Operand} (o : Oper) (ho : o.op = .convert 34 9 x) (ρ : Operand → Value) (hρ : ρ x = .slice (some ⟨b, 0, none⟩) N N) :
    (execOp ρ o).run Tryd.prog w = .ok (.value (.string (zerosB N))) w := by
  have h := conv_made hb
  obtain ⟨d, op, t, p, af, gd⟩ := o
  simp only at ho
  subst ho
  go_simp
theorem callU {x : Operand} {u : Value} {ts : Array TypeId} (o : Oper) (ho : o.op = .call { callee := .value (.func 14), args := #[x], argTypes := ts }) (a : Act) (hx : a.eval x = u) (w : World) : (execOp a.eval o).run Tryd.prog w = .ok (.enter 14 #[u]) w := by
  obtain ⟨d, op, t, p, af, gd⟩ := o
  simp only at ho
  subst ho
  have h1 : ∀ n : Nat, a.eval (.func n) = .func (.func n) #[] #[] := fun n => rfl
  subst hx
  go_simp
section
variable {P : Program} {Q : Exit → Act → World → Prop} {ops : Array Oper}
theorem step_call1 {o : Oper} {a : Act} {w : World} {u : Value} {f : FuncId} {K : Act → World → Prop} {F : Prop} (hgd : o.guard = none)
    (hr : (execOp a.eval o).run P w = .ok (.enter f #[u]) w) {post : Ending → World → Prop} (hc : Calls P f #[u] w post) (h : ∀ e w', post e w' → ∃ r, e = .returned r ∧ K (a.put o.dst r) w') : if Region.wanted o (yielded ops a.tmps) = true then Oper.wp P o a w K Q else F := by
  rw [if_pos (by simp [Region.wanted, hgd])]
  unfold Oper.wp
  rw [hr, Oper.upon_enter]
  refine hc.mono fun e w' hp => ?_
  obtain ⟨r, rfl, hk⟩ := h e w' hp
  exact hk
theorem step_val1 {o : Oper} {a : Act} {w w2 : World} {x : Operand} {u v : Value} {K : Act → World → Prop} {F : Prop} (hgd : o.guard = none) (hx : a.eval x = u)
    (hr : ∀ ρ : Operand → Value, ρ x = u → (execOp ρ o).run P w = .ok (.value v) w2) (h : K (a.put o.dst v) w2) : if Region.wanted o (yielded ops a.tmps) = true then Oper.wp P o a w K Q else F := by
  rw [if_pos (by simp [Region.wanted, hgd])]
  unfold Oper.wp
  rw [hr a.eval hx]
  exact h
end
/-- A term of so many zeros. -/
def zT (N : Nat) : Tm := .mk 1 0 0 (zerosB N) []
theorem zT_good {N : Nat} (h : N ≤ 1000000) : good (zT N) := good_leaf ⟨rfl, rfl, rfl, by rw [zerosB_size]; omega⟩
theorem zT_enc (N : Nat) : enc (zT N) = 241 :: (q4 N ++ List.replicate N 0) := by
  simp [zT, enc, encs, head, mid, zerosB_data]
theorem zT_len (N : Nat) : (enc (zT N)).length = 5 + N := by
  rw [zT_enc]
  simp [q4_len]
  omega
section
variable {w : World}
theorem opq_data (x : ByteArray) (hx : ∃ r, x.data.toList = 241 :: r) (hs : x.size ≤ 1000000) (w : World) : Calls Tryd.prog 8 #[.string x] w (fun e w' => e = .returned (.bool false) ∧ w' = w) := by
  obtain ⟨r, hr⟩ := hx
  have hl := size_len x
  rw [hr] at hl
  have hp : 0 < x.size := by rw [← hl]; simp
  have hi : (0 : Int) < x.size := by omega
  have hx1 : (x.toList == []) = false := by
    rw [beq_eq_false_iff_ne, ByteArray.toList_eq, hr]
    simp
  have h0 : x.data.toList = x[0] :: x.data.toList.drop 1 := by
    have := drop_cons (s := x.data.toList) (p := 0) hp
    rw [List.drop_zero] at this
    exact this
  rw [hr] at h0
  injection h0 with h1 _
  have hqb : ((((x[0]'hp).toNat : Nat) : Int) == 241) = true := by rw [beq_iff_eq, ← h1]; rfl
  clear hl hr h1
  go_enter Tryd.func8, Tryd.ntmps8
  go_wp2_with fail
  go_ret
  exact ⟨rfl, rfl⟩
set_option maxHeartbeats 4000000 in
set_option maxRecDepth 100000 in
theorem long_any (hT : Tab w) (n : Nat) (hn : n < 256) : Calls Tryd.prog 4 #[.int .u8 n] w (fun e w' => e = .returned (.bool true) ∧ Below w.heap.size w w') := by
  have HAW := hide (fun (W : World) (hb : Below w.heap.size w W) => awake02_any (hT.below hb))
  have HT := hide hT
  obtain ⟨N, hNe⟩ : ∃ N : Nat, N = 131055 + n % 31 := ⟨_, rfl⟩
  obtain ⟨M, hMe⟩ : ∃ M : Nat, M = N + 5 := ⟨_, rfl⟩
  have hN : N ≤ 1000000 := by omega
  have hM1 : 131060 ≤ M := by omega
  have hM2 : M ≤ 131090 := by omega
  have E1 := hide (show (131060 + (n : Int) % 31) = (M : Int) by omega)
  have HU := hide (fun W => rU32_any N W (by omega))
  have w5 : IntKind.i64.wrap ((M : Int) - 5) = (N : Int) := by rw [IntKind.wrap_i64]; omega
  obtain ⟨X1, hX1⟩ : ∃ X1 : ByteArray, X1 = ⟨#[241]⟩ ++ bs (q4 N) := ⟨_, rfl⟩
  obtain ⟨X, hX⟩ : ∃ X : ByteArray, X = X1 ++ zerosB N := ⟨_, rfl⟩
  have s1 : X1.size = 5 := by rw [hX1, ByteArray.size_append]; rfl
  have hXd : X.data.toList = enc (zT N) := by
    rw [hX, hX1, zT_enc]
    simp [ByteArray.data_append, zerosB_data, bs_data]
  have hXs : X.size = M := by rw [← size_len, hXd, zT_len]; omega
  have a1 : ∀ W, (Op.stringOp .add ⟨#[241]⟩ (bs (q4 N))).run Tryd.prog W = .ok (.string X1) W := fun W => by
    rw [hX1]
    exact run_string_add_sum W _ _ (by show 1 + 4 ≤ _; omega)
  have a2 : ∀ W, (Op.stringOp .add X1 (zerosB N)).run Tryd.prog W = .ok (.string X) W := fun W => by
    rw [hX]
    exact run_string_add_sum W _ _ (by rw [s1, zerosB_size]; omega)
  have HXd := hide hXd
  have HXs := hide hXs
  have HM := hide hMe
  clear hX hX1 hXd hXs s1 hNe hMe hT
  have hni : (0 : Int) ≤ n := by omega
  go_enter Tryd.func4, Tryd.ntmps4
  go_upto_region 2 with fail
  rw [E1.out]
  have HN := hide (new_any)
  go_cut [4] (fun v wc => v = .string X ∧ Below w.heap.size w wc)
  case first =>
    as_aux_lemma =>
      refine wp_region_E (fun _ => True) (fun _ => false) (by kernel_rfl) ?_
      obtain ⟨W0, hW0⟩ : ∃ W0, W0 = w.drew := ⟨_, rfl⟩
      rw [← hW0]
      have hb0 : Below w.heap.size w W0 := by rw [hW0]; exact (Below.refl _ _).drew
      clear hW0
      refine wpAnyE_takeY (i := 0) (oi := ?_) (v := .int .i64 M) ?_ ?_ ?_ ?_ ?_ ?_ ?_ ?_
      rotate_left 1
      · (first | (simp only [List.getElem?_toArray, List.getElem?_cons_succ, List.getElem?_cons_zero]; exact rfl) | exact rfl)
      · kernel_rfl
      · kernel_rfl
      · kernel_rfl
      · rfl
      · exact fun _ _ _ h => h
      · exact Or.inl ⟨by rfl, fun w _ => by go_simp⟩
      try simp only [Act.put, List.setIfInBounds_toArray, List.set_cons_zero, List.set_cons_succ]
      refine wpAnyE_takeY (i := 1) (oi := ?_) (v := .int .i64 N) ?_ ?_ ?_ ?_ ?_ ?_ ?_ ?_
      rotate_left 1
      · (first | (simp only [List.getElem?_toArray, List.getElem?_cons_succ, List.getElem?_cons_zero]; exact rfl) | exact rfl)
      · kernel_rfl
      · kernel_rfl
      · kernel_rfl
      · rfl
      · exact fun _ _ _ h => h
      · exact Or.inl ⟨by rfl, fun w _ => by go_simp⟩
      try simp only [Act.put, List.setIfInBounds_toArray, List.set_cons_zero, List.set_cons_succ]
      refine wpAnyE_takeY (i := 4) (oi := ?_) (v := .int .i64 M) ?_ ?_ ?_ ?_ ?_ ?_ ?_ ?_
      rotate_left 1
      · (first | (simp only [List.getElem?_toArray, List.getElem?_cons_succ, List.getElem?_cons_zero]; exact rfl) | exact rfl)
      · kernel_rfl
      · kernel_rfl
      · kernel_rfl
      · rfl
      · exact fun _ _ _ h => h
      · exact Or.inl ⟨by rfl, fun w _ => by go_simp⟩
      try simp only [Act.put, List.setIfInBounds_toArray, List.set_cons_zero, List.set_cons_succ]
      refine wpAnyE_takeY (i := 5) (oi := ?_) (v := .int .i64 N) ?_ ?_ ?_ ?_ ?_ ?_ ?_ ?_
      rotate_left 1
      · (first | (simp only [List.getElem?_toArray, List.getElem?_cons_succ, List.getElem?_cons_zero]; exact rfl) | exact rfl)
      · kernel_rfl
      · kernel_rfl
      · kernel_rfl
      · rfl
      · exact fun _ _ _ h => h
      · exact Or.inl ⟨by rfl, fun w _ => by go_simp⟩
      try simp only [Act.put, List.setIfInBounds_toArray, List.set_cons_zero, List.set_cons_succ]
      refine wpAnyE_ready (rs := [2, 6]) (by kernel_rfl) (by simp) ?_
      refine AllReadyE.late (o := ?_) ?_ rfl (fun K hK => ?_) ?_
      rotate_left 1
      · (first | (simp only [List.getElem?_toArray, List.getElem?_cons_succ, List.getElem?_cons_zero]; exact rfl) | exact rfl)
      · skip
        refine step_call1 (u := .int .i64 N) (f := 14) rfl (callU (x := .tmp 13) _ rfl _ (by rfl) _) (HU.out W0) ?_
        rintro e W1 ⟨rfl, hbc⟩
        refine ⟨_, rfl, ?_⟩
        have hb1 := hb0.trans (hbc.mono hb0.size)
        clear hbc
        refine hK.out _ _ ?_
        clear hK K
        try simp only [Act.put, List.setIfInBounds_toArray, List.set_cons_zero, List.set_cons_succ]
        refine wpAnyE_takeY (i := 3) (oi := ?_) (v := .string X1) ?_ ?_ ?_ ?_ ?_ ?_ ?_ ?_
        rotate_left 1
        · (first | (simp only [List.getElem?_toArray, List.getElem?_cons_succ, List.getElem?_cons_zero]; exact rfl) | exact rfl)
        · kernel_rfl
        · kernel_rfl
        · kernel_rfl
        · rfl
        · exact fun _ _ _ h => h
        · exact Or.inl ⟨by rfl, fun w _ => by go_simp⟩
        try simp only [Act.put, List.setIfInBounds_toArray, List.set_cons_zero, List.set_cons_succ]
        refine wpAnyE_ready (rs := [6]) (by kernel_rfl) (by simp) ?_
        refine AllReadyE.late (o := ?_) ?_ rfl (fun K hK => ?_) AllReadyE.nil
        rotate_left 1
        · (first | (simp only [List.getElem?_toArray, List.getElem?_cons_succ, List.getElem?_cons_zero]; exact rfl) | exact rfl)
        refine step_val1 (x := .tmp 17) (u := .int .i64 N) (v := .slice (some ⟨W1.heap.size, 0, none⟩) N N) (w2 := W1.alloc (.cells (madeCells #[.int .u8 0] N) 5)) rfl (by rfl) (fun ρ hρ => mk34 N hN _ rfl ρ hρ _) ?_
        have hz := Blk.new W1 5 (madeCells #[.int .u8 0] N)
        have hb2 := hb1.alloc hb1.size (.cells (madeCells #[.int .u8 0] N) 5)
        refine hK.out _ _ ?_
        clear hK K
        try simp only [Act.put, List.setIfInBounds_toArray, List.set_cons_zero, List.set_cons_succ]
        generalize W1.alloc (.cells (madeCells #[.int .u8 0] N) 5) = W2 at hz hb2 ⊢
        generalize W1.heap.size = bz at hz ⊢
        refine wpAnyE_ready (rs := [7]) (by kernel_rfl) (by simp) ?_
        refine AllReadyE.late (o := ?_) ?_ rfl (fun K hK => ?_) AllReadyE.nil
        rotate_left 1
        · (first | (simp only [List.getElem?_toArray, List.getElem?_cons_succ, List.getElem?_cons_zero]; exact rfl) | exact rfl)
        refine step_val1 (x := .tmp 18) (u := .slice (some ⟨bz, 0, none⟩) N N) (v := .string (zerosB N)) (w2 := W2) rfl (by rfl) (fun ρ hρ => cv34 hz _ rfl ρ hρ) ?_
        refine hK.out _ _ ?_
        clear hK K
        try simp only [Act.put, List.setIfInBounds_toArray, List.set_cons_zero, List.set_cons_succ]
        have hb3 := hb2
        refine wpAnyE_takeY (i := 8) (oi := ?_) (v := .string X) ?_ ?_ ?_ ?_ ?_ ?_ ?_ ?_
        rotate_left 1
        · (first | (simp only [List.getElem?_toArray, List.getElem?_cons_succ, List.getElem?_cons_zero]; exact rfl) | exact rfl)
        · kernel_rfl
        · kernel_rfl
        · kernel_rfl
        · rfl
        · exact fun _ _ _ h => h
        · exact Or.inl ⟨by rfl, fun w _ => by go_simp⟩
        try simp only [Act.put, List.setIfInBounds_toArray, List.set_cons_zero, List.set_cons_succ]
        refine wpAnyE_takeY (i := 9) (oi := ?_) (v := .string X) ?_ ?_ ?_ ?_ ?_ ?_ ?_ ?_
        rotate_left 1
        · (first | (simp only [List.getElem?_toArray, List.getElem?_cons_succ, List.getElem?_cons_zero]; exact rfl) | exact rfl)
        · kernel_rfl
        · kernel_rfl
        · kernel_rfl
        · rfl
        · exact fun _ _ _ h => h
        · exact Or.inl ⟨by rfl, fun w _ => by go_simp⟩
        try simp only [Act.put, List.setIfInBounds_toArray, List.set_cons_zero, List.set_cons_succ]
        refine wpAnyE_done (by kernel_rfl) ?_ _
        go_wp2_with fail
        go_meet
        exact ⟨rfl, hb2⟩
      refine AllReadyE.late (o := ?_) ?_ rfl (fun K hK => ?_) AllReadyE.nil
      rotate_left 1
      · (first | (simp only [List.getElem?_toArray, List.getElem?_cons_succ, List.getElem?_cons_zero]; exact rfl) | exact rfl)
      refine step_val1 (x := .tmp 17) (u := .int .i64 N) (v := .slice (some ⟨W0.heap.size, 0, none⟩) N N) (w2 := W0.alloc (.cells (madeCells #[.int .u8 0] N) 5)) rfl (by rfl) (fun ρ hρ => mk34 N hN _ rfl ρ hρ _) ?_
      have hz := Blk.new W0 5 (madeCells #[.int .u8 0] N)
      have hb1 := hb0.alloc hb0.size (.cells (madeCells #[.int .u8 0] N) 5)
      refine hK.out _ _ ?_
      clear hK K
      try simp only [Act.put, List.setIfInBounds_toArray, List.set_cons_zero, List.set_cons_succ]
      generalize W0.alloc (.cells (madeCells #[.int .u8 0] N) 5) = W1 at hz hb1 ⊢
      generalize W0.heap.size = bz at hz ⊢
      refine wpAnyE_ready (rs := [2, 7]) (by kernel_rfl) (by simp) ?_
      refine AllReadyE.late (o := ?_) ?_ rfl (fun K hK => ?_) ?_
      rotate_left 1
      · (first | (simp only [List.getElem?_toArray, List.getElem?_cons_succ, List.getElem?_cons_zero]; exact rfl) | exact rfl)
      · skip
        refine step_call1 (u := .int .i64 N) (f := 14) rfl (callU (x := .tmp 13) _ rfl _ (by rfl) _) (HU.out W1) ?_
        rintro e W2 ⟨rfl, hbc⟩
        refine ⟨_, rfl, ?_⟩
        have hb2 := hb1.trans (hbc.mono hb1.size)
        have hz := hz.below hbc hz.lt
        clear hbc
        refine hK.out _ _ ?_
        clear hK K
        try simp only [Act.put, List.setIfInBounds_toArray, List.set_cons_zero, List.set_cons_succ]
        refine wpAnyE_takeY (i := 3) (oi := ?_) (v := .string X1) ?_ ?_ ?_ ?_ ?_ ?_ ?_ ?_
        rotate_left 1
        · (first | (simp only [List.getElem?_toArray, List.getElem?_cons_succ, List.getElem?_cons_zero]; exact rfl) | exact rfl)
        · kernel_rfl
        · kernel_rfl
        · kernel_rfl
        · rfl
        · exact fun _ _ _ h => h
        · exact Or.inl ⟨by rfl, fun w _ => by go_simp⟩
        try simp only [Act.put, List.setIfInBounds_toArray, List.set_cons_zero, List.set_cons_succ]
        refine wpAnyE_ready (rs := [7]) (by kernel_rfl) (by simp) ?_
        refine AllReadyE.late (o := ?_) ?_ rfl (fun K hK => ?_) AllReadyE.nil
        rotate_left 1
        · (first | (simp only [List.getElem?_toArray, List.getElem?_cons_succ, List.getElem?_cons_zero]; exact rfl) | exact rfl)
        refine step_val1 (x := .tmp 18) (u := .slice (some ⟨bz, 0, none⟩) N N) (v := .string (zerosB N)) (w2 := W2) rfl (by rfl) (fun ρ hρ => cv34 hz _ rfl ρ hρ) ?_
        refine hK.out _ _ ?_
        clear hK K
        try simp only [Act.put, List.setIfInBounds_toArray, List.set_cons_zero, List.set_cons_succ]
        have hb3 := hb2
        refine wpAnyE_takeY (i := 8) (oi := ?_) (v := .string X) ?_ ?_ ?_ ?_ ?_ ?_ ?_ ?_
        rotate_left 1
        · (first | (simp only [List.getElem?_toArray, List.getElem?_cons_succ, List.getElem?_cons_zero]; exact rfl) | exact rfl)
        · kernel_rfl
        · kernel_rfl
        · kernel_rfl
        · rfl
        · exact fun _ _ _ h => h
        · exact Or.inl ⟨by rfl, fun w _ => by go_simp⟩
        try simp only [Act.put, List.setIfInBounds_toArray, List.set_cons_zero, List.set_cons_succ]
        refine wpAnyE_takeY (i := 9) (oi := ?_) (v := .string X) ?_ ?_ ?_ ?_ ?_ ?_ ?_ ?_
        rotate_left 1
        · (first | (simp only [List.getElem?_toArray, List.getElem?_cons_succ, List.getElem?_cons_zero]; exact rfl) | exact rfl)
        · kernel_rfl
        · kernel_rfl
        · kernel_rfl
        · rfl
        · exact fun _ _ _ h => h
        · exact Or.inl ⟨by rfl, fun w _ => by go_simp⟩
        try simp only [Act.put, List.setIfInBounds_toArray, List.set_cons_zero, List.set_cons_succ]
        refine wpAnyE_done (by kernel_rfl) ?_ _
        go_wp2_with fail
        go_meet
        exact ⟨rfl, hb2⟩
      refine AllReadyE.late (o := ?_) ?_ rfl (fun K hK => ?_) AllReadyE.nil
      rotate_left 1
      · (first | (simp only [List.getElem?_toArray, List.getElem?_cons_succ, List.getElem?_cons_zero]; exact rfl) | exact rfl)
      refine step_val1 (x := .tmp 18) (u := .slice (some ⟨bz, 0, none⟩) N N) (v := .string (zerosB N)) (w2 := W1) rfl (by rfl) (fun ρ hρ => cv34 hz _ rfl ρ hρ) ?_
      refine hK.out _ _ ?_
      clear hK K
      try simp only [Act.put, List.setIfInBounds_toArray, List.set_cons_zero, List.set_cons_succ]
      have hb2 := hb1
      refine wpAnyE_ready (rs := [2]) (by kernel_rfl) (by simp) ?_
      refine AllReadyE.late (o := ?_) ?_ rfl (fun K hK => ?_) AllReadyE.nil
      rotate_left 1
      · (first | (simp only [List.getElem?_toArray, List.getElem?_cons_succ, List.getElem?_cons_zero]; exact rfl) | exact rfl)
      refine step_call1 (u := .int .i64 N) (f := 14) rfl (callU (x := .tmp 13) _ rfl _ (by rfl) _) (HU.out W1) ?_
      rintro e W2 ⟨rfl, hbc⟩
      refine ⟨_, rfl, ?_⟩
      have hb2 := hb1.trans (hbc.mono hb1.size)
      clear hbc
      refine hK.out _ _ ?_
      clear hK K
      try simp only [Act.put, List.setIfInBounds_toArray, List.set_cons_zero, List.set_cons_succ]
      refine wpAnyE_takeY (i := 3) (oi := ?_) (v := .string X1) ?_ ?_ ?_ ?_ ?_ ?_ ?_ ?_
      rotate_left 1
      · (first | (simp only [List.getElem?_toArray, List.getElem?_cons_succ, List.getElem?_cons_zero]; exact rfl) | exact rfl)
      · kernel_rfl
      · kernel_rfl
      · kernel_rfl
      · rfl
      · exact fun _ _ _ h => h
      · exact Or.inl ⟨by rfl, fun w _ => by go_simp⟩
      try simp only [Act.put, List.setIfInBounds_toArray, List.set_cons_zero, List.set_cons_succ]
      refine wpAnyE_takeY (i := 8) (oi := ?_) (v := .string X) ?_ ?_ ?_ ?_ ?_ ?_ ?_ ?_
      rotate_left 1
      · (first | (simp only [List.getElem?_toArray, List.getElem?_cons_succ, List.getElem?_cons_zero]; exact rfl) | exact rfl)
      · kernel_rfl
      · kernel_rfl
      · kernel_rfl
      · rfl
      · exact fun _ _ _ h => h
      · exact Or.inl ⟨by rfl, fun w _ => by go_simp⟩
      try simp only [Act.put, List.setIfInBounds_toArray, List.set_cons_zero, List.set_cons_succ]
      refine wpAnyE_takeY (i := 9) (oi := ?_) (v := .string X) ?_ ?_ ?_ ?_ ?_ ?_ ?_ ?_
      rotate_left 1
      · (first | (simp only [List.getElem?_toArray, List.getElem?_cons_succ, List.getElem?_cons_zero]; exact rfl) | exact rfl)
      · kernel_rfl
      · kernel_rfl
      · kernel_rfl
      · rfl
      · exact fun _ _ _ h => h
      · exact Or.inl ⟨by rfl, fun w _ => by go_simp⟩
      try simp only [Act.put, List.setIfInBounds_toArray, List.set_cons_zero, List.set_cons_succ]
      refine wpAnyE_done (by kernel_rfl) ?_ _
      go_wp2_with fail
      go_meet
      exact ⟨rfl, hb2⟩
  case rest =>
    obtain ⟨wx, rfl⟩ : ∃ wx : World, wx = wc := ⟨wc, rfl⟩
    obtain ⟨rfl, hbx⟩ := hcut
    have HNx := hide (new_any wx)
    clear a1 a2 HU w5 HN
    go_wp2_with fail
    refine HNx.out.mono ?_
    rintro e w1 ⟨g, S, rfl, hA, hb1⟩
    have hU : Use wx.heap.size w1 g [] S := use_new2 HT.out hbx hA hb1
    have hbw := hbx.trans (hb1.mono hbx.size)
    by_cases hlong : 131072 < M
    · have hli : (131072 : Int) < M := by omega
      have HD := hide (decode_long g (s := X) (by rw [HXs.out]; exact hlong) w1)
      have HO := hide (fun W => opq_data X ⟨_, HXd.out.trans (zT_enc N)⟩ (by rw [HXs.out]; omega) W)
      clear hU hA
      go_wp2_with fail
      refine HD.out.mono ?_
      rintro e w2 ⟨rfl, rfl⟩
      go_wp2_with fail
      refine (HAW.out _ hbw).mono ?_
      rintro e w3 ⟨rfl, hb3⟩
      go_wp2_with fail
      refine (HO.out _).mono ?_
      rintro e w4 ⟨rfl, rfl⟩
      go_wp2_with fail
      go_ret
      exact ⟨rfl, hbw.trans (hb3.mono hbw.size)⟩
    · have hli : ¬ (131072 : Int) < M := by omega
      have HD0 := decode_enc hU (zT_good hN) (by rw [zT_len]; have := HM.out; omega) (by simp)
      rw [show bs (enc (zT N)) = X from by rw [← HXd.out]; rfl] at HD0
      have HD := hide HD0
      clear hU hA HD0
      go_wp2_with fail
      refine HD.out.mono ?_
      rintro e w2 ⟨T2, S2, m, rfl, hid, hA2, hG2, _, _⟩
      have hsB := hA2.sB
      have hb2 := hbw.trans ((hG2.below hb1.size (fun i hi => hsB i (hG2.sub i hi))).mono hbx.size)
      have HAs := hide (fun W (hb : Below w2.heap.size w2 W) => asize_any (hA2.below hb) m)
      rw [hid.1] at HAs
      have hlen : ((enc (zT N)).length : Int) = M := by rw [zT_len]; have := HM.out; omega
      clear hA2 hG2 hid hsB
      go_wp2_with fail
      refine (HAW.out _ hb2).mono ?_
      rintro e w3 ⟨rfl, hb3⟩
      go_wp2_with fail
      refine (HAs.out _ hb3).mono ?_
      rintro e w4 ⟨rfl, rfl⟩
      go_wp2_with fail
      go_ret
      exact ⟨by simp [hlen], hb2.trans (hb3.mono hb2.size)⟩
end
end Go.Proofs.YtfjegckomjpkdaaDoor
