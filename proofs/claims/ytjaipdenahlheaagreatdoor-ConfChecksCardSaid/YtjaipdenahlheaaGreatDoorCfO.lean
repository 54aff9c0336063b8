/-
  The law ConfChecks: the walk of the statement. Conditions: the listed variables are there.
-/
import Derived.Test.YtjaipdenahlheaaGreatDoorCfN
import Derived.Test.YtjaipdenahlheaaGreatDoorEncG
import Derived.Test.YtjaipdenahlheaaGreatDoorRGetX
set_option linter.unusedVariables false
set_option linter.unusedSimpArgs false
namespace Go.Proofs.YtjaipdenahlheaaGreatDoor
open Go.RowKit Go.ChangeShapes Go.WideShapes Go.Sort
/-- An error with few places, each short. -/
def ErrOk (n : Nat) (o : ErrO) : Prop := ∀ ps k, o = some (ps, k) → k ≠ 0 ∧ ps.length ≤ n ∧ ∀ p ∈ ps, p.length ≤ 1000
theorem errOk_unl (b : Bool) {s : List UInt8} {k : Int} (hk : k ≠ 0) (hs : s.length ≤ 1000) : ErrOk 2 (unl b s k) := fun ps k2 h => by
  cases b with
  | true => cases h
  | false =>
    cases h
    exact ⟨hk, by simp, fun p hp => by simp only [List.mem_singleton] at hp; subst hp; exact hs⟩
theorem errOk_pr (ls : List (List (List UInt8))) : ErrOk 2 (prR (prW ls)) := fun ps k h => by
  rcases or_opt (prW ls) with hp | ⟨⟨i, z⟩, hp⟩
  · rw [hp] at h; cases h
  · rw [hp] at h
    cases h
    refine ⟨(prF_some hp).1, by simp, fun p hq => ?_⟩
    simp only [List.mem_cons, List.mem_nil_iff, or_false] at hq
    rcases hq with rfl | rfl
    · decide
    · exact Nat.le_trans (wordL_len i) (by decide)
theorem errOk_deny (gs : List (List UInt8 × Int)) (al : List (List UInt8)) (lim : Int) : ErrOk 2 (denyR (denyE gs al lim)) := fun ps k h => by
  rcases or_opt (denyE gs al lim) with hp | ⟨⟨s, z⟩, hp⟩
  · rw [hp] at h; cases h
  · rw [hp] at h
    cases h
    have h2 := denyE_some hp
    refine ⟨h2.1, by simp, fun p hq => ?_⟩
    simp only [List.mem_cons, List.mem_nil_iff, or_false] at hq
    rcases hq with rfl | rfl
    · decide
    · exact Nat.le_trans h2.2 (by decide)
theorem errOk_key (ks : List Int) : ErrOk 2 (keyE ks) := fun ps k h => by
  unfold keyE at h
  split at h
  · cases h
  · rename_i hz
    cases h
    exact ⟨hz, by simp, fun p hp => by simp only [List.mem_singleton] at hp; subst hp; decide⟩
theorem errOk_fst : ∀ (l : List ErrO), (∀ o ∈ l, ErrOk 2 o) → ErrOk 2 (fstE l)
  | [], _ => fun ps k h => by cases h
  | none :: r, h => errOk_fst r (fun o ho => h o (List.mem_cons_of_mem _ ho))
  | some x :: r, h => h (some x) (List.mem_cons_self ..)
theorem errOk_in {o : ErrO} (h : ErrOk 2 o) : ErrOk 3 (inC o) := fun ps k e => by
  cases o with
  | none => cases e
  | some x =>
    obtain ⟨qs, z⟩ := x
    cases e
    obtain ⟨h1, h2, h3⟩ := h qs z rfl
    refine ⟨h1, by simp only [List.length_cons]; omega, fun p hp => ?_⟩
    rcases List.mem_cons.1 hp with rfl | hp
    · decide
    · exact h3 p hp
theorem load_conf_run {w : World} {x : Operand} (o : Oper) (ho : o.op = .load 30 x) (ρ : Operand → Value) {b : Nat} (hx : ρ x = .pointer (some ⟨b, 0, none⟩)) {cv : Array Value} (hX : Blk w b 30 cv) (hl : cv.toList.length = 23) :
    (execOp ρ o).run Tryz.prog w = .ok (.value (.agg cv)) w := by
  unfold execOp
  have key := run_loadAt_mid (P := Tryz.prog) w b 0 30 cv.toList _ (rangeC (by rw [Array.toArray_toList]; exact hX)) Tryz.underlying30 rfl (by rw [hl]; exact infoConf)
  rw [Array.toArray_toList] at key
  simp only [ho, hx]
  simp [Sem.run_bind, key]
theorem callV1 {x : Operand} {u : Value} {ts : Array TypeId} (o : Oper) (ho : o.op = .call { callee := .value (.func 11), args := #[x], argTypes := ts }) (a : Act) (hx : a.eval x = u) (w : World) : (execOp a.eval o).run Tryz.prog w = .ok (.enter 11 #[u]) w := by
  obtain ⟨d, op, t, p, af, gd⟩ := o
  simp only at ho
  subst ho
  have h1 : a.eval (.func 11) = .func (.func 11) #[] #[] := rfl
  subst hx
  go_simp
theorem callV2 {x : Operand} {u : Value} {ts : Array TypeId} (o : Oper) (ho : o.op = .call { callee := .value (.func 12), args := #[x], argTypes := ts }) (a : Act) (hx : a.eval x = u) (w : World) : (execOp a.eval o).run Tryz.prog w = .ok (.enter 12 #[u]) w := by
  obtain ⟨d, op, t, p, af, gd⟩ := o
  simp only at ho
  subst ho
  have h1 : a.eval (.func 12) = .func (.func 12) #[] #[] := rfl
  subst hx
  go_simp
section
variable {w : World}
set_option maxHeartbeats 8000000 in
set_option maxRecDepth 100000 in
theorem confChecks_s {ex ge : Bool} {sw cm us : List UInt8} {A0 A1 A2 A3 A4 A5 A6 A7 A8 A9 A10 : Option Addr} {n0 n1 n2 n3 n4 n5 n6 n7 c0 c1 c2 c3 c4 c5 c6 c7 c8 c9 c10 : Nat} {al : List (List UInt8)} {own lim peer q0 q1 q2 : Int} {gr : List (List UInt8 × Int)} {ky : List Int} {ls : List (List (List UInt8))} (hM : MethV w) (hW : WordV w) (hE : Hand w) (hC : CfW w sw cm us [.slice A0 n0 c0, .slice A1 n1 c1, .slice A2 n2 c2, .slice A3 n3 c3, .slice A4 n4 c4, .slice A5 n5 c5, .slice A6 n6 c6, .slice A7 n7 c7] ls A8 c8 al A9 gr A10 ky) (hq0 : IntKind.i64.wrap q0 = q0) (hq1 : IntKind.i64.wrap q1 = q1) (hq2 : IntKind.i64.wrap q2 = q2) :
    Calls Tryz.prog 3 #[.agg #[.bool true, .string (bs sw), .string (bs cm), .slice A0 n0 c0, .slice A1 n1 c1, .slice A2 n2 c2, .slice A3 n3 c3, .slice A4 n4 c4, .slice A5 n5 c5, .slice A6 n6 c6, .slice A7 n7 c7, .slice A8 al.length c8, .int .i64 own, .slice A9 gr.length c9, .int .i64 lim, .int .i64 peer, .string (bs us), .slice A10 ky.length c10, .bool ex, .bool ge, .int .u32 q0, .int .u32 q1, .int .u32 q2]] w (fun e w' => e = .returned (.bool true) ∧ Below w.heap.size w w') := by
  obtain ⟨W0, hW0⟩ : ∃ W0, W0 = w.alloc (.cells #[.bool true, .string (bs sw), .string (bs cm), .slice A0 n0 c0, .slice A1 n1 c1, .slice A2 n2 c2, .slice A3 n3 c3, .slice A4 n4 c4, .slice A5 n5 c5, .slice A6 n6 c6, .slice A7 n7 c7, .slice A8 al.length c8, .int .i64 own, .slice A9 gr.length c9, .int .i64 lim, .int .i64 peer, .string (bs us), .slice A10 ky.length c10, .bool ex, .bool ge, .int .u32 q0, .int .u32 q1, .int .u32 q2] 30) := ⟨_, rfl⟩
  have hb0 : Below w.heap.size w W0 := by rw [hW0]; (repeat (first | exact Below.refl _ _ | refine below_drewN ?_ _ | refine Below.drew ?_ | refine Below.alloc ?_ (by first | omega | (simp; done) | (simp; omega)) _ | refine Below.setCell ?_ (by first | omega | (simp; done) | (simp; omega)) _ | refine bel_alloc ?_ _ | refine bel_trans ?_ (by assumption) | refine Below.trans ?_ (Below.mono (by assumption) (by first | omega | (simp; done) | (simp; omega)))))
  have hX0 : Blk W0 w.heap.size 30 #[.bool true, .string (bs sw), .string (bs cm), .slice A0 n0 c0, .slice A1 n1 c1, .slice A2 n2 c2, .slice A3 n3 c3, .slice A4 n4 c4, .slice A5 n5 c5, .slice A6 n6 c6, .slice A7 n7 c7, .slice A8 al.length c8, .int .i64 own, .slice A9 gr.length c9, .int .i64 lim, .int .i64 peer, .string (bs us), .slice A10 ky.length c10, .bool ex, .bool ge, .int .u32 q0, .int .u32 q1, .int .u32 q2] := by rw [hW0]; exact Blk.new w _ _
  have HF := hide (few25_any (sv := true) (ex := ex) (ge := ge) (own := own) (lim := lim) (peer := peer) (q0 := q0) (q1 := q1) (q2 := q2) (c9 := c9) (c10 := c10) (hC.below hb0))
  have HA := hide (fun (W : World) (hb : Below w.heap.size w W) => awake25_any (hM.below hb) (hW.below hb))
  have HH := hide (fun (W : World) (hb : Below w.heap.size w W) => hE.below hb)
  have HK := hide (fun (hf : fewC sw cm us ls al gr ky = true) (W : World) (hb : Below w.heap.size w W) => check_s (ex := ex) (ge := ge) (own := own) (lim := lim) (peer := peer) (q0 := q0) (q1 := q1) (q2 := q2) (c9 := c9) (c10 := c10) (hM.below hb) (hW.below hb) ((hC.below hb).few hf))
  have HR := hide (fun (hf : fewC sw cm us ls al gr ky = true) (W : World) (hb : Below w.heap.size w W) => rcheck_s (ex := ex) (ge := ge) (own := own) (lim := lim) (peer := peer) (q0 := q0) (q1 := q1) (q2 := q2) (c9 := c9) (c10 := c10) ((hC.below hb).few hf) hq0 hq1 hq2)
  have HV1 := hide (fun (hf : fewC sw cm us ls al gr ky = true) (W : World) => show Calls Tryz.prog 11 #[.agg #[.bool true, .string (bs sw), .string (bs cm), .slice A0 n0 c0, .slice A1 n1 c1, .slice A2 n2 c2, .slice A3 n3 c3, .slice A4 n4 c4, .slice A5 n5 c5, .slice A6 n6 c6, .slice A7 n7 c7, .slice A8 al.length c8, .int .i64 own, .slice A9 gr.length c9, .int .i64 lim, .int .i64 peer, .string (bs us), .slice A10 ky.length c10, .bool ex, .bool ge, .int .u32 q0, .int .u32 q1, .int .u32 q2]] W (fun e w' => e = .returned (.string (bs (verL sw cm))) ∧ Below W.heap.size W w') from version_any (w := W) (hC.few hf).hsw (hC.few hf).hcm)
  have HV2 := hide (fun (hf : fewC sw cm us ls al gr ky = true) (W : World) => show Calls Tryz.prog 12 #[.agg #[.bool true, .string (bs sw), .string (bs cm), .slice A0 n0 c0, .slice A1 n1 c1, .slice A2 n2 c2, .slice A3 n3 c3, .slice A4 n4 c4, .slice A5 n5 c5, .slice A6 n6 c6, .slice A7 n7 c7, .slice A8 al.length c8, .int .i64 own, .slice A9 gr.length c9, .int .i64 lim, .int .i64 peer, .string (bs us), .slice A10 ky.length c10, .bool ex, .bool ge, .int .u32 q0, .int .u32 q1, .int .u32 q2]] W (fun e w' => e = .returned (.string (bs (verL sw cm))) ∧ Below W.heap.size W w') from rversion_any (w := W) (hC.few hf).hsw (hC.few hf).hcm)
  have HOk : Hid (ErrOk 3 (inC (fstE [unl (verL sw cm != []) [118, 101, 114, 115, 105, 111, 110] 1, prR (prW ls), unl (princL own) [111, 119, 110] 5, denyR (denyE gr al lim)]))) := hide (errOk_in (errOk_fst _ (fun o ho => by
    simp only [List.mem_cons, List.mem_nil_iff, or_false] at ho
    rcases ho with rfl | rfl | rfl | rfl
    · exact errOk_unl _ (by decide) (by decide)
    · exact errOk_pr _
    · exact errOk_unl _ (by decide) (by decide)
    · exact errOk_deny _ _ _)))
  have HX := hide (And.intro hb0 hX0)
  clear hb0 hM hW hE hC hq0 hq1 hq2
  generalize hgen : inC (fstE [unl (verL sw cm != []) [118, 101, 114, 115, 105, 111, 110] 1, prR (prW ls), unl (princL own) [111, 119, 110] 5, denyR (denyE gr al lim)]) = O at HK HR HOk
  clear hgen
  generalize hcv : (#[.bool true, .string (bs sw), .string (bs cm), .slice A0 n0 c0, .slice A1 n1 c1, .slice A2 n2 c2, .slice A3 n3 c3, .slice A4 n4 c4, .slice A5 n5 c5, .slice A6 n6 c6, .slice A7 n7 c7, .slice A8 al.length c8, .int .i64 own, .slice A9 gr.length c9, .int .i64 lim, .int .i64 peer, .string (bs us), .slice A10 ky.length c10, .bool ex, .bool ge, .int .u32 q0, .int .u32 q1, .int .u32 q2] : Array Value) = cv at HF HK HR HV1 HV2 HX hX0 hW0 ⊢
  have hcl : cv.toList.length = 23 := by rw [← hcv]; rfl
  clear hcv
  have hlt0 := hX0.lt
  clear hX0
  generalize bs (verL sw cm) = vv at HV1 HV2
  cases hf : fewC sw cm us ls al gr ky with
  | false =>
    rw [hf] at HF
    clear HK HR HV1 HV2 HOk hf
    go_enter Tryz.func3, Tryz.ntmps3
    go_upto_region 1 with fail
    rw [← hW0]
    clear hW0
    refine wp_region_lit ?_
    refine wpList_load_confA rfl (.tmp 1) rfl (by rfl) HX.out.2 hcl ?_
    go_wp2_with (first
      | (go_at_call 7; refine HF.out.mono ?_; rintro e w1 ⟨rfl, hb1⟩; have hb01 := HX.out.1.trans (hb1.mono HX.out.1.size))
      | (go_at_call 8; refine (HA.out _ hb01).mono ?_; rintro e w2 ⟨rfl, hb2⟩)
      | fail)
    go_ret
    exact ⟨rfl, hb01.trans (hb2.mono hb01.size)⟩
  | true =>
    rw [hf] at HF
    have HK := hide (HK.out hf)
    have HR := hide (HR.out hf)
    have HV1 := hide (HV1.out hf)
    have HV2 := hide (HV2.out hf)
    clear hf
    go_enter Tryz.func3, Tryz.ntmps3
    go_upto_region 1 with fail
    rw [← hW0]
    clear hW0
    refine wp_region_lit ?_
    refine wpList_load_confA rfl (.tmp 1) rfl (by rfl) HX.out.2 hcl ?_
    go_upto_region 3 with (first
      | (go_at_call 7; refine HF.out.mono ?_; rintro e w1 ⟨rfl, hb1⟩)
      | fail)
    have hX1 := HX.out.2.below hb1 hlt0
    have hl1 := hX1.lt
    have hb01 := HX.out.1.trans (hb1.mono HX.out.1.size)
    refine wp_region_lit ?_
    refine wpList_load_confA rfl (.tmp 1) rfl (by rfl) hX1 hcl ?_
    try simp only [Act.put, List.setIfInBounds_toArray, List.set_cons_zero, List.set_cons_succ]
    refine wpList_call_ rfl (by go_simp) (HK.out _ hb01) ?_
    rintro e w2 hE2
    obtain ⟨v2, rfl⟩ := errR_val hE2
    refine ⟨_, rfl, ?_⟩
    try simp only [Act.put, List.setIfInBounds_toArray, List.set_cons_zero, List.set_cons_succ]
    have hb2 := hE2.1
    have hX2 := hX1.below hb2 hl1
    have hl2 := hX2.lt
    have hb02 := hb01.trans (hb2.mono hb01.size)
    have HE2 := hide hE2
    clear hE2
    go_upto_region 4 with fail
    refine wp_region_lit ?_
    refine wpList_load_confA rfl (.tmp 1) rfl (by rfl) hX2 hcl ?_
    try simp only [Act.put, List.setIfInBounds_toArray, List.set_cons_zero, List.set_cons_succ]
    refine wpList_call_ rfl (by go_simp) (HR.out _ hb02) ?_
    rintro e w3 ⟨rfl, hb3⟩
    refine ⟨_, rfl, ?_⟩
    try simp only [Act.put, List.setIfInBounds_toArray, List.set_cons_zero, List.set_cons_succ]
    have hX3 := hX2.below hb3 hl2
    have hl3 := hX3.lt
    have hb03 := hb02.trans (hb3.mono hb02.size)
    have HX3 := hide hX3
    go_upto_region 5 with fail
    refine wp_region_E (fun W => Below w3.heap.size w3 W) (fun i => [0, 1, 2, 3, 4].contains i) (by kernel_rfl) ?_
    obtain ⟨Wd, hWd⟩ : ∃ Wd, Wd = w3.drew := ⟨_, rfl⟩
    have hSd : Below w3.heap.size w3 Wd := by rw [hWd]; exact (Below.refl _ _).drew
    rw [← hWd]
    clear hWd
    refine wpAnyE_take (i := 0) (oi := ?_) (v := .agg cv) ?_ ?_ ?_ ?_ ?_ ?_ ?_ hSd ?_
    rotate_left 1
    · (first | (simp only [List.getElem?_toArray, List.getElem?_cons_succ, List.getElem?_cons_zero]; exact rfl) | exact rfl)
    · kernel_rfl
    · kernel_rfl
    · kernel_rfl
    · kernel_rfl
    · exact fun _ _ _ h => h
    · exact Or.inl ⟨by rfl, fun w hSw => load_conf_run (x := .tmp 1) _ rfl _ (by rfl) (HX3.out.below hSw HX3.out.lt) hcl⟩
    try simp only [Act.put, List.setIfInBounds_toArray, List.set_cons_zero, List.set_cons_succ]
    refine wpAnyE_take (i := 2) (oi := ?_) (v := .agg cv) ?_ ?_ ?_ ?_ ?_ ?_ ?_ hSd ?_
    rotate_left 1
    · (first | (simp only [List.getElem?_toArray, List.getElem?_cons_succ, List.getElem?_cons_zero]; exact rfl) | exact rfl)
    · kernel_rfl
    · kernel_rfl
    · kernel_rfl
    · kernel_rfl
    · exact fun _ _ _ h => h
    · exact Or.inl ⟨by rfl, fun w hSw => load_conf_run (x := .tmp 1) _ rfl _ (by rfl) (HX3.out.below hSw HX3.out.lt) hcl⟩
    try simp only [Act.put, List.setIfInBounds_toArray, List.set_cons_zero, List.set_cons_succ]
    have hvv : (vv.toList == vv.toList) = true := beq_self_eq_true _
    have hvv2 : (vv.toList != vv.toList) = false := by simp [bne]
    refine wpAnyE_ready (rs := [1]) (by kernel_rfl) (by simp) ?_
    refine AllReadyE.cons (o := ?_) ?_ (fun K hK => ?_) AllReadyE.nil
    rotate_left 1
    · (first | (simp only [List.getElem?_toArray, List.getElem?_cons_succ, List.getElem?_cons_zero]; exact rfl) | exact rfl)
    refine step_call1 (u := .agg cv) (f := 11) rfl (callV1 (x := .tmp 17) _ rfl _ (by rfl) _) (HV1.out _) ?_
    rintro e wp ⟨rfl, hbwp⟩
    refine ⟨_, rfl, ?_⟩
    have hSp := hSd.trans (hbwp.mono hSd.size)
    refine hK.out _ _ hSp (fun _ => ?_)
    clear hK K
    try simp only [Act.put, List.setIfInBounds_toArray, List.set_cons_zero, List.set_cons_succ]
    refine wpAnyE_ready (rs := [3]) (by kernel_rfl) (by simp) ?_
    refine AllReadyE.cons (o := ?_) ?_ (fun K hK => ?_) AllReadyE.nil
    rotate_left 1
    · (first | (simp only [List.getElem?_toArray, List.getElem?_cons_succ, List.getElem?_cons_zero]; exact rfl) | exact rfl)
    refine step_call1 (u := .agg cv) (f := 12) rfl (callV2 (x := .tmp 19) _ rfl _ (by rfl) _) (HV2.out _) ?_
    rintro e wq ⟨rfl, hbwq⟩
    refine ⟨_, rfl, ?_⟩
    have hSq := hSp.trans (hbwq.mono hSp.size)
    refine hK.out _ _ hSq (fun _ => ?_)
    clear hK K
    try simp only [Act.put, List.setIfInBounds_toArray, List.set_cons_zero, List.set_cons_succ]
    refine wpAnyE_take (i := 4) (oi := ?_) (v := .bool false) ?_ ?_ ?_ ?_ ?_ ?_ ?_ hSq ?_
    rotate_left 1
    · (first | (simp only [List.getElem?_toArray, List.getElem?_cons_succ, List.getElem?_cons_zero]; exact rfl) | exact rfl)
    · kernel_rfl
    · kernel_rfl
    · kernel_rfl
    · kernel_rfl
    · exact fun _ _ _ h => h
    · refine Or.inl ⟨by rfl, fun w hSw => ?_⟩
      clear hSw
      go_simp
    try simp only [Act.put, List.setIfInBounds_toArray, List.set_cons_zero, List.set_cons_succ]
    refine wpAnyE_done (by kernel_rfl) ?_ _
    have hb05 := hb03.trans (hSq.mono hb03.size)
    have HBA := hide hb05
    have HE5 := hide (And.intro (hb3.trans (hSq.mono hb3.size)) HE2.out)
    clear hSd hSp hSq hX1 hX2 hX3 HX3 hl1 hl2 hl3 hb1 hb2 hb3 hb01 hb02 hb03 hb05 HK HR HV1 HV2 HE2
    rcases or_opt O with hO | ⟨⟨ps, k⟩, hO⟩
    · rw [hO] at HE5 ⊢
      obtain rfl : v2 = .nilIface := by have := HE5.out.2.2; injection this
      clear HOk HH hO HE5
      rw [show errK none = 0 from rfl, show errS none = [] from rfl]
      go_wp2_with (first
        | (go_at_call 8; refine (HA.out _ HBA.out).mono ?_; rintro e w6 ⟨rfl, hb6⟩)
        | fail)
      go_ret
      exact ⟨rfl, HBA.out.trans (hb6.mono HBA.out.size)⟩
    · have hk := HOk.out ps k hO
      rw [hO] at HE5 ⊢
      obtain ⟨b, hv2, hi⟩ := HE5.out.2.2
      obtain rfl : v2 = errV b := by injection hv2
      have hk1 : (k == 0) = false := by rw [beq_eq_false_iff_ne]; exact hk.1
      have HWr := hide (fun (W : World) (hb : Below wq.heap.size wq W) => wrgN_any (w := W) b (k := k) hk.2.1 hk.2.2 ((hi.below HE5.out.1).below hb) (HH.out W (HBA.out.trans (hb.mono HBA.out.size))))
      clear HOk HH hO HE5 hv2 hk hi
      have eK : errK (some (ps, k)) = k := rfl
      have eS : errS (some (ps, k)) = atL ps := rfl
      rw [eK, eS]
      clear eK eS
      unfold errV at HWr ⊢
      generalize bs (atL ps) = ap at HWr ⊢
      go_wp2_with (first
        | (go_at_call 8; refine (HA.out _ HBA.out).mono ?_; rintro e w6 ⟨rfl, hb6⟩)
        | (go_at_call 13; refine (HWr.out _ hb6).mono ?_; rintro e w7 ⟨rfl, hb7⟩)
        | fail)
      go_ret
      exact ⟨rfl, HBA.out.trans ((hb6.trans (hb7.mono hb6.size)).mono HBA.out.size)⟩
set_option maxHeartbeats 8000000 in
set_option maxRecDepth 100000 in
theorem confChecks_c {ex ge : Bool} {sw cm us : List UInt8} {A0 A1 A2 A3 A4 A5 A6 A7 A8 A9 A10 : Option Addr} {n0 n1 n2 n3 n4 n5 n6 n7 c0 c1 c2 c3 c4 c5 c6 c7 c8 c9 c10 : Nat} {al : List (List UInt8)} {own lim peer q0 q1 q2 : Int} {gr : List (List UInt8 × Int)} {ky : List Int} {ls : List (List (List UInt8))} (hM : MethV w) (hW : WordV w) (hE : Hand w) (hC : CfW w sw cm us [.slice A0 n0 c0, .slice A1 n1 c1, .slice A2 n2 c2, .slice A3 n3 c3, .slice A4 n4 c4, .slice A5 n5 c5, .slice A6 n6 c6, .slice A7 n7 c7] ls A8 c8 al A9 gr A10 ky) (hq0 : IntKind.i64.wrap q0 = q0) (hq1 : IntKind.i64.wrap q1 = q1) (hq2 : IntKind.i64.wrap q2 = q2) :
    Calls Tryz.prog 3 #[.agg #[.bool false, .string (bs sw), .string (bs cm), .slice A0 n0 c0, .slice A1 n1 c1, .slice A2 n2 c2, .slice A3 n3 c3, .slice A4 n4 c4, .slice A5 n5 c5, .slice A6 n6 c6, .slice A7 n7 c7, .slice A8 al.length c8, .int .i64 own, .slice A9 gr.length c9, .int .i64 lim, .int .i64 peer, .string (bs us), .slice A10 ky.length c10, .bool ex, .bool ge, .int .u32 q0, .int .u32 q1, .int .u32 q2]] w (fun e w' => e = .returned (.bool true) ∧ Below w.heap.size w w') := by
  obtain ⟨W0, hW0⟩ : ∃ W0, W0 = w.alloc (.cells #[.bool false, .string (bs sw), .string (bs cm), .slice A0 n0 c0, .slice A1 n1 c1, .slice A2 n2 c2, .slice A3 n3 c3, .slice A4 n4 c4, .slice A5 n5 c5, .slice A6 n6 c6, .slice A7 n7 c7, .slice A8 al.length c8, .int .i64 own, .slice A9 gr.length c9, .int .i64 lim, .int .i64 peer, .string (bs us), .slice A10 ky.length c10, .bool ex, .bool ge, .int .u32 q0, .int .u32 q1, .int .u32 q2] 30) := ⟨_, rfl⟩
  have hb0 : Below w.heap.size w W0 := by rw [hW0]; (repeat (first | exact Below.refl _ _ | refine below_drewN ?_ _ | refine Below.drew ?_ | refine Below.alloc ?_ (by first | omega | (simp; done) | (simp; omega)) _ | refine Below.setCell ?_ (by first | omega | (simp; done) | (simp; omega)) _ | refine bel_alloc ?_ _ | refine bel_trans ?_ (by assumption) | refine Below.trans ?_ (Below.mono (by assumption) (by first | omega | (simp; done) | (simp; omega)))))
  have hX0 : Blk W0 w.heap.size 30 #[.bool false, .string (bs sw), .string (bs cm), .slice A0 n0 c0, .slice A1 n1 c1, .slice A2 n2 c2, .slice A3 n3 c3, .slice A4 n4 c4, .slice A5 n5 c5, .slice A6 n6 c6, .slice A7 n7 c7, .slice A8 al.length c8, .int .i64 own, .slice A9 gr.length c9, .int .i64 lim, .int .i64 peer, .string (bs us), .slice A10 ky.length c10, .bool ex, .bool ge, .int .u32 q0, .int .u32 q1, .int .u32 q2] := by rw [hW0]; exact Blk.new w _ _
  have HF := hide (few25_any (sv := false) (ex := ex) (ge := ge) (own := own) (lim := lim) (peer := peer) (q0 := q0) (q1 := q1) (q2 := q2) (c9 := c9) (c10 := c10) (hC.below hb0))
  have HA := hide (fun (W : World) (hb : Below w.heap.size w W) => awake25_any (hM.below hb) (hW.below hb))
  have HH := hide (fun (W : World) (hb : Below w.heap.size w W) => hE.below hb)
  have HK := hide (fun (hf : fewC sw cm us ls al gr ky = true) (W : World) (hb : Below w.heap.size w W) => check_c (ex := ex) (ge := ge) (own := own) (lim := lim) (peer := peer) (q0 := q0) (q1 := q1) (q2 := q2) (c9 := c9) (c10 := c10) (hM.below hb) (hW.below hb) ((hC.below hb).few hf))
  have HR := hide (fun (hf : fewC sw cm us ls al gr ky = true) (W : World) (hb : Below w.heap.size w W) => rcheck_c (ex := ex) (ge := ge) (own := own) (lim := lim) (peer := peer) (q0 := q0) (q1 := q1) (q2 := q2) (c9 := c9) (c10 := c10) ((hC.below hb).few hf) hq0 hq1 hq2)
  have HV1 := hide (fun (hf : fewC sw cm us ls al gr ky = true) (W : World) => show Calls Tryz.prog 11 #[.agg #[.bool false, .string (bs sw), .string (bs cm), .slice A0 n0 c0, .slice A1 n1 c1, .slice A2 n2 c2, .slice A3 n3 c3, .slice A4 n4 c4, .slice A5 n5 c5, .slice A6 n6 c6, .slice A7 n7 c7, .slice A8 al.length c8, .int .i64 own, .slice A9 gr.length c9, .int .i64 lim, .int .i64 peer, .string (bs us), .slice A10 ky.length c10, .bool ex, .bool ge, .int .u32 q0, .int .u32 q1, .int .u32 q2]] W (fun e w' => e = .returned (.string (bs (verL sw cm))) ∧ Below W.heap.size W w') from version_any (w := W) (hC.few hf).hsw (hC.few hf).hcm)
  have HV2 := hide (fun (hf : fewC sw cm us ls al gr ky = true) (W : World) => show Calls Tryz.prog 12 #[.agg #[.bool false, .string (bs sw), .string (bs cm), .slice A0 n0 c0, .slice A1 n1 c1, .slice A2 n2 c2, .slice A3 n3 c3, .slice A4 n4 c4, .slice A5 n5 c5, .slice A6 n6 c6, .slice A7 n7 c7, .slice A8 al.length c8, .int .i64 own, .slice A9 gr.length c9, .int .i64 lim, .int .i64 peer, .string (bs us), .slice A10 ky.length c10, .bool ex, .bool ge, .int .u32 q0, .int .u32 q1, .int .u32 q2]] W (fun e w' => e = .returned (.string (bs (verL sw cm))) ∧ Below W.heap.size W w') from rversion_any (w := W) (hC.few hf).hsw (hC.few hf).hcm)
  have HOk : Hid (ErrOk 3 (inC (fstE [unl (verL sw cm != []) [118, 101, 114, 115, 105, 111, 110] 1, prR (prW ls), unl (princL peer) [112, 101, 101, 114] 5, unl (userL us) [117, 115, 101, 114] 3, keyE ky, denyR (denyE [] al 1), unl (groupL q0 q1 q2) [119, 105, 115, 104] 5]))) := hide (errOk_in (errOk_fst _ (fun o ho => by
    simp only [List.mem_cons, List.mem_nil_iff, or_false] at ho
    rcases ho with rfl | rfl | rfl | rfl | rfl | rfl | rfl
    · exact errOk_unl _ (by decide) (by decide)
    · exact errOk_pr _
    · exact errOk_unl _ (by decide) (by decide)
    · exact errOk_unl _ (by decide) (by decide)
    · exact errOk_key _
    · exact errOk_deny _ _ _
    · exact errOk_unl _ (by decide) (by decide))))
  have HX := hide (And.intro hb0 hX0)
  clear hb0 hM hW hE hC hq0 hq1 hq2
  generalize hgen : inC (fstE [unl (verL sw cm != []) [118, 101, 114, 115, 105, 111, 110] 1, prR (prW ls), unl (princL peer) [112, 101, 101, 114] 5, unl (userL us) [117, 115, 101, 114] 3, keyE ky, denyR (denyE [] al 1), unl (groupL q0 q1 q2) [119, 105, 115, 104] 5]) = O at HK HR HOk
  clear hgen
  generalize hcv : (#[.bool false, .string (bs sw), .string (bs cm), .slice A0 n0 c0, .slice A1 n1 c1, .slice A2 n2 c2, .slice A3 n3 c3, .slice A4 n4 c4, .slice A5 n5 c5, .slice A6 n6 c6, .slice A7 n7 c7, .slice A8 al.length c8, .int .i64 own, .slice A9 gr.length c9, .int .i64 lim, .int .i64 peer, .string (bs us), .slice A10 ky.length c10, .bool ex, .bool ge, .int .u32 q0, .int .u32 q1, .int .u32 q2] : Array Value) = cv at HF HK HR HV1 HV2 HX hX0 hW0 ⊢
  have hcl : cv.toList.length = 23 := by rw [← hcv]; rfl
  clear hcv
  have hlt0 := hX0.lt
  clear hX0
  generalize bs (verL sw cm) = vv at HV1 HV2
  cases hf : fewC sw cm us ls al gr ky with
  | false =>
    rw [hf] at HF
    clear HK HR HV1 HV2 HOk hf
    go_enter Tryz.func3, Tryz.ntmps3
    go_upto_region 1 with fail
    rw [← hW0]
    clear hW0
    refine wp_region_lit ?_
    refine wpList_load_confA rfl (.tmp 1) rfl (by rfl) HX.out.2 hcl ?_
    go_wp2_with (first
      | (go_at_call 7; refine HF.out.mono ?_; rintro e w1 ⟨rfl, hb1⟩; have hb01 := HX.out.1.trans (hb1.mono HX.out.1.size))
      | (go_at_call 8; refine (HA.out _ hb01).mono ?_; rintro e w2 ⟨rfl, hb2⟩)
      | fail)
    go_ret
    exact ⟨rfl, hb01.trans (hb2.mono hb01.size)⟩
  | true =>
    rw [hf] at HF
    have HK := hide (HK.out hf)
    have HR := hide (HR.out hf)
    have HV1 := hide (HV1.out hf)
    have HV2 := hide (HV2.out hf)
    clear hf
    go_enter Tryz.func3, Tryz.ntmps3
    go_upto_region 1 with fail
    rw [← hW0]
    clear hW0
    refine wp_region_lit ?_
    refine wpList_load_confA rfl (.tmp 1) rfl (by rfl) HX.out.2 hcl ?_
    go_upto_region 3 with (first
      | (go_at_call 7; refine HF.out.mono ?_; rintro e w1 ⟨rfl, hb1⟩)
      | fail)
    have hX1 := HX.out.2.below hb1 hlt0
    have hl1 := hX1.lt
    have hb01 := HX.out.1.trans (hb1.mono HX.out.1.size)
    refine wp_region_lit ?_
    refine wpList_load_confA rfl (.tmp 1) rfl (by rfl) hX1 hcl ?_
    try simp only [Act.put, List.setIfInBounds_toArray, List.set_cons_zero, List.set_cons_succ]
    refine wpList_call_ rfl (by go_simp) (HK.out _ hb01) ?_
    rintro e w2 hE2
    obtain ⟨v2, rfl⟩ := errR_val hE2
    refine ⟨_, rfl, ?_⟩
    try simp only [Act.put, List.setIfInBounds_toArray, List.set_cons_zero, List.set_cons_succ]
    have hb2 := hE2.1
    have hX2 := hX1.below hb2 hl1
    have hl2 := hX2.lt
    have hb02 := hb01.trans (hb2.mono hb01.size)
    have HE2 := hide hE2
    clear hE2
    go_upto_region 4 with fail
    refine wp_region_lit ?_
    refine wpList_load_confA rfl (.tmp 1) rfl (by rfl) hX2 hcl ?_
    try simp only [Act.put, List.setIfInBounds_toArray, List.set_cons_zero, List.set_cons_succ]
    refine wpList_call_ rfl (by go_simp) (HR.out _ hb02) ?_
    rintro e w3 ⟨rfl, hb3⟩
    refine ⟨_, rfl, ?_⟩
    try simp only [Act.put, List.setIfInBounds_toArray, List.set_cons_zero, List.set_cons_succ]
    have hX3 := hX2.below hb3 hl2
    have hl3 := hX3.lt
    have hb03 := hb02.trans (hb3.mono hb02.size)
    have HX3 := hide hX3
    go_upto_region 5 with fail
    refine wp_region_E (fun W => Below w3.heap.size w3 W) (fun i => [0, 1, 2, 3, 4].contains i) (by kernel_rfl) ?_
    obtain ⟨Wd, hWd⟩ : ∃ Wd, Wd = w3.drew := ⟨_, rfl⟩
    have hSd : Below w3.heap.size w3 Wd := by rw [hWd]; exact (Below.refl _ _).drew
    rw [← hWd]
    clear hWd
    refine wpAnyE_take (i := 0) (oi := ?_) (v := .agg cv) ?_ ?_ ?_ ?_ ?_ ?_ ?_ hSd ?_
    rotate_left 1
    · (first | (simp only [List.getElem?_toArray, List.getElem?_cons_succ, List.getElem?_cons_zero]; exact rfl) | exact rfl)
    · kernel_rfl
    · kernel_rfl
    · kernel_rfl
    · kernel_rfl
    · exact fun _ _ _ h => h
    · exact Or.inl ⟨by rfl, fun w hSw => load_conf_run (x := .tmp 1) _ rfl _ (by rfl) (HX3.out.below hSw HX3.out.lt) hcl⟩
    try simp only [Act.put, List.setIfInBounds_toArray, List.set_cons_zero, List.set_cons_succ]
    refine wpAnyE_take (i := 2) (oi := ?_) (v := .agg cv) ?_ ?_ ?_ ?_ ?_ ?_ ?_ hSd ?_
    rotate_left 1
    · (first | (simp only [List.getElem?_toArray, List.getElem?_cons_succ, List.getElem?_cons_zero]; exact rfl) | exact rfl)
    · kernel_rfl
    · kernel_rfl
    · kernel_rfl
    · kernel_rfl
    · exact fun _ _ _ h => h
    · exact Or.inl ⟨by rfl, fun w hSw => load_conf_run (x := .tmp 1) _ rfl _ (by rfl) (HX3.out.below hSw HX3.out.lt) hcl⟩
    try simp only [Act.put, List.setIfInBounds_toArray, List.set_cons_zero, List.set_cons_succ]
    have hvv : (vv.toList == vv.toList) = true := beq_self_eq_true _
    have hvv2 : (vv.toList != vv.toList) = false := by simp [bne]
    refine wpAnyE_ready (rs := [1]) (by kernel_rfl) (by simp) ?_
    refine AllReadyE.cons (o := ?_) ?_ (fun K hK => ?_) AllReadyE.nil
    rotate_left 1
    · (first | (simp only [List.getElem?_toArray, List.getElem?_cons_succ, List.getElem?_cons_zero]; exact rfl) | exact rfl)
    refine step_call1 (u := .agg cv) (f := 11) rfl (callV1 (x := .tmp 17) _ rfl _ (by rfl) _) (HV1.out _) ?_
    rintro e wp ⟨rfl, hbwp⟩
    refine ⟨_, rfl, ?_⟩
    have hSp := hSd.trans (hbwp.mono hSd.size)
    refine hK.out _ _ hSp (fun _ => ?_)
    clear hK K
    try simp only [Act.put, List.setIfInBounds_toArray, List.set_cons_zero, List.set_cons_succ]
    refine wpAnyE_ready (rs := [3]) (by kernel_rfl) (by simp) ?_
    refine AllReadyE.cons (o := ?_) ?_ (fun K hK => ?_) AllReadyE.nil
    rotate_left 1
    · (first | (simp only [List.getElem?_toArray, List.getElem?_cons_succ, List.getElem?_cons_zero]; exact rfl) | exact rfl)
    refine step_call1 (u := .agg cv) (f := 12) rfl (callV2 (x := .tmp 19) _ rfl _ (by rfl) _) (HV2.out _) ?_
    rintro e wq ⟨rfl, hbwq⟩
    refine ⟨_, rfl, ?_⟩
    have hSq := hSp.trans (hbwq.mono hSp.size)
    refine hK.out _ _ hSq (fun _ => ?_)
    clear hK K
    try simp only [Act.put, List.setIfInBounds_toArray, List.set_cons_zero, List.set_cons_succ]
    refine wpAnyE_take (i := 4) (oi := ?_) (v := .bool false) ?_ ?_ ?_ ?_ ?_ ?_ ?_ hSq ?_
    rotate_left 1
    · (first | (simp only [List.getElem?_toArray, List.getElem?_cons_succ, List.getElem?_cons_zero]; exact rfl) | exact rfl)
    · kernel_rfl
    · kernel_rfl
    · kernel_rfl
    · kernel_rfl
    · exact fun _ _ _ h => h
    · refine Or.inl ⟨by rfl, fun w hSw => ?_⟩
      clear hSw
      go_simp
    try simp only [Act.put, List.setIfInBounds_toArray, List.set_cons_zero, List.set_cons_succ]
    refine wpAnyE_done (by kernel_rfl) ?_ _
    have hb05 := hb03.trans (hSq.mono hb03.size)
    have HBA := hide hb05
    have HE5 := hide (And.intro (hb3.trans (hSq.mono hb3.size)) HE2.out)
    clear hSd hSp hSq hX1 hX2 hX3 HX3 hl1 hl2 hl3 hb1 hb2 hb3 hb01 hb02 hb03 hb05 HK HR HV1 HV2 HE2
    rcases or_opt O with hO | ⟨⟨ps, k⟩, hO⟩
    · rw [hO] at HE5 ⊢
      obtain rfl : v2 = .nilIface := by have := HE5.out.2.2; injection this
      clear HOk HH hO HE5
      rw [show errK none = 0 from rfl, show errS none = [] from rfl]
      go_wp2_with (first
        | (go_at_call 8; refine (HA.out _ HBA.out).mono ?_; rintro e w6 ⟨rfl, hb6⟩)
        | fail)
      go_ret
      exact ⟨rfl, HBA.out.trans (hb6.mono HBA.out.size)⟩
    · have hk := HOk.out ps k hO
      rw [hO] at HE5 ⊢
      obtain ⟨b, hv2, hi⟩ := HE5.out.2.2
      obtain rfl : v2 = errV b := by injection hv2
      have hk1 : (k == 0) = false := by rw [beq_eq_false_iff_ne]; exact hk.1
      have HWr := hide (fun (W : World) (hb : Below wq.heap.size wq W) => wrgN_any (w := W) b (k := k) hk.2.1 hk.2.2 ((hi.below HE5.out.1).below hb) (HH.out W (HBA.out.trans (hb.mono HBA.out.size))))
      clear HOk HH hO HE5 hv2 hk hi
      have eK : errK (some (ps, k)) = k := rfl
      have eS : errS (some (ps, k)) = atL ps := rfl
      rw [eK, eS]
      clear eK eS
      unfold errV at HWr ⊢
      generalize bs (atL ps) = ap at HWr ⊢
      go_wp2_with (first
        | (go_at_call 8; refine (HA.out _ HBA.out).mono ?_; rintro e w6 ⟨rfl, hb6⟩)
        | (go_at_call 13; refine (HWr.out _ hb6).mono ?_; rintro e w7 ⟨rfl, hb7⟩)
        | fail)
      go_ret
      exact ⟨rfl, HBA.out.trans ((hb6.trans (hb7.mono hb6.size)).mono HBA.out.size)⟩
theorem confChecks_any {sv ex ge : Bool} {sw cm us : List UInt8} {A0 A1 A2 A3 A4 A5 A6 A7 A8 A9 A10 : Option Addr} {n0 n1 n2 n3 n4 n5 n6 n7 c0 c1 c2 c3 c4 c5 c6 c7 c8 c9 c10 : Nat} {al : List (List UInt8)} {own lim peer q0 q1 q2 : Int} {gr : List (List UInt8 × Int)} {ky : List Int} {ls : List (List (List UInt8))} (hM : MethV w) (hW : WordV w) (hE : Hand w) (hC : CfW w sw cm us [.slice A0 n0 c0, .slice A1 n1 c1, .slice A2 n2 c2, .slice A3 n3 c3, .slice A4 n4 c4, .slice A5 n5 c5, .slice A6 n6 c6, .slice A7 n7 c7] ls A8 c8 al A9 gr A10 ky) (hq0 : IntKind.i64.wrap q0 = q0) (hq1 : IntKind.i64.wrap q1 = q1) (hq2 : IntKind.i64.wrap q2 = q2) :
    Calls Tryz.prog 3 #[.agg #[.bool sv, .string (bs sw), .string (bs cm), .slice A0 n0 c0, .slice A1 n1 c1, .slice A2 n2 c2, .slice A3 n3 c3, .slice A4 n4 c4, .slice A5 n5 c5, .slice A6 n6 c6, .slice A7 n7 c7, .slice A8 al.length c8, .int .i64 own, .slice A9 gr.length c9, .int .i64 lim, .int .i64 peer, .string (bs us), .slice A10 ky.length c10, .bool ex, .bool ge, .int .u32 q0, .int .u32 q1, .int .u32 q2]] w (fun e w' => e = .returned (.bool true) ∧ Below w.heap.size w w') := by
  cases sv with
  | true => exact confChecks_s hM hW hE hC hq0 hq1 hq2
  | false => exact confChecks_c hM hW hE hC hq0 hq1 hq2
end
end Go.Proofs.YtjaipdenahlheaaGreatDoor
