/-
  The law ConfSays: the walk of the statement. Conditions: the listed variables are there.
-/
import Derived.Test.YtjaipdenahlheaaGreatDoorKCfPG
import Derived.Test.YtjaipdenahlheaaGreatDoorKCfTG
import Derived.Test.YtjaipdenahlheaaGreatDoorKCfV
import Derived.Test.YtjaipdenahlheaaGreatDoorKKxT
import Derived.Test.YtjaipdenahlheaaGreatDoorKSm16
set_option linter.unusedVariables false
set_option linter.unusedSimpArgs false
namespace Go.Proofs.YtjaipdenahlheaaGreatDoor
open Go.RowKit Go.ChangeShapes Go.WideShapes Go.Sort
theorem fstE_cons {o : ErrO} {r : List ErrO} (h : fstE (o :: r) = none) : o = none ∧ fstE r = none := by
  cases o with
  | none => exact ⟨rfl, h⟩
  | some x => cases h
theorem inC_none {o : ErrO} (h : inC o = none) : o = none := by
  cases o with
  | none => rfl
  | some x => cases h
theorem unl_none {b : Bool} {s : List UInt8} {k : Int} (h : unl b s k = none) : b = true := by
  unfold unl at h
  split at h
  · assumption
  · cases h
theorem prR_none {o : Option (Nat × Int)} (h : prR o = none) : o = none := by
  cases o with
  | none => rfl
  | some x => cases h
/-- What conf.Check finds. -/
def errC (sv : Bool) (sw cm us : List UInt8) (ls : List (List (List UInt8))) (own lim peer q0 q1 q2 : Int) (al : List (List UInt8)) (gr : List (List UInt8 × Int)) (ky : List Int) : ErrO :=
  if sv = true then inC (fstE [unl (verL sw cm != []) [118, 101, 114, 115, 105, 111, 110] 1, prR (prW ls), unl (princL own) [111, 119, 110] 5, denyR (denyE gr al lim)]) else inC (fstE [unl (verL sw cm != []) [118, 101, 114, 115, 105, 111, 110] 1, prR (prW ls), unl (princL peer) [112, 101, 101, 114] 5, unl (userL us) [117, 115, 101, 114] 3, keyE ky, denyR (denyE [] al 1), unl (groupL q0 q1 q2) [119, 105, 115, 104] 5])
theorem errC_none {sv : Bool} {sw cm us : List UInt8} {ls : List (List (List UInt8))} {own lim peer q0 q1 q2 : Int} {al : List (List UInt8)} {gr : List (List UInt8 × Int)} {ky : List Int} (h : errC sv sw cm us ls own lim peer q0 q1 q2 al gr ky = none) : verL sw cm ≠ [] ∧ prW ls = none := by
  have key : ∃ r, fstE (unl (verL sw cm != []) [118, 101, 114, 115, 105, 111, 110] 1 :: prR (prW ls) :: r) = none := by
    unfold errC at h
    cases sv with
    | true => exact ⟨_, inC_none h⟩
    | false => exact ⟨_, inC_none h⟩
  obtain ⟨r, hr⟩ := key
  obtain ⟨h1, h2⟩ := fstE_cons hr
  obtain ⟨h3, _⟩ := fstE_cons h2
  refine ⟨fun e => ?_, prR_none h3⟩
  have := unl_none h1
  rw [e] at this
  cases this
section
variable {w : World}
theorem ccheck_any {sv ex ge : Bool} {sw cm us : List UInt8} {A0 A1 A2 A3 A4 A5 A6 A7 A8 A9 A10 : Option Addr} {n0 n1 n2 n3 n4 n5 n6 n7 c0 c1 c2 c3 c4 c5 c6 c7 c8 c9 c10 : Nat} {al : List (List UInt8)} {own lim peer q0 q1 q2 : Int} {gr : List (List UInt8 × Int)} {ky : List Int} {ls : List (List (List UInt8))} (hM : MethV w) (hW : WordV w) (hC : CfM w sw cm us [.slice A0 n0 c0, .slice A1 n1 c1, .slice A2 n2 c2, .slice A3 n3 c3, .slice A4 n4 c4, .slice A5 n5 c5, .slice A6 n6 c6, .slice A7 n7 c7] ls A8 c8 al A9 gr A10 ky) : Calls Tryz.prog 9 #[.agg #[.bool sv, .string (bs sw), .string (bs cm), .slice A0 n0 c0, .slice A1 n1 c1, .slice A2 n2 c2, .slice A3 n3 c3, .slice A4 n4 c4, .slice A5 n5 c5, .slice A6 n6 c6, .slice A7 n7 c7, .slice A8 al.length c8, .int .i64 own, .slice A9 gr.length c9, .int .i64 lim, .int .i64 peer, .string (bs us), .slice A10 ky.length c10, .bool ex, .bool ge, .int .u32 q0, .int .u32 q1, .int .u32 q2]] w (ErrR (errC sv sw cm us ls own lim peer q0 q1 q2 al gr ky) w) := by
  cases sv with
  | true => exact check_s hM hW hC
  | false => exact check_c hM hW hC
theorem wpList_load_blkG {ops : Array Oper} {rest : List Oper} {op : Oper} {a : Act} {Q : Exit → Act → World → Prop} (hw : Region.wanted op (yielded ops a.tmps) = true) {ty : TypeId} (x : Operand) (ho : op.op = .load ty x) {b : Nat} (hx : a.eval x = .pointer (some ⟨b, 0, none⟩)) {cv : Array Value} {d : TypeDesc} (hX : Blk w b ty cv)
    (hu : Tryz.prog.underlying ty = some d) (hd : d.isRow = true) (hi : (Tryz.prog.info? ty).map (·.size) = some cv.toList.length) (h : wpList Tryz.prog ops Q rest (a.put op.dst (.agg cv)) w) : wpList Tryz.prog ops Q (op :: rest) a w :=
  wpList_valG hw (by
    unfold execOp
    have key := run_loadAt_mid (P := Tryz.prog) w b 0 ty cv.toList _ (rangeB hX) hu hd hi
    rw [Array.toArray_toList] at key
    simp only [ho, hx]
    simp [Sem.run_bind, key]) h
theorem fewC_ls {sw cm us : List UInt8} {ls : List (List (List UInt8))} {al : List (List UInt8)} {gr : List (List UInt8 × Int)} {ky : List Int} (h : fewC sw cm us ls al gr ky = true) : fewLs (ls.map bss) = true := by
  cases hh : fewLs (ls.map bss) with
  | true => rfl
  | false => unfold fewC at h; rw [hh] at h; simp at h
theorem newC_len {lo : Nat} {A : Option Addr} {n c : Nat} {l : List (List UInt8)} (h : NewC lo w (.slice A n c) l) : n = l.length := by
  obtain ⟨A', c', e, _⟩ := h
  injection e
set_option maxHeartbeats 40000000 in
set_option maxRecDepth 100000 in
theorem confSays_any {sv ex ge : Bool} {sw cm us : List UInt8} {A0 A1 A2 A3 A4 A5 A6 A7 A8 A9 A10 : Option Addr} {n0 n1 n2 n3 n4 n5 n6 n7 c0 c1 c2 c3 c4 c5 c6 c7 c8 c9 c10 : Nat} {al : List (List UInt8)} {own lim peer q0 q1 q2 : Int} {gr : List (List UInt8 × Int)} {ky : List Int} {ls : List (List (List UInt8))} {x e : Int} (hx : x ≤ 9223372036854775807) (he : e ≤ 9223372036854775807) (hM : MethV w) (hW : WordV w) (hL : MaxL w) (hC : CfW w sw cm us [.slice A0 n0 c0, .slice A1 n1 c1, .slice A2 n2 c2, .slice A3 n3 c3, .slice A4 n4 c4, .slice A5 n5 c5, .slice A6 n6 c6, .slice A7 n7 c7] ls A8 c8 al A9 gr A10 ky) :
    Calls Tryz.prog 6 #[.agg #[.bool sv, .string (bs sw), .string (bs cm), .slice A0 n0 c0, .slice A1 n1 c1, .slice A2 n2 c2, .slice A3 n3 c3, .slice A4 n4 c4, .slice A5 n5 c5, .slice A6 n6 c6, .slice A7 n7 c7, .slice A8 al.length c8, .int .i64 own, .slice A9 gr.length c9, .int .i64 lim, .int .i64 peer, .string (bs us), .slice A10 ky.length c10, .bool ex, .bool ge, .int .u32 q0, .int .u32 q1, .int .u32 q2], .int .i64 x, .int .i64 e] w (fun o w' => o = .returned (.bool true) ∧ Below w.heap.size w w') := by
  obtain ⟨W0, hW0⟩ : ∃ W0, W0 = w.alloc (.cells #[.bool sv, .string (bs sw), .string (bs cm), .slice A0 n0 c0, .slice A1 n1 c1, .slice A2 n2 c2, .slice A3 n3 c3, .slice A4 n4 c4, .slice A5 n5 c5, .slice A6 n6 c6, .slice A7 n7 c7, .slice A8 al.length c8, .int .i64 own, .slice A9 gr.length c9, .int .i64 lim, .int .i64 peer, .string (bs us), .slice A10 ky.length c10, .bool ex, .bool ge, .int .u32 q0, .int .u32 q1, .int .u32 q2] 30) := ⟨_, rfl⟩
  have hb0 : Below w.heap.size w W0 := by rw [hW0]; (repeat (first | exact Below.refl _ _ | refine below_drewN ?_ _ | refine Below.drew ?_ | refine Below.alloc ?_ (by first | omega | (simp; done) | (simp; omega)) _ | refine Below.setCell ?_ (by first | omega | (simp; done) | (simp; omega)) _ | refine bel_alloc ?_ _ | refine bel_trans ?_ (by assumption) | refine Below.trans ?_ (Below.mono (by assumption) (by first | omega | (simp; done) | (simp; omega)))))
  have hX0 : Blk W0 w.heap.size 30 #[.bool sv, .string (bs sw), .string (bs cm), .slice A0 n0 c0, .slice A1 n1 c1, .slice A2 n2 c2, .slice A3 n3 c3, .slice A4 n4 c4, .slice A5 n5 c5, .slice A6 n6 c6, .slice A7 n7 c7, .slice A8 al.length c8, .int .i64 own, .slice A9 gr.length c9, .int .i64 lim, .int .i64 peer, .string (bs us), .slice A10 ky.length c10, .bool ex, .bool ge, .int .u32 q0, .int .u32 q1, .int .u32 q2] := by rw [hW0]; exact Blk.new w _ _
  have HF := hide (few25_any (sv := sv) (ex := ex) (ge := ge) (own := own) (lim := lim) (peer := peer) (q0 := q0) (q1 := q1) (q2 := q2) (c9 := c9) (c10 := c10) (hC.below hb0))
  have HA := hide (fun (W : World) (hb : Below w.heap.size w W) => awake25_any (hM.below hb) (hW.below hb))
  have HK := hide (fun (hf : fewC sw cm us ls al gr ky = true) (W : World) (hb : Below w.heap.size w W) => ccheck_any (sv := sv) (ex := ex) (ge := ge) (own := own) (lim := lim) (peer := peer) (q0 := q0) (q1 := q1) (q2 := q2) (c9 := c9) (c10 := c10) (hM.below hb) (hW.below hb) ((hC.below hb).few hf))
  have HI := hide (fun (hf : fewC sw cm us ls al gr ky = true) (W : World) (hb : Below w.heap.size w W) => cinit_any (sv := sv) (ex := ex) (ge := ge) (own := own) (lim := lim) (peer := peer) (q0 := q0) (q1 := q1) (q2 := q2) (c9 := c9) (c10 := c10) hx he ((hC.below hb).few hf))
  have HV := hide (fun (hf : fewC sw cm us ls al gr ky = true) (W : World) => show Calls Tryz.prog 11 #[.agg #[.bool sv, .string (bs sw), .string (bs cm), .slice A0 n0 c0, .slice A1 n1 c1, .slice A2 n2 c2, .slice A3 n3 c3, .slice A4 n4 c4, .slice A5 n5 c5, .slice A6 n6 c6, .slice A7 n7 c7, .slice A8 al.length c8, .int .i64 own, .slice A9 gr.length c9, .int .i64 lim, .int .i64 peer, .string (bs us), .slice A10 ky.length c10, .bool ex, .bool ge, .int .u32 q0, .int .u32 q1, .int .u32 q2]] W (fun e w' => e = .returned (.string (bs (verL sw cm))) ∧ Below W.heap.size W w') from version_any (w := W) (hC.few hf).hsw (hC.few hf).hcm)
  have HLs := hide (fun (hf : fewC sw cm us ls al gr ky = true) => And.intro (hC.few hf).hl8.2.1 (fewLs_get (fewC_ls hf)))
  have HMx := hide (fun (W : World) (hb : Below w.heap.size w W) => hL.below hb)
  have HN := hide (errC_none (sv := sv) (sw := sw) (cm := cm) (us := us) (ls := ls) (own := own) (lim := lim) (peer := peer) (q0 := q0) (q1 := q1) (q2 := q2) (al := al) (gr := gr) (ky := ky))
  have HX := hide (And.intro hb0 hX0)
  clear hb0 hM hW hL hC hx he
  generalize hcv : (#[.bool sv, .string (bs sw), .string (bs cm), .slice A0 n0 c0, .slice A1 n1 c1, .slice A2 n2 c2, .slice A3 n3 c3, .slice A4 n4 c4, .slice A5 n5 c5, .slice A6 n6 c6, .slice A7 n7 c7, .slice A8 al.length c8, .int .i64 own, .slice A9 gr.length c9, .int .i64 lim, .int .i64 peer, .string (bs us), .slice A10 ky.length c10, .bool ex, .bool ge, .int .u32 q0, .int .u32 q1, .int .u32 q2] : Array Value) = cv at HF HK HI HV HX hX0 hW0 ⊢
  have hcl : cv.toList.length = 23 := by rw [← hcv]; rfl
  clear hcv
  have hlt0 := hX0.lt
  clear hX0
  generalize (!sv && (ex && (e == 0))) = f0 at HI
  generalize (!sv && (e == 0)) = f2 at HI
  generalize (sv && (e == 0)) = f3 at HI
  generalize (!sv && ge) = f4 at HI
  generalize errC sv sw cm us ls own lim peer q0 q1 q2 al gr ky = O at HK HN
  have HV9 := hide (fun (h : verL sw cm ≠ []) => verL_nine h)
  generalize verL sw cm = vv at HV HN HV9
  cases hf : fewC sw cm us ls al gr ky with
  | false =>
    rw [hf] at HF
    clear HK HI HV HLs HMx HN HV9 hf
    go_enter Tryz.func6, Tryz.ntmps6
    go_upto_region 1 with fail
    rw [← hW0]
    clear hW0
    refine wp_region_lit ?_
    refine wpList_load_confA rfl (.tmp 3) rfl (by rfl) HX.out.2 hcl ?_
    go_wp2_with (first
      | (go_at_call 7; refine HF.out.mono ?_; rintro o w1 ⟨rfl, hb1⟩; have hb01 := HX.out.1.trans (hb1.mono HX.out.1.size))
      | (go_at_call 8; refine (HA.out _ hb01).mono ?_; rintro o w2 ⟨rfl, hb2⟩)
      | fail)
    go_ret
    exact ⟨rfl, hb01.trans (hb2.mono hb01.size)⟩
  | true =>
    rw [hf] at HF
    have HK := hide (HK.out hf)
    have HI := hide (HI.out hf)
    have HVt := hide (HV.out hf)
    clear HV
    have HLs := hide (HLs.out hf)
    clear hf
    go_enter Tryz.func6, Tryz.ntmps6
    go_upto_region 1 with fail
    rw [← hW0]
    clear hW0
    refine wp_region_lit ?_
    refine wpList_load_confA rfl (.tmp 3) rfl (by rfl) HX.out.2 hcl ?_
    try simp only [Act.put, List.setIfInBounds_toArray, List.set_cons_zero, List.set_cons_succ]
    refine wpList_call_ rfl (by go_simp) (HF.out) ?_
    rintro o w1 ⟨rfl, hb1⟩
    refine ⟨_, rfl, ?_⟩
    try simp only [Act.put, List.setIfInBounds_toArray, List.set_cons_zero, List.set_cons_succ]
    refine wpList_val (v := .bool false) (w' := w1) rfl (by go_simp) ?_
    try simp only [Act.put, List.setIfInBounds_toArray, List.set_cons_zero, List.set_cons_succ]
    refine wpList_val (v := .bool false) (w' := w1) rfl (by go_simp) ?_
    try simp only [Act.put, List.setIfInBounds_toArray, List.set_cons_zero, List.set_cons_succ]
    have hb01 := HX.out.1.trans (hb1.mono HX.out.1.size)
    have hX1 := HX.out.2.below hb1 hlt0
    refine wpList_load_confG (by rfl) (.tmp 3) rfl (by rfl) hX1 hcl ?_
    try simp only [Act.put, List.setIfInBounds_toArray, List.set_cons_zero, List.set_cons_succ]
    refine wpList_callG (by rfl) (by go_simp) (HK.out _ hb01) ?_
    rintro o w2 hE2
    obtain ⟨v2, rfl⟩ := errR_val hE2
    refine ⟨_, rfl, ?_⟩
    try simp only [Act.put, List.setIfInBounds_toArray, List.set_cons_zero, List.set_cons_succ]
    have hb2 := hE2.1
    have hb02 := hb01.trans (hb2.mono hb01.size)
    have hX2 := hX1.below hb2 hX1.lt
    have HE2 := hide hE2
    clear hE2
    rcases or_opt O with hO | ⟨⟨ps, k⟩, hO⟩
    · rw [hO] at HE2
      obtain rfl : v2 = .nilIface := by have := HE2.out.2; injection this
      obtain ⟨hvv, hpr⟩ := HN.out hO
      clear HN HE2 hO
      have hv9 := HV9.out hvv
      clear HV9 hvv
      refine wpList_valG (v := .bool false) (w' := w2) (by rfl) (by go_simp) ?_
      try simp only [Act.put, List.setIfInBounds_toArray, List.set_cons_zero, List.set_cons_succ]
      refine wpList_val (v := .bool false) (w' := w2) rfl (by go_simp) ?_
      try simp only [Act.put, List.setIfInBounds_toArray, List.set_cons_zero, List.set_cons_succ]
      go_upto_region 3 with fail
      refine wp_region_lit ?_
      refine wpList_load_confA rfl (.tmp 3) rfl (by rfl) hX2 hcl ?_
      try simp only [Act.put, List.setIfInBounds_toArray, List.set_cons_zero, List.set_cons_succ]
      refine wpList_val (v := .int .i64 x) (w' := w2) rfl (by go_simp) ?_
      try simp only [Act.put, List.setIfInBounds_toArray, List.set_cons_zero, List.set_cons_succ]
      refine wpList_val (v := .int .i64 e) (w' := w2) rfl (by go_simp) ?_
      try simp only [Act.put, List.setIfInBounds_toArray, List.set_cons_zero, List.set_cons_succ]
      refine wpList_call_ rfl (by go_simp) (HI.out _ hb02) ?_
      rintro o w3 ⟨r, B0, m0, d0, B1, m1, d1, B2, m2, d2, B3, m3, d3, B4, m4, d4, B5, m5, d5, B6, m6, d6, B7, m7, d7, rfl, hr, hN, hb3⟩
      refine ⟨_, rfl, ?_⟩
      try simp only [Act.put, List.setIfInBounds_toArray, List.set_cons_zero, List.set_cons_succ]
      obtain rfl : r = bs (cookie x e) := data_injT (hr.trans (bs_data _).symm)
      have hck : (cookie x e).length = 16 := cookie_len x e
      generalize cookie x e = ck at hck ⊢
      clear hr
      have hl8 := HLs.out
      match ls, hl8 with
      | [l0, l1, l2, l3, l4, l5, l6, l7], hl8 =>
        obtain rfl := newC_len (hN 0 _ _ rfl rfl)
        obtain rfl := newC_len (hN 1 _ _ rfl rfl)
        obtain rfl := newC_len (hN 2 _ _ rfl rfl)
        obtain rfl := newC_len (hN 3 _ _ rfl rfl)
        obtain rfl := newC_len (hN 4 _ _ rfl rfl)
        obtain rfl := newC_len (hN 5 _ _ rfl rfl)
        obtain rfl := newC_len (hN 6 _ _ rfl rfl)
        obtain rfl := newC_len (hN 7 _ _ rfl rfl)
        obtain ⟨hmk, s, hs, hs1⟩ := says_ok (ck := ck) f0 false f2 f3 f4 hpr hck
        have hA3 : AllC w3 [.slice B0 l0.length d0, .slice B1 l1.length d1, .slice B2 l2.length d2, .slice B3 l3.length d3, .slice B4 l4.length d4, .slice B5 l5.length d5, .slice B6 l6.length d6, .slice B7 l7.length d7, .slice none 0 0, .slice none 0 0] [l0, l1, l2, l3, l4, l5, l6, l7, [], []] := ⟨rfl, fun i v l h1 h2 => by
          match i, h1, h2 with
          | 0, h1, h2 => cases h1; cases h2; exact ⟨(hN 0 _ _ rfl rfl).txc, by have := (hl8.2 _ (by simp : l0 ∈ _)).1; omega⟩
          | 1, h1, h2 => cases h1; cases h2; exact ⟨(hN 1 _ _ rfl rfl).txc, by have := (hl8.2 _ (by simp : l1 ∈ _)).1; omega⟩
          | 2, h1, h2 => cases h1; cases h2; exact ⟨(hN 2 _ _ rfl rfl).txc, by have := (hl8.2 _ (by simp : l2 ∈ _)).1; omega⟩
          | 3, h1, h2 => cases h1; cases h2; exact ⟨(hN 3 _ _ rfl rfl).txc, by have := (hl8.2 _ (by simp : l3 ∈ _)).1; omega⟩
          | 4, h1, h2 => cases h1; cases h2; exact ⟨(hN 4 _ _ rfl rfl).txc, by have := (hl8.2 _ (by simp : l4 ∈ _)).1; omega⟩
          | 5, h1, h2 => cases h1; cases h2; exact ⟨(hN 5 _ _ rfl rfl).txc, by have := (hl8.2 _ (by simp : l5 ∈ _)).1; omega⟩
          | 6, h1, h2 => cases h1; cases h2; exact ⟨(hN 6 _ _ rfl rfl).txc, by have := (hl8.2 _ (by simp : l6 ∈ _)).1; omega⟩
          | 7, h1, h2 => cases h1; cases h2; exact ⟨(hN 7 _ _ rfl rfl).txc, by have := (hl8.2 _ (by simp : l7 ∈ _)).1; omega⟩
          | 8, h1, h2 => cases h1; cases h2; exact ⟨txc_nil _ _, by decide⟩
          | 9, h1, h2 => cases h1; cases h2; exact ⟨txc_nil _ _, by decide⟩
          | n + 10, h1, h2 => simp at h1⟩
        have hsz := kexMsg_get (ck := ck) (kex := l0) (more := [l1, l2, l3, l4, l5, l6, l7, [], []]) (a := f0) (b := false) (c := f2) (d := f3) (e0 := f4) (by omega) (fun l hl => by
          simp only [List.mem_cons, List.mem_nil_iff, or_false] at hl
          rcases hl with rfl | rfl | rfl | rfl | rfl | rfl | rfl | rfl | rfl | rfl
          · exact hl8.2 _ (by simp)
          · exact hl8.2 _ (by simp)
          · exact hl8.2 _ (by simp)
          · exact hl8.2 _ (by simp)
          · exact hl8.2 _ (by simp)
          · exact hl8.2 _ (by simp)
          · exact hl8.2 _ (by simp)
          · exact hl8.2 _ (by simp)
          · exact ⟨by simp, by simp⟩
          · exact ⟨by simp, by simp⟩)
        have hb03 := hb02.trans (hb3.mono hb02.size)
        have hX3 := hX2.below hb3 hX2.lt
        have HFit := hide (fun x hx => (hsz x hx).2)
        have HB := hide (fun (W : World) (hb : Below w3.heap.size w3 W) => build16_any ck f0 false f2 f3 f4 (hA3.below hb) (fun x hx => (hsz x hx).1))
        have HA3 := hide hA3
        clear hN hl8 HLs hA3 hpr hsz hb2 hb3 hX1
        go_upto_region 4 with fail
        obtain ⟨w4, hw4⟩ : ∃ w4, w4 = w3.alloc (.cells #[.string (bs ck), .slice B0 l0.length d0, .slice B1 l1.length d1, .slice B2 l2.length d2, .slice B3 l3.length d3, .slice B4 l4.length d4, .slice B5 l5.length d5, .slice B6 l6.length d6, .slice B7 l7.length d7, .slice none 0 0, .slice none 0 0, .bool f0, .bool false, .bool f2, .bool f3, .bool f4] 45) := ⟨_, rfl⟩
        have hbx : Below w3.heap.size w3 w4 := by rw [hw4]; (repeat (first | exact Below.refl _ _ | refine below_drewN ?_ _ | refine Below.drew ?_ | refine Below.alloc ?_ (by first | omega | (simp; done) | (simp; omega)) _ | refine Below.setCell ?_ (by first | omega | (simp; done) | (simp; omega)) _ | refine bel_alloc ?_ _ | refine bel_trans ?_ (by assumption) | refine Below.trans ?_ (Below.mono (by assumption) (by first | omega | (simp; done) | (simp; omega)))))
        have hXi : Blk w4 w3.heap.size 45 #[.string (bs ck), .slice B0 l0.length d0, .slice B1 l1.length d1, .slice B2 l2.length d2, .slice B3 l3.length d3, .slice B4 l4.length d4, .slice B5 l5.length d5, .slice B6 l6.length d6, .slice B7 l7.length d7, .slice none 0 0, .slice none 0 0, .bool f0, .bool false, .bool f2, .bool f3, .bool f4] := by rw [hw4]; exact Blk.new w3 _ _
        rw [← hw4]
        clear hw4
        refine wp_region_lit ?_
        refine wpList_load_blk rfl (.tmp 7) rfl (by rfl) hXi Tryz.underlying45 rfl infoInit16 ?_
        try simp only [Act.put, List.setIfInBounds_toArray, List.set_cons_zero, List.set_cons_succ]
        have hb04 := hb03.trans (hbx.mono hb03.size)
        have HX4 := hide (And.intro hb04 (And.intro (hX3.below hbx hX3.lt) hXi))
        refine wpList_call_ rfl (by go_simp) (HB.out _ hbx) ?_
        rintro o w5 ⟨hb5, hr5⟩
        rcases hr5 with ⟨_, s2, hs2, rfl⟩ | ⟨q, ps, k, hk, _⟩
        rotate_left 1
        · exfalso
          unfold kexErr at hk
          rw [if_neg (by rw [hmk]; decide), hs] at hk
          cases hk
        obtain rfl : s = s2 := by rw [hs] at hs2; injection hs2
        refine ⟨_, rfl, ?_⟩
        try simp only [Act.put, List.setIfInBounds_toArray, List.set_cons_zero, List.set_cons_succ]
        have hd := dec_enc HFit.out hs
        have hsl : s.length ≤ 1000000 := by obtain ⟨hd1, hd2, hd3, hd4, hd5⟩ := hd; omega
        have hb05 := HX4.out.1.trans (hb5.mono HX4.out.1.size)
        have HX5 := hide (And.intro hb05 (And.intro (HX4.out.2.1.below hb5 HX4.out.2.1.lt) (HX4.out.2.2.below hb5 HX4.out.2.2.lt)))
        have HA5 := hide ((HA3.out.below hbx).below hb5)
        have HPa := hide (parse16_any (w := w5) (bs s) (by rw [bs_size]; exact hsl) (HMx.out _ hb05))
        rw [bs_data] at HPa
        have Hd := hide hd.1
        have HsX := hide (And.intro hs hs1)
        have Hmk := hide hmk
        clear hd hs hs1 hs2 hmk hb5 hb05 hb04 hbx hXi hX3 hb03 HX4 HA3 HB hsl hX2 hb02
        go_upto_region 5 with fail
        go_wp2_with fail
        refine HPa.out.mono ?_
        rintro o w7 ⟨hb7, ⟨ck2, k1, k2, k3, k4, k5, k6, k7, k8, k9, k10, f, D0, u0, g0, D1, u1, g1, D2, u2, g2, D3, u3, g3, D4, u4, g4, D5, u5, g5, D6, u6, g6, D7, u7, g7, D8, u8, g8, D9, u9, g9, hd2, hf2, hmr, he, hAC⟩ | ⟨q, ps, k, hpe, _, _⟩⟩
        · have hbp := build_parse (x := ⟨ck, l0, [l1, l2, l3, l4, l5, l6, l7, [], []], f0, false, f2, f3, f4⟩) Hmk.out HFit.out HsX.out.1
          rw [hbp.1] at hd2
          injection hd2 with _ hd3
          obtain ⟨hc1, hc2, hc3, _⟩ := kexFs_inj (by rfl) (by rfl) hd3
          simp only [List.cons.injEq, and_true] at hc2
          obtain ⟨rfl, rfl, rfl, rfl, rfl, rfl, rfl, rfl, rfl, rfl⟩ := hc2
          subst hc1 hc3
          rw [splitM_of f0 false f2 f3 Hmk.out] at he hAC
          have hfo : (foN f4 == 1) = f4 := by cases f4 <;> rfl
          simp only [hfo] at he hAC
          subst he
          have hB7 := Blk.new w7 45 #[.string (bs ck), .slice D0 u0 g0, .slice D1 u1 g1, .slice D2 u2 g2, .slice D3 u3 g3, .slice D4 u4 g4, .slice D5 u5 g5, .slice D6 u6 g6, .slice D7 u7 g7, .slice D8 u8 g8, .slice D9 u9 g9, .bool f0, .bool false, .bool f2, .bool f3, .bool f4]
          have hbx := (Below.refl w7.heap.size w7).alloc (Nat.le_refl _) (.cells #[.string (bs ck), .slice D0 u0 g0, .slice D1 u1 g1, .slice D2 u2 g2, .slice D3 u3 g3, .slice D4 u4 g4, .slice D5 u5 g5, .slice D6 u6 g6, .slice D7 u7 g7, .slice D8 u8 g8, .slice D9 u9 g9, .bool f0, .bool false, .bool f2, .bool f3, .bool f4] 45)
          have hb08 := HX5.out.1.trans ((hb7.trans (hbx.mono hb7.size)).mono HX5.out.1.size)
          have hAC8 := hAC.below hbx
          have hbz := hb7.trans (hbx.mono hb7.size)
          have hC8 := HX5.out.2.1.below hbz HX5.out.2.1.lt
          have hX8 := HX5.out.2.2.below hbz HX5.out.2.2.lt
          have hA8 := HA5.out.below hbz
          have hp1 := HsX.out.2
          clear hd3 hf2 hmr hfo hbp hAC hb7 HPa Hd HX5 HA5 HsX Hmk HFit HMx HI HK HX hbz
          go_upto_region 6 with fail
          generalize w7.alloc (.cells #[.string (bs ck), .slice D0 u0 g0, .slice D1 u1 g1, .slice D2 u2 g2, .slice D3 u3 g3, .slice D4 u4 g4, .slice D5 u5 g5, .slice D6 u6 g6, .slice D7 u7 g7, .slice D8 u8 g8, .slice D9 u9 g9, .bool f0, .bool false, .bool f2, .bool f3, .bool f4] 45) = w8 at hB7 hbx hb08 hAC8 hX8 hA8 hC8 ⊢
          generalize w7.heap.size = b7 at hB7 ⊢
          generalize w3.heap.size = b4 at hX8 ⊢
          have HSm := hide (fun (W : World) (hb : Below w8.heap.size w8 W) => same16_true (ck := ck) (a := f0) (b := false) (c := f2) (d := f3) (e0 := f4) (hA8.allM.below hb) (hAC8.allM.below hb))
          clear hbx hAC8 hA8
          have HP1 := hide hp1
          have HV9 := hide hv9
          clear hp1 hv9
          refine wp_region_lit ?_
          refine wpList_call_ rfl (by go_simp) (HA.out _ hb08) ?_
          rintro o w9 ⟨rfl, hb9⟩
          refine ⟨_, rfl, ?_⟩
          try simp only [Act.put, List.setIfInBounds_toArray, List.set_cons_zero, List.set_cons_succ]
          have hX9 := hX8.below hb9 hX8.lt
          have hY9 := hB7.below hb9 hB7.lt
          have hC9 := hC8.below hb9 hC8.lt
          refine wpList_val (v := .bool true) (w' := w9) rfl (by go_simp) ?_
          try simp only [Act.put, List.setIfInBounds_toArray, List.set_cons_zero, List.set_cons_succ]
          refine wpList_valG (v := .nilIface) (w' := w9) (by rfl) (by go_simp) ?_
          try simp only [Act.put, List.setIfInBounds_toArray, List.set_cons_zero, List.set_cons_succ]
          refine wpList_valG (v := .bool true) (w' := w9) (by rfl) (by go_simp) ?_
          try simp only [Act.put, List.setIfInBounds_toArray, List.set_cons_zero, List.set_cons_succ]
          refine wpList_val (v := .bool true) (w' := w9) rfl (by go_simp) ?_
          try simp only [Act.put, List.setIfInBounds_toArray, List.set_cons_zero, List.set_cons_succ]
          refine wpList_val (v := .bool true) (w' := w9) rfl (by go_simp) ?_
          try simp only [Act.put, List.setIfInBounds_toArray, List.set_cons_zero, List.set_cons_succ]
          refine wpList_valG (v := .nilIface) (w' := w9) (by rfl) (by go_simp) ?_
          try simp only [Act.put, List.setIfInBounds_toArray, List.set_cons_zero, List.set_cons_succ]
          refine wpList_valG (v := .bool true) (w' := w9) (by rfl) (by go_simp) ?_
          try simp only [Act.put, List.setIfInBounds_toArray, List.set_cons_zero, List.set_cons_succ]
          refine wpList_val (v := .bool true) (w' := w9) rfl (by go_simp) ?_
          try simp only [Act.put, List.setIfInBounds_toArray, List.set_cons_zero, List.set_cons_succ]
          refine wpList_val (v := .bool true) (w' := w9) rfl (by go_simp) ?_
          try simp only [Act.put, List.setIfInBounds_toArray, List.set_cons_zero, List.set_cons_succ]
          refine wpList_valG (v := .string (bs s)) (w' := w9) (by rfl) (by go_simp) ?_
          try simp only [Act.put, List.setIfInBounds_toArray, List.set_cons_zero, List.set_cons_succ]
          have hp2 : decide (0 < s.length) = true := decide_eq_true HP1.out
          have hbz := bs_size s
          refine wpList_valG (v := .int .i64 s.length) (w' := w9) (by rfl) (by rw [← hbz]; go_simp) ?_
          try simp only [Act.put, List.setIfInBounds_toArray, List.set_cons_zero, List.set_cons_succ]
          refine wpList_valG (v := .bool true) (w' := w9) (by rfl) (by have hp3 : decide ((0 : Int) < (s.length : Int)) = true := decide_eq_true (by have := HP1.out; omega); go_simp) ?_
          try simp only [Act.put, List.setIfInBounds_toArray, List.set_cons_zero, List.set_cons_succ]
          refine wpList_val (v := .bool true) (w' := w9) rfl (by go_simp) ?_
          try simp only [Act.put, List.setIfInBounds_toArray, List.set_cons_zero, List.set_cons_succ]
          refine wpList_val (v := .bool true) (w' := w9) rfl (by go_simp) ?_
          try simp only [Act.put, List.setIfInBounds_toArray, List.set_cons_zero, List.set_cons_succ]
          refine wpList_load_blkG (by rfl) (.tmp 7) rfl (by rfl) hX9 Tryz.underlying45 rfl infoInit16 ?_
          try simp only [Act.put, List.setIfInBounds_toArray, List.set_cons_zero, List.set_cons_succ]
          refine wpList_load_blkG (by rfl) (.tmp 10) rfl (by rfl) hY9 Tryz.underlying45 rfl infoInit16 ?_
          try simp only [Act.put, List.setIfInBounds_toArray, List.set_cons_zero, List.set_cons_succ]
          refine wpList_callG (by rfl) (by go_simp) (HSm.out _ hb9) ?_
          rintro o w10 ⟨rfl, hb10⟩
          refine ⟨_, rfl, ?_⟩
          try simp only [Act.put, List.setIfInBounds_toArray, List.set_cons_zero, List.set_cons_succ]
          have hC10 := hC9.below hb10 hC9.lt
          refine wpList_val (v := .bool true) (w' := w10) rfl (by go_simp) ?_
          try simp only [Act.put, List.setIfInBounds_toArray, List.set_cons_zero, List.set_cons_succ]
          refine wpList_val (v := .bool true) (w' := w10) rfl (by go_simp) ?_
          try simp only [Act.put, List.setIfInBounds_toArray, List.set_cons_zero, List.set_cons_succ]
          refine wpList_load_confG (by rfl) (.tmp 3) rfl (by rfl) hC10 hcl ?_
          try simp only [Act.put, List.setIfInBounds_toArray, List.set_cons_zero, List.set_cons_succ]
          refine wpList_callG (by rfl) (by go_simp) (HVt.out w10) ?_
          rintro o w11 ⟨rfl, hbv⟩
          refine ⟨_, rfl, ?_⟩
          try simp only [Act.put, List.setIfInBounds_toArray, List.set_cons_zero, List.set_cons_succ]
          have hby := bs_size vv
          refine wpList_valG (v := .int .i64 vv.length) (w' := w11) (by rfl) (by rw [← hby]; go_simp) ?_
          try simp only [Act.put, List.setIfInBounds_toArray, List.set_cons_zero, List.set_cons_succ]
          refine wpList_valG (v := .bool true) (w' := w11) (by rfl) (by have hp3 : decide ((9 : Int) ≤ (vv.length : Int)) = true := decide_eq_true (by have := HV9.out; omega); go_simp) ?_
          try simp only [Act.put, List.setIfInBounds_toArray, List.set_cons_zero, List.set_cons_succ]
          refine wpList_val (v := .bool true) (w' := w11) rfl (by go_simp) ?_
          try simp only [Act.put, List.setIfInBounds_toArray, List.set_cons_zero, List.set_cons_succ]
          have hb11 := hb08.trans ((hb9.trans ((hb10.trans (hbv.mono hb10.size)).mono hb9.size)).mono hb08.size)
          clear hX8 hB7 hC8 hX9 hY9 hC9 hC10 HSm HVt HA HP1 HV9 hp2 hbz hby
          refine wpList_val (v := .bool true) (w' := w11) rfl (by go_simp) ?_
          try simp only [Act.put, List.setIfInBounds_toArray, List.set_cons_zero, List.set_cons_succ]
          go_wp2_with fail
          go_ret
          exact ⟨rfl, hb11⟩
        · exfalso
          have hbp := build_parse (x := ⟨ck, l0, [l1, l2, l3, l4, l5, l6, l7, [], []], f0, false, f2, f3, f4⟩) Hmk.out HFit.out HsX.out.1
          rcases hpe with ⟨qs, h1, _⟩ | ⟨n, l, h1, h2, _⟩ | ⟨ck2, k1, more, f, u, h1, h2, _, h3, _⟩
          · rw [hbp.1] at h1; cases h1
          · rw [hbp.1] at h1; injection h1 with h4 _; exact h2 h4.symm
          · rw [hbp.1] at h1
            injection h1 with _ h4
            obtain ⟨_, h5, _, h6⟩ := kexFs_inj (by rfl) (by simp [h2]) h4
            injection h5 with h7 _
            rcases h3 with h3 | h3
            · rw [← h7, splitM_of f0 false f2 f3 Hmk.out, Hmk.out] at h3
              cases h3
            · exact h3 h6.symm
    · rw [hO] at HE2
      obtain ⟨b, hv2, hi⟩ := HE2.out.2
      obtain rfl : v2 = errV b := by injection hv2
      clear HE2 hO hi hv2 HN HI HVt HLs HMx HK HF
      unfold errV
      refine wpList_valG (v := .bool true) (w' := w2) (by rfl) (by go_simp) ?_
      try simp only [Act.put, List.setIfInBounds_toArray, List.set_cons_zero, List.set_cons_succ]
      refine wpList_val (v := .bool true) (w' := w2) rfl (by go_simp) ?_
      try simp only [Act.put, List.setIfInBounds_toArray, List.set_cons_zero, List.set_cons_succ]
      go_wp2_with (first
        | (go_at_call 8; refine (HA.out _ hb02).mono ?_; rintro o w6 ⟨rfl, hb6⟩)
        | fail)
      go_ret
      exact ⟨rfl, hb02.trans (hb6.mono hb02.size)⟩
end
end Go.Proofs.YtjaipdenahlheaaGreatDoor
