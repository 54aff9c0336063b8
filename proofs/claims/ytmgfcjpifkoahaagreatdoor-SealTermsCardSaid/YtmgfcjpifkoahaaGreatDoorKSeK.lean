/-
  The contracts of seal.Unit and seal.Pack. Conditions: numbers fit their kinds.
-/
import Derived.Test.YtmgfcjpifkoahaaGreatDoorKSePG
set_option linter.unusedVariables false
set_option linter.unusedSimpArgs false
namespace Go.Proofs.YtmgfcjpifkoahaaGreatDoor
open Go.RowKit Go.ChangeShapes Go.WideShapes Go.Sort
noncomputable def pkS (key : Option Tm) (n : Nat) (body : List UInt8) : List UInt8 × Int :=
 if body.length = 0 then ([], 4) else if 32768 < body.length then ([], 2) else match key with
  | none => ([], 1)
  | some k => match tSeal n (some k) (payT body) with
   | none => ([], 2)
   | some t => (unitB (enc t), 0)
theorem pkS_0 {key : Option Tm} {n : Nat} {body : List UInt8} (h : body.length = 0) : pkS key n body = ([], 4) := if_pos h
theorem pkS_long {key : Option Tm} {n : Nat} {body : List UInt8} (h : 32768 < body.length) : pkS key n body = ([], 2) := by unfold pkS; rw [if_neg (by omega), if_pos h]
theorem pkS_none {n : Nat} {body : List UInt8} (h0 : body.length ≠ 0) (h : ¬ 32768 < body.length) : pkS none n body = ([], 1) := by unfold pkS; rw [if_neg h0, if_neg h]
theorem pkS_no {k : Tm} {n : Nat} {body : List UInt8} (h0 : body.length ≠ 0) (h : ¬ 32768 < body.length) (ht : tSeal n (some k) (payT body) = none) : pkS (some k) n body = ([], 2) := by
 unfold pkS
 rw [if_neg h0, if_neg h]
 show (match tSeal n (some k) (payT body) with | none => (([], 2) : List UInt8 × Int) | some t => (unitB (enc t), 0)) = _
 rw [ht]
theorem pkS_ok {k t : Tm} {n : Nat} {body : List UInt8} (h0 : body.length ≠ 0) (h : ¬ 32768 < body.length) (ht : tSeal n (some k) (payT body) = some t) : pkS (some k) n body = (unitB (enc t), 0) := by
 unfold pkS
 rw [if_neg h0, if_neg h]
 show (match tSeal n (some k) (payT body) with | none => (([], 2) : List UInt8 × Int) | some t => (unitB (enc t), 0)) = _
 rw [ht]
def PackY (w0 : World) (B g : Nat) (T : List Tm) (S : Nat → Prop) (wb : World) (o : List UInt8 × Int) (e : Ending) (w' : World) : Prop :=
 ∃ T' S', e = .returned (.tuple #[.string (bs o.1), .int .i64 o.2]) ∧ T <+: T' ∧ T'.length ≤ T.length + 2300000 ∧ Pay w0 B g T' S' w' ∧ Grown S wb S' w'
section
variable {w0 wb : World} {B g : Nat} {T : List Tm} {S : Nat → Prop}
theorem seal_pay (h : Pay w0 B g T S wb) {x y : Option Tm} {n m : Int} (hx : Idn T x n) (hy : Idn T y m) (c : Nat) (hc : c < 4294967296) (hT : T.length ≤ 900000000) (w : World) (hb : Below wb.heap.size wb w) : Calls Tryz.prog 78 #[.pointer (some ⟨g, 0, none⟩), .int .i64 n, .int .u32 c, .int .i64 m] w (DoneY w0 B g T S wb (tSeal c x y) 1) := by
 have H := aSeal_any (h.use.below hb) c hc n m
 rw [hx.1, hy.1] at H
 exact H.mono fun _ _ hd => DoneF.y h hb (by omega) hd.f
theorem key_pay (h : Pay w0 B g T S wb) (who : Int) (hT : T.length ≤ 900000000) (w : World) (hb : Below wb.heap.size wb w) : Calls Tryz.prog 42 #[.pointer (some ⟨g, 0, none⟩), .int .i64 who] w (DoneY w0 B g T S wb (tKey who) 1) :=
 (aKey_any (h.use.below hb) who).mono fun _ _ hd => DoneF.y h hb (by omega) hd.f
theorem pack_no (h : Pay w0 B g T S wb) {w' : World} (hb : Below wb.heap.size wb w') (x : Int) {o : List UInt8 × Int} (ho : o = ([], x)) : PackY w0 B g T S wb o (.returned (.tuple #[.string ⟨#[]⟩, .int .i64 x])) w' := by
 subst ho
 exact ⟨T, S, rfl, List.prefix_refl _, by omega, h.below hb, Grown.of_below hb⟩
theorem sunit_any {w : World} (h : Ar B w g T S) {t : Tm} {n : Int} (ht : fine t) (hn : arg T n = some t) : Calls Tryz.prog 100 #[.pointer (some ⟨g, 0, none⟩), .int .i64 n] w (fun e w' => e = .returned (.tuple #[.string (bs (unitB (enc t))), .int .i64 0]) ∧ Below w.heap.size w w') := by
 have HE := encode_any h n
 rw [hn] at HE
 have HE := hide (show Calls Tryz.prog 11 #[.pointer (some ⟨g, 0, none⟩), .int .i64 n] w (fun e w' => e = .returned (.string (bs (enc t))) ∧ Below w.heap.size w w') from HE)
 have hne := enc_toList_ne t
 have hu : unitF (bs (enc t)).data.toList = (unitB (enc t), 0) := by
  show unitF (enc t) = _
  unfold unitF
  rw [if_neg (enc_ne t), if_neg (by have := ht.2; omega)]
 have HU := hide (fun (W : World) => unit_any (bs (enc t)) W (by show (enc t).length ≤ _; have := ht.2; omega))
 rw [hu] at HU
 clear h hn ht hu
 generalize bs (enc t) = x at HE hne HU
 generalize unitB (enc t) = y at HU ⊢
 go_enter Tryz.func100, Tryz.ntmps100
 go_wp2_with fail
 refine HE.out.mono ?_
 rintro e w1 ⟨rfl, hb1⟩
 go_wp2_with fail
 refine (HU.out _).mono ?_
 rintro e w2 ⟨r, rfl, hr, hb2⟩
 obtain rfl : r = bs y := tl_injF hr
 clear hr
 go_wp2_with fail
 go_ret2
 exact ⟨rfl, hb1.trans (hb2.mono hb1.size)⟩
set_option maxHeartbeats 4000000 in
set_option maxRecDepth 100000 in
theorem spack_any (h : Pay w0 B g T S wb) {key : Option Tm} {m : Int} (hk : Idn T key m) (n : Nat) (hn : n < 4294967296) (body : ByteArray) (hT : T.length ≤ 500000000) (w : World) (hb : Below wb.heap.size wb w) :
  Calls Tryz.prog 41 #[.pointer (some ⟨g, 0, none⟩), .int .i64 m, .int .u32 n, .string body] w (PackY w0 B g T S wb (pkS key n body.data.toList)) := by
 obtain ⟨W0, hW0⟩ : ∃ W0, W0 = ((w.alloc (.cells #[.pointer (some ⟨g, 0, none⟩)] 23)).alloc (.cells #[.int .i64 m] 25)).alloc (.cells #[.string body] 9) := ⟨_, rfl⟩
 have hb0 : Below w.heap.size w W0 := by rw [hW0]; exact bel_by
 have hX2 : Blk W0 w.heap.size 23 #[.pointer (some ⟨g, 0, none⟩)] := by rw [hW0]; exact ((Blk.new w _ _).alloc _).alloc _
 have hX3 : Blk W0 (w.heap.size + 1) 25 #[.int .i64 m] := by rw [hW0]; exact (blk_new2F w _ _ _).alloc _
 have hX4 : Blk W0 (w.heap.size + 1 + 1) 9 #[.string body] := by
  rw [hW0]
  have := Blk.new ((w.alloc (.cells #[.pointer (some ⟨g, 0, none⟩)] 23)).alloc (.cells #[.int .i64 m] 25)) 9 #[.string body]
  rw [World.size_alloc, World.size_alloc] at this
  exact this
 have y2 := hX2.cell 0
 have y3 := hX3.cell 0
 have y4 := hX4.cell 0
 simp only [List.getElem?_toArray, List.getElem?_cons_zero] at y2 y3 y4
 have hz0 : W0.heap.size = w.heap.size + 3 := by rw [hW0]; simp
 obtain ⟨W1, hW1⟩ : ∃ W1, W1 = W0.alloc (.cells #[.func (.func 97) #[] #[.pointer (some ⟨w.heap.size + 1 + 1, 0, none⟩)], .int .i64 4, .func (.func 98) #[] #[.pointer (some ⟨w.heap.size + 1 + 1, 0, none⟩)], .int .i64 2, .func (.func 99) #[] #[.pointer (some ⟨w.heap.size, 0, none⟩), .pointer (some ⟨w.heap.size + 1, 0, none⟩)], .int .i64 1] 146) := ⟨_, rfl⟩
 have hb1 : Below w.heap.size w W1 := by rw [hW1]; exact bel_by
 have hQ : Blk W1 W0.heap.size 146 #[.func (.func 97) #[] #[.pointer (some ⟨w.heap.size + 1 + 1, 0, none⟩)], .int .i64 4, .func (.func 98) #[] #[.pointer (some ⟨w.heap.size + 1 + 1, 0, none⟩)], .int .i64 2, .func (.func 99) #[] #[.pointer (some ⟨w.heap.size, 0, none⟩), .pointer (some ⟨w.heap.size + 1, 0, none⟩)], .int .i64 1] := by rw [hW1]; exact Blk.new W0 _ _
 have hb01 : Below W0.heap.size W0 W1 := by rw [hW1]; exact bel_newF _
 have z2 := cellB hb01 y2
 have z3 := cellB hb01 y3
 have z4 := cellB hb01 y4
 have hP1 := h.below (hb.trans (hb1.mono hb.size))
 have hcells : ∀ W, Below W1.heap.size W1 W → W.cell? ⟨w.heap.size, 0, none⟩ = some (.pointer (some ⟨g, 0, none⟩)) ∧ W.cell? ⟨w.heap.size + 1, 0, none⟩ = some (.int .i64 m) ∧ W.cell? ⟨w.heap.size + 1 + 1, 0, none⟩ = some (.string body) := fun W hW => ⟨cellB hW z2, cellB hW z3, cellB hW z4⟩
 have HF := hide (fun (b1 b2 b3 : Bool) (f1 : (body.toList == []) = b1) (f2 : decide ((32768 : Int) < body.size) = b2) (f3 : ((match arg T m with | some t => (t.k : Int) | none => 0) == 0) = b3) => pfirst_any (x1 := 4) (x2 := 2) (x3 := 1) hQ (fun W hW => pk1_any (hcells W hW).2.2 f1) (fun W hW => pk2_any (hcells W hW).2.2 f2) (fun W hW => pk3_any (hcells W hW).1 (hcells W hW).2.1 f3 (akind_any (hP1.ar.below hW) m)))
 have Hb := hide (hb.trans (hb1.mono hb.size))
 have HP := hide hP1
 have HZ := hide (And.intro z2 (And.intro z3 z4))
 have hsL := h.ar.sL
 have hsb := hb.size
 have Hno := hide (show ¬ S w.heap.size ∧ ¬ S (w.heap.size + 1) ∧ ¬ S (w.heap.size + 1 + 1) from ⟨fun h9 => by have := hsL _ h9; omega, fun h9 => by have := hsL _ h9; omega, fun h9 => by have := hsL _ h9; omega⟩)
 have hlt : w.heap.size + 3 < W1.heap.size := by rw [hW1]; simp; omega
 clear hz0
 have Hh := hide h
 have Hk := hide hk
 have e1 : ∀ bb : Bool, (decide (body.size = 0)) = bb → (body.toList == []) = bb := fun bb hbb => by
  rw [← hbb, Bool.eq_iff_iff, beq_iff_eq, decide_eq_true_eq, ByteArray.toList_eq]
  exact ⟨fun h9 => by rw [← size_len, h9]; rfl, fun h9 => List.eq_nil_of_length_eq_zero (by rw [size_len]; exact h9)⟩
 have hrun : ∀ x : Int, (Calls Tryz.prog 96 #[.slice (some ⟨W0.heap.size, 0, none⟩) 3 3] W1 (fun e w' => e = .returned (.int .i64 x) ∧ Below W1.heap.size W1 w')) → (x == 0) = false → pkS key n body.data.toList = ([], x) →
   Calls Tryz.prog 41 #[.pointer (some ⟨g, 0, none⟩), .int .i64 m, .int .u32 n, .string body] w (PackY w0 B g T S wb (pkS key n body.data.toList)) := fun x hc hx he => by
  have HC := hide hc
  have He := hide he
  clear hc he e1 hsL hP1 hcells hk h hb hb1 z2 z3 z4 y2 y3 y4 hX2 hX3 hX4 hb0 hb01 hQ
  go_enter Tryz.func41, Tryz.ntmps41
  go_upto_region 1 with fail
  rw [← hW0]
  clear hW0
  go_wp2_with fail
  rw [← hW1]
  clear hW1
  refine HC.out.mono ?_
  rintro e w2 ⟨rfl, hb2⟩
  go_wp2_with fail
  go_ret2
  exact pack_no Hh.out (Hb.out.trans (hb2.mono Hb.out.size)) x He.out
 by_cases c0 : body.size = 0
 ·exact hrun 4 (HF.out true _ _ (e1 true (decide_eq_true c0)) rfl rfl) rfl (pkS_0 (by rw [size_len]; exact c0))
 by_cases c1 : 32768 < body.size
 ·exact hrun 2 (HF.out false true _ (e1 false (decide_eq_false c0)) (decide_eq_true (by omega)) rfl) rfl (pkS_long (by rw [size_len]; exact c1))
 cases key with
 | none => exact hrun 1 (HF.out false false true (e1 false (decide_eq_false c0)) (decide_eq_false (by omega)) (by rw [hk.1]; rfl)) rfl (pkS_none (by rw [size_len]; exact c0) (by rw [size_len]; exact c1))
 | some k =>
  have hkk := good_k (hP1.ar.ok.fine k (arg_mem hk.1)).1
  have HC := hide (show Calls Tryz.prog 96 #[.slice (some ⟨W0.heap.size, 0, none⟩) 3 3] W1 (fun e w' => e = .returned (.int .i64 0) ∧ Below W1.heap.size W1 w') from HF.out false false false (e1 false (decide_eq_false c0)) (decide_eq_false (by omega)) (by rw [hk.1]; show ((k.k : Int) == 0) = false; rw [beq_eq_false_iff_ne]; omega))
  have Hc := hide (show body.data.toList.length ≠ 0 ∧ ¬ 32768 < body.data.toList.length from ⟨by rw [size_len]; exact c0, by rw [size_len]; exact c1⟩)
  have hbs : body.size ≤ 32768 := by omega
  clear hrun e1 hsL hP1 hcells hk h hb hb1 z2 z3 z4 y2 y3 y4 hX2 hX3 hX4 hb0 hb01 hQ c0 c1 hkk HF
  go_enter Tryz.func41, Tryz.ntmps41
  go_upto_region 1 with fail
  rw [← hW0]
  clear hW0
  go_wp2_with fail
  rw [← hW1]
  clear hW1
  refine HC.out.mono ?_
  rintro e w2 ⟨rfl, hb2⟩
  have HP2 := hide (HP.out.below hb2)
  have Hb2 := hide (Hb.out.trans (hb2.mono Hb.out.size))
  have q2 := cellB hb2 HZ.out.1
  have q3 := cellB hb2 HZ.out.2.1
  have q4 := cellB hb2 HZ.out.2.2
  have hsz2 := hb2.size
  have HTm := hide (term_pay HP2.out (s := body) hbs (by omega))
  clear HZ HC HP hb2
  go_upto_region 4 with fail
  go_region_held3 (fun W => W.cell? ⟨w.heap.size, 0, none⟩ = some (.pointer (some ⟨g, 0, none⟩)) ∧ W.cell? ⟨w.heap.size + 1, 0, none⟩ = some (.int .i64 m) ∧ W.cell? ⟨w.heap.size + 1 + 1, 0, none⟩ = some (.string body))
   (exact ⟨q2, q3, q4⟩)
   (first
    | (go_at_call 9; refine (HTm.out _ (by exact bel_by)).mono ?_; rintro e w3 ⟨T3, n3, S3, rfl, hid3, hp3, hl3, hP3, hG3⟩; replace q2 := hG3.outs.cell q2 Hno.out.1; replace q3 := hG3.outs.cell q3 Hno.out.2.1; replace q4 := hG3.outs.cell q4 Hno.out.2.2; have n3a := hG3.notin2 Hno.out.1 (by omega); have n3b := hG3.notin2 Hno.out.2.1 (by omega); have n3c := hG3.notin2 Hno.out.2.2 (by omega); have HSe := hide (seal_pay hP3 (Hk.out.pre hp3) hid3 n hn (by omega)))
    | (go_at_call 78; refine (HSe.out _ (by exact bel_by)).mono ?_; rintro e w4 ⟨T4, n4, S4, rfl, hid4, hp4, hl4, hP4, hG4⟩; replace q2 := hG4.outs.cell q2 n3a; replace q3 := hG4.outs.cell q3 n3b; replace q4 := hG4.outs.cell q4 n3c)
    | fail)
  have HG := hide ((Grown.of_below Hb2.out).trans (hG3.trans hG4))
  have HP4 := hide (And.intro hP4 (And.intro (hp3.trans hp4) (show T4.length ≤ T.length + 2000001 by omega)))
  cases hts : tSeal n (some k) (payT body.data.toList) with
  | none =>
   rw [hts] at hid4
   obtain rfl : n4 = -1 := hid4.2 rfl
   have HE := hide (pkS_no Hc.out.1 Hc.out.2 hts)
   have hm1 : ((-1 : Int) == -1) = true := rfl
   clear hts hid4 hid3 hp3 hp4 hP3 hP4 hG3 hG4 HTm HSe n3a n3b n3c
   go_wp2_with fail
   go_ret2
   rw [HE.out]
   exact ⟨T4, S4, rfl, HP4.out.2.1, by have := HP4.out.2.2; omega, HP4.out.1, HG.out⟩
  | some t =>
   rw [hts] at hid4
   have hm1 : (n4 == -1) = false := by
    rw [beq_eq_false_iff_ne]
    intro h9
    have := hid4.none_iff.1 h9
    cases this
   have HE := hide (pkS_ok Hc.out.1 Hc.out.2 hts)
   have HU := hide (sunit_any hP4.ar (hP4.ar.ok.fine t (arg_mem hid4.1)) hid4.1)
   clear hts hid4 hid3 hp3 hp4 hP3 hP4 hG3 hG4 HTm HSe n3a n3b n3c
   generalize unitB (enc t) = y at HE HU
   go_wp2_with fail
   refine HU.out.mono ?_
   rintro e w5 ⟨rfl, hb5⟩
   go_wp2_with fail
   go_ret2
   rw [HE.out]
   exact ⟨T4, S4, rfl, HP4.out.2.1, by have := HP4.out.2.2; omega, HP4.out.1.below hb5, HG.out.trans (Grown.of_below hb5)⟩
end
end Go.Proofs.YtmgfcjpifkoahaaGreatDoor
