/-
  Several of my texts in one: SeQ, SeA.
-/
import Derived.Test.YtmgfcjpifkoahaaGreatDoorKSeOG
set_option linter.unusedVariables false
set_option linter.unusedSimpArgs false
namespace Go.Proofs.YtmgfcjpifkoahaaGreatDoor
open Go.RowKit Go.ChangeShapes Go.WideShapes Go.Sort
open Classical in
/-- What is in a sealed term. -/
noncomputable def opT (key : Option Tm) (n : Nat) (t : Tm) : List UInt8 × Int :=
 if t.k ≠ 9 then ([], 8) else if t.l[0]? ≠ key ∨ t.b ≠ n then ([], 8) else
  if ((t.l[1]?).bind bytesT).getD [] = [] then ([], 3) else (((t.l[1]?).bind bytesT).getD [], 0)
noncomputable def opS (key : Option Tm) (n : Nat) (u : List UInt8) : List UInt8 × Int :=
 if (bodyF u).2 ≠ 0 then ([], (bodyF u).2) else match sealT u with
  | none => ([], 2)
  | some t => opT key n t
theorem opT_k {key : Option Tm} {n : Nat} {t : Tm} (h : t.k ≠ 9) : opT key n t = ([], 8) := by unfold opT; rw [if_pos h]
theorem opT_x {key : Option Tm} {n : Nat} {t : Tm} (h : t.k = 9) (h2 : t.l[0]? ≠ key ∨ t.b ≠ n) : opT key n t = ([], 8) := by unfold opT; rw [if_neg (fun h9 => h9 h), if_pos h2]
theorem opT_no {key : Option Tm} {n : Nat} {t : Tm} (h : t.k = 9) (h2 : t.l[0]? = key) (h3 : t.b = n) (h4 : ((t.l[1]?).bind bytesT).getD [] = []) : opT key n t = ([], 3) := by
 unfold opT
 rw [if_neg (fun h9 => h9 h), if_neg (fun h9 => h9.elim (fun h8 => h8 h2) (fun h8 => h8 h3)), if_pos h4]
theorem opT_ok {key : Option Tm} {n : Nat} {t : Tm} (h : t.k = 9) (h2 : t.l[0]? = key) (h3 : t.b = n) (h4 : ((t.l[1]?).bind bytesT).getD [] ≠ []) : opT key n t = (((t.l[1]?).bind bytesT).getD [], 0) := by
 unfold opT
 rw [if_neg (fun h9 => h9 h), if_neg (fun h9 => h9.elim (fun h8 => h8 h2) (fun h8 => h8 h3)), if_neg h4]
theorem opS_no {key : Option Tm} {n : Nat} {u : List UInt8} (h : (bodyF u).2 ≠ 0) : opS key n u = ([], (bodyF u).2) := if_pos h
theorem opS_ok {key : Option Tm} {n : Nat} {u : List UInt8} {t : Tm} (h : (bodyF u).2 = 0) (ht : sealT u = some t) : opS key n u = opT key n t := by
 unfold opS
 rw [if_neg (fun h9 => h9 h), ht]
theorem len_9 {t : Tm} (h : fine t) (hk : t.k = 9) : t.l.length = 2 ∧ t.b < 4294967296 := by
 obtain ⟨k, a, b, s, l⟩ := t
 simp only [Tm.k] at hk
 subst hk
 have h1 := h.1
 unfold good at h1
 obtain ⟨⟨h2, h3, h4, h5⟩, _⟩ := h1
 exact ⟨by first | exact h4 | exact h3 | exact h2 | exact h5, by first | exact h3 | exact h2 | exact h5 | exact h4⟩
structure OpQ (w0 : World) (B g : Nat) (T : List Tm) (S : Nat → Prop) (wb : World) (pB : Nat) (o : List UInt8 × Int) (x : Int) (W : World) : Prop where
 eq : x = o.2
 ar : ∃ T' S', T <+: T' ∧ T'.length ≤ T.length + 2300000 ∧ Pay w0 B g T' S' W ∧ Grown S wb S' W
 cell : x = 0 → W.cell? ⟨pB, 0, none⟩ = some (.string (bs o.1))
 no : x ≠ 0 → o.1 = []
section
variable {w0 wb : World} {B g : Nat} {T : List Tm} {S : Nat → Prop}
theorem own_two_cells {w : World} {b : Nat} {t : TypeId} {A : Option Addr} {c : Nat} {xs : List Value} {n : Nat} (h : w.ownsRow b t 1 (.slice A n c) n xs) (hn : 0 < n) : ∃ g, A = some ⟨g, 0, none⟩ ∧ b ≤ g ∧ g < w.heap.size ∧ ∀ i v, xs[i]? = some v → w.cell? ⟨g, i, none⟩ = some v := by
 obtain ⟨g1, cap1, hv1, _, hl1⟩ := h.form (by omega)
 have e1 : A = some ⟨g1, 0, none⟩ := by injection hv1
 subst e1
 refine ⟨g1, rfl, (h.lt g1 rfl).1, hl1, fun i v hi => ?_⟩
 have k1 := h.cells (g := g1) rfl i v hi
 rwa [add_zero_] at k1
set_option maxHeartbeats 4000000 in
set_option maxRecDepth 100000 in
theorem sopen_any (h : Pay w0 B g T S wb) {key : Option Tm} {m : Int} (hk : Idn T key m) (n : Nat) (hn : n < 4294967296) (u : ByteArray) (hu : u.size ≤ 100000) (hT : T.length ≤ 500000000) (w : World) (hb : Below wb.heap.size wb w) :
  Calls Tryz.prog 43 #[.pointer (some ⟨g, 0, none⟩), .int .i64 m, .int .u32 n, .string u] w (PackY w0 B g T S wb (opS key n u.data.toList)) := by
 obtain ⟨W0, hW0⟩ : ∃ W0, W0 = ((w.alloc (.cells #[.pointer (some ⟨g, 0, none⟩)] 23)).alloc (.cells #[.int .i64 m] 25)).alloc (.cells #[.int .u32 n] 45) := ⟨_, rfl⟩
 have hb0 : Below w.heap.size w W0 := by rw [hW0]; exact bel_by
 have hX2 : Blk W0 w.heap.size 23 #[.pointer (some ⟨g, 0, none⟩)] := by rw [hW0]; exact ((Blk.new w _ _).alloc _).alloc _
 have hX3 : Blk W0 (w.heap.size + 1) 25 #[.int .i64 m] := by rw [hW0]; exact (blk_new2F w _ _ _).alloc _
 have hX4 : Blk W0 (w.heap.size + 1 + 1) 45 #[.int .u32 n] := by
  rw [hW0]
  have := Blk.new ((w.alloc (.cells #[.pointer (some ⟨g, 0, none⟩)] 23)).alloc (.cells #[.int .i64 m] 25)) 45 #[.int .u32 n]
  rw [World.size_alloc, World.size_alloc] at this
  exact this
 have y2 := hX2.cell 0
 have y3 := hX3.cell 0
 have y4 := hX4.cell 0
 simp only [List.getElem?_toArray, List.getElem?_cons_zero] at y2 y3 y4
 have hlt0 : w.heap.size + 3 ≤ W0.heap.size := by rw [hW0]; simp
 have hsb := hb.size
 have hsL := h.ar.sL
 have Hno := hide (show ¬ S w.heap.size ∧ ¬ S (w.heap.size + 1) ∧ ¬ S (w.heap.size + 1 + 1) from ⟨fun h9 => by have := hsL _ h9; omega, fun h9 => by have := hsL _ h9; omega, fun h9 => by have := hsL _ h9; omega⟩)
 have HP := hide (h.below (hb.trans (hb0.mono hb.size)))
 have Hb0 := hide (hb.trans (hb0.mono hb.size))
 have HT := hide (sterm_any HP.out hu (by omega))
 have Hk := hide hk
 have HY := hide (And.intro y2 (And.intro y3 y4))
 have Hh := hide h
 clear hb0 hX2 hX3 hX4 h hb hk hsL y3 y4
 cases hx : decide ((bodyF u.data.toList).2 = 0) with
 | false =>
  have hx := of_decide_eq_false hx
  have HE := hide (opS_no (key := key) (n := n) hx)
  have hx1 : (((bodyF u.data.toList).2 : Int) == 0) = false := by rw [beq_eq_false_iff_ne]; exact hx
  clear hx
  generalize (bodyF u.data.toList).2 = x at HT hx1 HE
  go_enter Tryz.func43, Tryz.ntmps43
  go_upto_region 1 with fail
  rw [← hW0]
  clear hW0
  go_wp2_with fail
  refine (HT.out _ (Below.refl _ _)).mono ?_
  rintro e w2 ⟨T2, n2, S2, rfl, hid2, hp2, hl2, hP2, hG2⟩
  have Hf := hide (And.intro hp2 (And.intro hl2 (And.intro hP2 hG2)))
  clear hid2 hp2 hl2 hP2 hG2
  go_wp2_with fail
  go_ret2
  rw [HE.out]
  obtain ⟨hp2, hl2, hP2, hG2⟩ := Hf.out
  exact ⟨T2, S2, rfl, hp2, by omega, hP2, (Grown.of_below Hb0.out).trans hG2⟩
 | true =>
  have hx := of_decide_eq_true hx
  obtain ⟨t, ht1, ht2, _⟩ := ofT_yes (s := (bodyF u.data.toList).1) (by have := bodyF_len (u := u.data.toList); rw [size_len] at this; omega)
  have hst : sealT u.data.toList = some t := (sealT_ok hx).trans ht1
  have HE := hide (opS_ok (key := key) (n := n) hx hst)
  rw [hst, hx] at HT
  clear hx ht1 hst
  go_enter Tryz.func43, Tryz.ntmps43
  go_upto_region 1 with fail
  rw [← hW0]
  clear hW0
  go_wp2_with fail
  refine (HT.out _ (Below.refl _ _)).mono ?_
  rintro e w2 ⟨T2, n2, S2, rfl, hid2, hp2, hl2, hP2, hG2⟩
  have z2 := hG2.outs.cell HY.out.1 Hno.out.1
  have z3 := hG2.outs.cell HY.out.2.1 Hno.out.2.1
  have z4 := hG2.outs.cell HY.out.2.2 Hno.out.2.2
  have hsz2 := hG2.size
  have Hno2 := hide (show ¬ S2 w.heap.size ∧ ¬ S2 (w.heap.size + 1) ∧ ¬ S2 (w.heap.size + 1 + 1) from ⟨hG2.notin2 Hno.out.1 (by omega), hG2.notin2 Hno.out.2.1 (by omega), hG2.notin2 Hno.out.2.2 (by omega)⟩)
  have HG2 := hide ((Grown.of_below Hb0.out).trans hG2)
  have HP2 := hide hP2
  have Hk2 := hide (Hk.out.pre hp2)
  have Hpl := hide (And.intro hp2 hl2)
  have HV := hide (aview_any hP2.ar n2)
  have hat2 := hid2.1
  have HZ := hide (And.intro z2 (And.intro z3 z4))
  clear hid2 hp2 hl2 hP2 hG2 HT y2 z3 z4
  go_upto_region 4 with fail
  go_wp2_with fail
  refine HV.out.mono ?_
  intro e w3 hV
  rcases hV with ⟨⟨hno, rfl⟩ | ⟨t', js, av, hat, hja, rfl, hown⟩, hb3⟩
  ·rw [hat2] at hno
   cases hno
  obtain rfl : t = t' := by rw [hat2] at hat; exact Option.some.inj hat
  obtain ⟨A, c, rfl⟩ := own_sl hown
  obtain ⟨w6, hw6⟩ : ∃ W, W = (((w3.alloc (.cells #[.int .i64 t.k, .int .i64 t.a, .int .i64 t.b, .string t.s, .slice A js.length c] 70)).alloc (.cells #[.string ⟨#[]⟩] 9)).alloc (.cells #[.bool false] 4)).alloc (.cells #[.func (.func 102) #[] #[.pointer (some ⟨w3.heap.size, 0, none⟩)], .int .i64 8, .func (.func 103) #[] #[.pointer (some ⟨w3.heap.size, 0, none⟩), .pointer (some ⟨w.heap.size + 1, 0, none⟩), .pointer (some ⟨w.heap.size + 1 + 1, 0, none⟩)], .int .i64 8, .func (.func 104) #[] #[.pointer (some ⟨w.heap.size, 0, none⟩), .pointer (some ⟨w3.heap.size, 0, none⟩), .pointer (some ⟨w3.heap.size + 1, 0, none⟩), .pointer (some ⟨w3.heap.size + 1 + 1, 0, none⟩)], .int .i64 3] 146) := ⟨_, rfl⟩
  have hb36 : Below w3.heap.size w3 w6 := by rw [hw6]; exact bel_by
  have hsz6 : w6.heap.size = w3.heap.size + 4 := by rw [hw6]; simp
  have hXn : Blk w6 w3.heap.size 70 #[.int .i64 t.k, .int .i64 t.a, .int .i64 t.b, .string t.s, .slice A js.length c] := by rw [hw6]; exact (((Blk.new w3 _ _).alloc _).alloc _).alloc _
  have hXs : Blk w6 (w3.heap.size + 1) 9 #[.string ⟨#[]⟩] := by rw [hw6]; exact ((blk_new2F w3 _ _ _).alloc _).alloc _
  have hXb : Blk w6 (w3.heap.size + 1 + 1) 4 #[.bool false] := by
   rw [hw6]
   have := Blk.new ((w3.alloc (.cells #[.int .i64 t.k, .int .i64 t.a, .int .i64 t.b, .string t.s, .slice A js.length c] 70)).alloc (.cells #[.string ⟨#[]⟩] 9)) 4 #[.bool false]
   rw [World.size_alloc, World.size_alloc] at this
   exact this.alloc _
  have hXq : Blk w6 (w3.heap.size + 1 + 1 + 1) 146 #[.func (.func 102) #[] #[.pointer (some ⟨w3.heap.size, 0, none⟩)], .int .i64 8, .func (.func 103) #[] #[.pointer (some ⟨w3.heap.size, 0, none⟩), .pointer (some ⟨w.heap.size + 1, 0, none⟩), .pointer (some ⟨w.heap.size + 1 + 1, 0, none⟩)], .int .i64 8, .func (.func 104) #[] #[.pointer (some ⟨w.heap.size, 0, none⟩), .pointer (some ⟨w3.heap.size, 0, none⟩), .pointer (some ⟨w3.heap.size + 1, 0, none⟩), .pointer (some ⟨w3.heap.size + 1 + 1, 0, none⟩)], .int .i64 3] := by
   rw [hw6]
   have := Blk.new (((w3.alloc (.cells #[.int .i64 t.k, .int .i64 t.a, .int .i64 t.b, .string t.s, .slice A js.length c] 70)).alloc (.cells #[.string ⟨#[]⟩] 9)).alloc (.cells #[.bool false] 4)) 146 #[.func (.func 102) #[] #[.pointer (some ⟨w3.heap.size, 0, none⟩)], .int .i64 8, .func (.func 103) #[] #[.pointer (some ⟨w3.heap.size, 0, none⟩), .pointer (some ⟨w.heap.size + 1, 0, none⟩), .pointer (some ⟨w.heap.size + 1 + 1, 0, none⟩)], .int .i64 8, .func (.func 104) #[] #[.pointer (some ⟨w.heap.size, 0, none⟩), .pointer (some ⟨w3.heap.size, 0, none⟩), .pointer (some ⟨w3.heap.size + 1, 0, none⟩), .pointer (some ⟨w3.heap.size + 1 + 1, 0, none⟩)], .int .i64 3]
   rw [World.size_alloc, World.size_alloc, World.size_alloc] at this
   exact this
  have hb26 := hb3.trans (hb36.mono hb3.size)
  have hP6 := HP2.out.below hb26
  have hG6 := HG2.out.trans (Grown.of_below hb26)
  have hsL2 := HP2.out.ar.sL
  have hs3 := hb3.size
  have c2 := cellB hb26 HZ.out.1
  have c3 := cellB hb26 HZ.out.2.1
  have c4 := cellB hb26 HZ.out.2.2
  have n0 := hXn.cell 0
  have n2c := hXn.cell 2
  have n4 := hXn.cell 4
  simp only [List.getElem?_toArray, List.getElem?_cons_zero, List.getElem?_cons_succ] at n0 n2c n4
  have hj9 : t.k = 9 → js.length = 2 := fun h9 => by rw [hja.len]; exact (len_9 ht2 h9).1
  have hargs : t.k = 9 → ∃ Ab j0 j1, A = some ⟨Ab, 0, none⟩ ∧ w2.heap.size ≤ Ab ∧ Ab < w3.heap.size ∧ w6.cell? ⟨Ab, 0, none⟩ = some (.int .i64 j0) ∧ w6.cell? ⟨Ab, 1, none⟩ = some (.int .i64 j1) ∧ Idn T2 t.l[0]? j0 ∧ Idn T2 t.l[1]? j1 := fun h9 => by
   have hl := hj9 h9
   obtain ⟨Ab, hA, hge, hlt, hcl⟩ := own_two_cells hown (by omega)
   obtain ⟨x0, e0, f0⟩ := hja.at_ (p := 0) (by omega)
   obtain ⟨x1, e1, f1⟩ := hja.at_ (p := 1) (by omega)
   refine ⟨Ab, (js[0] : Nat), (js[1] : Nat), hA, hge, hlt, ?_, ?_, ?_, ?_⟩
   ·exact cellB hb36 (hcl 0 _ (by rw [List.getElem?_map, List.getElem?_map, List.getElem?_eq_getElem (by omega)]; rfl))
   ·exact cellB hb36 (hcl 1 _ (by rw [List.getElem?_map, List.getElem?_map, List.getElem?_eq_getElem (by omega)]; rfl))
   ·rw [e0]; exact ⟨by unfold arg; rw [if_pos (by omega), Int.toNat_natCast]; exact f0, fun h8 => by cases h8⟩
   ·rw [e1]; exact ⟨by unfold arg; rw [if_pos (by omega), Int.toNat_natCast]; exact f1, fun h8 => by cases h8⟩
  have HF := hide (show Calls Tryz.prog 96 #[.slice (some ⟨w3.heap.size + 1 + 1 + 1, 0, none⟩) 3 3] w6 (fun e w' => ∃ x, e = .returned (.int .i64 x) ∧ OpQ w0 B g T S wb (w3.heap.size + 1) (opT key n t) x w') from by
   have hq : ∀ x W', Below w6.heap.size w6 W' → x ≠ 0 → opT key n t = ([], x) → OpQ w0 B g T S wb (w3.heap.size + 1) (opT key n t) x W' := fun x W' hW hx he => by
    rw [he]
    exact ⟨rfl, ⟨T2, S2, Hpl.out.1, by have := Hpl.out.2; omega, hP6.below hW, hG6.trans (Grown.of_below hW)⟩, fun h9 => absurd h9 hx, fun _ => rfl⟩
   by_cases h9 : t.k = 9
   ·obtain ⟨Ab, j0, j1, rfl, hge, hlt, a0, a1, i0, i1⟩ := hargs h9
    have hb1 : ((t.k : Int) != 9) = false := by rw [h9]; rfl
    have hbn := (len_9 ht2 h9).2
    have hl2 := hj9 h9
    refine ofirst_any (x1 := 8) (x2 := 8) (x3 := 3) (b1 := false) (b2 := ((j0 != m) || ((t.b : Int) != (n : Int)))) hXq (fun W hW => (ok1_any (cellB hW n0) hb1).mono fun e w' h8 => ⟨h8.1, by rw [← h8.2]; exact Below.refl _ _⟩) (fun _ W hW => ok2_any (cellB hW n4) (by omega) (cellB hW a0) (cellB hW n2c) (cellB hW c3) (cellB hW c4) hn rfl) (fun _ hb2 W hW => ?_) (fun h8 => by cases h8) (fun _ hb2 W' hW => hq 8 W' hW (by decide) (opT_x h9 ?_))
    ·have hjm : j0 = m := by
      have : (j0 != m) = false := by cases hz : (j0 != m) <;> simp_all
      simpa using this
     have hbm : t.b = n := by
      have : ((t.b : Int) != (n : Int)) = false := by cases hz : ((t.b : Int) != (n : Int)) <;> simp_all
      simp at this
      omega
     have hkey : t.l[0]? = key := (i0.eq_iff hP6.ar.ok Hk2.out).1 hjm
     have hsW := hW.size
     refine (ok3_any (bx := w3.heap.size) (A := Ab) (p := ⟨w.heap.size, 0, none⟩) (m1 := j1) (x1 := t.l[1]?) HP2.out (hb26.trans (hW.mono hb26.size)) (cellB hW c2) (cellB hW n4) (by omega) (cellB hW a1) i1 (hXs.below hW hXs.lt) (hXb.below hW hXb.lt) (by omega) (by omega) (by show w.heap.size < _; omega) (by omega) (by omega) (by omega) (fun h8 => by have := hsL2 _ h8; omega) (fun h8 => by have := hsL2 _ h8; omega) Hno2.out.1 (by have := Hpl.out.2; omega)).mono fun e w' hQ => ?_
     obtain ⟨T', S', b, he, hbb, hp', hl', hP', hG', hnb, hcb, hlb, hkp⟩ := hQ
     refine ⟨b, he, fun j h1 h2 => hkp j h2 (fun h8 => by have := hsL2 _ h8; omega) (by omega) (by omega), fun W' hW' => ?_⟩
     have har : ∃ T' S', T <+: T' ∧ T'.length ≤ T.length + 2300000 ∧ Pay w0 B g T' S' W' ∧ Grown S wb S' W' := ⟨T', S', Hpl.out.1.trans hp', by have := Hpl.out.2; omega, hP'.below hW', (HG2.out.trans hG').trans (Grown.of_below hW')⟩
     by_cases h4 : ((t.l[1]?).bind bytesT).getD [] = []
     ·rw [h4] at hbb
      have hbt : b = true := hbb
      subst hbt
      rw [if_pos rfl, opT_no h9 hkey hbm h4]
      exact ⟨rfl, har, (fun h8 => by cases h8), fun _ => rfl⟩
     ·have hbt : b = false := by
       rw [hbb, beq_eq_false_iff_ne]
       exact h4
      subst hbt
      rw [if_neg (by decide), opT_ok h9 hkey hbm h4]
      exact ⟨rfl, har, fun _ => (World.cell?_of_block (hW'.block _ hlb)).trans hcb, fun h8 => absurd rfl h8⟩
    ·rcases Bool.or_eq_true _ _ |>.mp hb2 with h7 | h7
     ·left
      intro h6
      have := (i0.eq_iff hP6.ar.ok Hk2.out).2 h6
      simp [this] at h7
     ·right
      intro h6
      rw [h6] at h7
      simp at h7
   ·have hb1 : ((t.k : Int) != 9) = true := by rw [bne_iff_ne]; omega
    exact ofirst_any (x1 := 8) (x2 := 8) (x3 := 3) (b1 := true) (b2 := false) hXq (fun W hW => (ok1_any (cellB hW n0) hb1).mono fun e w' h8 => ⟨h8.1, by rw [← h8.2]; exact Below.refl _ _⟩) (fun h8 => by cases h8) (fun h8 => by cases h8) (fun _ W' hW => hq 8 W' hW (by decide) (opT_k h9)) (fun h8 => by cases h8))
  clear hb36 hsz6 hXn hXs hXb hXq hb26 hP6 hG6 hsL2 c2 c3 c4 n0 n2c n4 hj9 hargs hja hown HZ HP2 HG2 Hno2 Hpl Hk2 hat2 ht2 hb3 HV
  generalize opT key n t = o at HF HE
  go_wp2_with fail
  rw [← hw6]
  clear hw6
  refine HF.out.mono ?_
  rintro e w7 ⟨x, rfl, hq⟩
  obtain ⟨o1, o2⟩ := o
  have hxo : x = o2 := hq.eq
  subst hxo
  have HQ := hide hq
  by_cases hx : x = 0
  ·subst hx
   have hc := hq.cell rfl
   have hx1 : ((0 : Int) == 0) = true := rfl
   clear hq HF
   go_wp2_with fail
   go_ret2
   rw [HE.out]
   obtain ⟨T', S', h1, h2, h3, h4⟩ := HQ.out.ar
   exact ⟨T', S', rfl, h1, h2, h3, h4⟩
  ·have hx1 : (x == 0) = false := by rw [beq_eq_false_iff_ne]; exact hx
   have ho := hq.no hx
   have Ho := hide ho
   clear hq HF hx ho
   go_wp2_with fail
   go_ret2
   rw [HE.out]
   obtain ⟨T', S', h1, h2, h3, h4⟩ := HQ.out.ar
   obtain rfl : o1 = [] := Ho.out
   exact ⟨T', S', rfl, h1, h2, h3, h4⟩
end
end Go.Proofs.YtmgfcjpifkoahaaGreatDoor
namespace Go.Proofs.YtmgfcjpifkoahaaGreatDoor
open Go.RowKit Go.ChangeShapes Go.WideShapes Go.Sort
def keyA : Tm := .mk 3 1 0 eB []
def payA : Tm := .mk 10 0 0 eB [.mk 1 0 0 ⟨#[21]⟩ []]
def sealA : Tm := .mk 9 0 0 eB [keyA, payA]
theorem tKey_1 : tKey 1 = some keyA := by kernel_rfl
theorem payA_21 : payT [21] = some payA := by
 rw [pay_21]
 kernel_rfl
theorem sealA_1 : tSeal 0 (some keyA) (payT [21]) = some sealA := by
 rw [payA_21]
 kernel_rfl
theorem sealA_fine : fine sealA := by
 have h1 : fineO (payT [21]) := fun t ht => (payT_yes (p := [21]) (by decide) ht).1
 have h2 : fineO (some keyA) := by rw [← tKey_1]; exact tKey_fine 1
 exact tSeal_fine (by decide) h2 h1 sealA sealA_1
theorem pkA : pkS (some keyA) 0 [21] = (unitB (enc sealA), 0) := pkS_ok (by decide) (by decide) sealA_1
theorem bodyA : bodyF (unitB (enc sealA)) = (enc sealA, 0) := by kernel_rfl
theorem stA : sealT (unitB (enc sealA)) = some sealA := by
 rw [sealT_ok (by rw [bodyA]), bodyA]
 exact ofT_op sealA_fine.1 (by decide)
theorem byA : bytesT payA = some [21] := (payT_yes (p := [21]) (by decide) payA_21).2
theorem opA : opS (some keyA) 0 (unitB (enc sealA)) = ([21], 0) := by
 have hb : (sealA.l[1]?).bind bytesT = some [21] := byA
 rw [opS_ok (by rw [bodyA]) stA, opT_ok (key := some keyA) (n := 0) (t := sealA) rfl rfl rfl (by rw [hb]; decide), hb]
 rfl
theorem opB : opS (some keyA) 1 (unitB (enc sealA)) = ([], 8) := by
 rw [opS_ok (by rw [bodyA]) stA, opT_x (key := some keyA) (n := 1) (t := sealA) rfl (.inr (by decide))]
theorem unitA_len : (unitB (enc sealA)).length ≤ 1000 := Nat.le_of_ble_eq_true (by kernel_rfl)
section
variable {w : World}
set_option maxHeartbeats 1000000 in
theorem awake12_any (hT : Tab w) (hM : MaxL w) : Calls Tryz.prog 20 #[] w (fun e w' => e = .returned (.bool true) ∧ Below w.heap.size w w') := by
 have HN := hide (new_any w)
 have HT := hide (And.intro hT hM)
 clear hT hM
 go_enter Tryz.func20, Tryz.ntmps20
 go_wp2_with fail
 refine HN.out.mono ?_
 rintro e w1 ⟨g, S, rfl, hA, hb1⟩
 have HP := hide (Pay.new HT.out.1 HT.out.2 (Below.refl _ _) hA hb1)
 have HK1 := hide (key_pay HP.out 1 (by simp) w1 (Below.refl _ _))
 rw [tKey_1] at HK1
 clear hA hb1 HN HT
 go_wp2_with fail
 refine HK1.out.mono ?_
 rintro e w2 ⟨T2, n2, S2, rfl, hid2, hp2, hl2, hP2, hG2⟩
 have hl2 : T2.length ≤ 1 := by simpa using hl2
 have HP2 := hide hP2
 have Hi2 := hide hid2
 have HPk := hide (spack_any hP2 hid2 0 (by decide) ⟨#[21]⟩ (by omega) w2 (Below.refl _ _))
 rw [show pkS (some keyA) 0 (⟨#[21]⟩ : ByteArray).data.toList = (unitB (enc sealA), 0) from pkA] at HPk
 have hul := unitA_len
 have HO := hide (And.intro opA opB)
 clear hid2 hp2 hP2 hG2 HK1
 generalize unitB (enc sealA) = ub at HPk HO hul
 go_wp2_with fail
 refine HPk.out.mono ?_
 rintro e w3 ⟨T3, S3, rfl, hp3, hl3, hP3, hG3⟩
 have Hi3 := hide (Hi2.out.pre hp3)
 have HP3 := hide hP3
 have HK2 := hide (key_pay hP3 1 (by omega) w3 (Below.refl _ _))
 rw [tKey_1] at HK2
 simp only
 clear hp3 hP3 hG3 HPk HP2 Hi2
 go_wp2_with fail
 refine HK2.out.mono ?_
 rintro e w4 ⟨T4, n4, S4, rfl, hid4, hp4, hl4, hP4, hG4⟩
 have HP4 := hide hP4
 have HO1 := hide (sopen_any hP4 hid4 0 (by decide) (bs ub) (by show ub.length ≤ _; omega) (by omega) w4 (Below.refl _ _))
 rw [show opS (some keyA) 0 (bs ub).data.toList = ([21], 0) from HO.out.1] at HO1
 clear hid4 hp4 hP4 hG4 HK2 HP3 Hi3
 go_wp2_with fail
 refine HO1.out.mono ?_
 rintro e w5 ⟨T5, S5, rfl, hp5, hl5, hP5, hG5⟩
 have HP5 := hide hP5
 have HK3 := hide (key_pay hP5 1 (by omega) w5 (Below.refl _ _))
 rw [tKey_1] at HK3
 simp only
 clear hp5 hP5 hG5 HO1 HP4
 go_wp2_with fail
 refine HK3.out.mono ?_
 rintro e w6 ⟨T6, n6, S6, rfl, hid6, hp6, hl6, hP6, hG6⟩
 have HO2 := hide (sopen_any hP6 hid6 1 (by decide) (bs ub) (by show ub.length ≤ _; omega) (by omega) w6 (Below.refl _ _))
 rw [show opS (some keyA) 1 (bs ub).data.toList = ([], 8) from HO.out.2] at HO2
 clear hid6 hp6 hP6 hG6 HK3 HP5
 go_wp2_with fail
 refine HO2.out.mono ?_
 rintro e w7 ⟨T7, S7, rfl, hp7, hl7, hP7, hG7⟩
 have hbf := hP7.bel
 simp only
 clear hp7 hP7 hG7 HO2
 have hxx : ((bs [21]).toList == [21]) = true := by rw [bs_toList]; rfl
 go_wp2_with fail
 go_ret
 exact ⟨by simp [bs_toList], hbf⟩
set_option maxHeartbeats 1000000 in
theorem sealTerms_any (hT : Tab w) (hM : MaxL w) (u : ByteArray) (hu : u.size ≤ maxLen) (n : Nat) (hn : n < 4294967296) : Calls Tryz.prog 6 #[.string u, .int .u32 n] w (fun e w' => e = .returned (.bool true) ∧ Below w.heap.size w w') := by
 by_cases h600 : 600 < u.size
 ·have h2' : (600 : Int) < u.size := by omega
  have HA := hide (awake12_any hT hM)
  clear hT hM hu
  go_enter Tryz.func6, Tryz.ntmps6
  go_wp2_with fail
  refine HA.out.mono ?_
  rintro e w1 ⟨rfl, hb1⟩
  go_wp2_with fail
  go_ret
  exact ⟨rfl, hb1⟩
 ·have h2' : ¬ (600 : Int) < u.size := by omega
  have HN := hide (new_any w)
  have HT := hide (And.intro hT hM)
  have HA := hide (fun (W : World) (hb : Below w.heap.size w W) => awake12_any (hT.below hb) (hM.below hb))
  have HR := hide (fun (W : World) => rsterm_any (w := W) u (by omega))
  have HNx := hide (fun (W : World) => next_any n hn W)
  have HNy := hide (fun (W : World) => next_any 4294967295 (by decide) W)
  have hu9 : u.size ≤ 100000 := by omega
  have hwr : IntKind.u32.wrap ((n : Int) + 1) = ((n + 1) % 4294967296 : Nat) := by rw [IntKind.wrap_u32]; omega
  obtain ⟨q, hq⟩ : ∃ q : Int, q = (((n + 1) % 4294967296 : Nat) : Int) := ⟨_, rfl⟩
  rw [← hq] at HNx hwr
  have HNz := hide (show ∀ W : World, Calls Tryz.prog 23 #[.int .u32 4294967295] W (fun e w' => e = .returned (.int .u32 0) ∧ W = w') from HNy.out)
  clear hT hM hu h600 hq HNy
  go_enter Tryz.func6, Tryz.ntmps6
  go_wp2_with fail
  refine HN.out.mono ?_
  rintro e w1 ⟨g, S, rfl, hA, hb1⟩
  have HP := hide (Pay.new HT.out.1 HT.out.2 (Below.refl _ _) hA hb1)
  have H1 := hide (sterm_any HP.out hu9 (by simp) w1 (Below.refl _ _))
  clear hA hb1 HN HT
  go_wp2_with fail
  refine H1.out.mono ?_
  rintro e w2 ⟨T2, n2, S2, rfl, hid2, hp2, hl2, hP2, hG2⟩
  have HP2 := hide hP2
  have HE := hide (fun (W : World) (hb : Below w2.heap.size w2 W) => encode_any (hP2.ar.below hb) n2)
  rw [hid2.1] at HE
  clear hid2 hp2 hP2 hG2 H1 HP
  generalize (bodyF u.data.toList).2 = x at HR ⊢
  generalize txt (sealT u.data.toList) = z at HR HE
  have hzz : ((bs z).toList == (bs z).toList) = true := by simp
  have hxx : (x == x) = true := by simp
  have hqq : (q == q) = true := by simp
  have hbw := HP2.out.bel
  go_wp2_with fail
  refine (HR.out _).mono ?_
  rintro e w3 ⟨rfl, hb3⟩
  have hbw3 := hbw.trans (hb3.mono hbw.size)
  go_wp2_with fail
  refine (HA.out _ hbw3).mono ?_
  rintro e w4 ⟨rfl, hb4⟩
  go_wp2_with fail
  refine (HE.out _ (hb3.trans (hb4.mono hb3.size))).mono ?_
  rintro e w5 ⟨rfl, hb5⟩
  go_wp2_with (first
   | (go_at_call 23; (with_reducible refine (HNx.out _).mono ?_); rintro e w6 ⟨rfl, rfl⟩)
   | (go_at_call 23; refine (HNz.out _).mono ?_; rintro e w6 ⟨rfl, rfl⟩)
   | fail)
  go_ret
  exact ⟨by simp, hbw3.trans ((hb4.trans (hb5.mono hb4.size)).mono hbw3.size)⟩
end
end Go.Proofs.YtmgfcjpifkoahaaGreatDoor
