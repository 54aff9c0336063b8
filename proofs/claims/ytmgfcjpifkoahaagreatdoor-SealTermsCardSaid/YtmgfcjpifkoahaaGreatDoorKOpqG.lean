/-
  Several of my texts in one: RdrH, RdrG, Two, Opq, Enc02.
-/
import Derived.Test.YtmgfcjpifkoahaaGreatDoorKRdrF
import Derived.Test.YtmgfcjpifkoahaaGreatDoorKFrG
set_option linter.unusedVariables false
set_option linter.unusedSimpArgs false
namespace Go.Proofs.YtmgfcjpifkoahaaGreatDoor
open Go.RowKit Go.ChangeShapes Go.WideShapes Go.Sort
theorem w64_id {x : Int} (h1 : -9223372036854775808 ≤ x) (h2 : x < 9223372036854775808) : wrap64 x = x := by
 unfold wrap64
 omega
theorem w64_q {q : Nat} (h : q < 256) : wrap64 (q : Int) = q := w64_id (by omega) (by omega)
theorem w64_k {q : Nat} (h : q < 256) : wrap64 ((q : Int) - 240) = (q : Int) - 240 := w64_id (by omega) (by omega)
section
variable {B b g p p0 N : Nat} {s : ByteArray} {T : List Tm} {S : Nat → Prop} {w w0 w1 w2 : World} {c : UInt8} {s1 : List UInt8}
set_option maxHeartbeats 2000000 in
set_option maxRecDepth 100000 in
theorem term_other (IH : TermIH B b g s N) (h : Rd B b g s p T S w) (hN : s.size - p < N + 1) (hd : s.data.toList.drop p = c :: s.data.toList.drop (p + 1)) {q : Nat} (hq : q = c.toNat) (k241 : ¬ q = 241) (k242 : ¬ q = 242) (k243 : ¬ q = 243) (k244 : ¬ q = 244) (k245 : ¬ q = 245) (k246 : ¬ q = 246) (k247 : ¬ q = 247) (k248 : ¬ q = 248) (k249 : ¬ q = 249) (k250 : ¬ q = 250) :
  Calls Tryz.prog 140 #[.pointer (some ⟨b, 0, none⟩)] w (GotT B b g s p T S w) := by
 have HB := hide (fun (W : World) (hb : Below w.heap.size w W) => byte_yes (h.below hb) hd)
 have HIH := hide IH
 have hsr := h.sr_lt
 have hK := h.few
 have hxn : ¬ SR b S w.heap.size := fun h9 => by have := hsr _ h9; omega
 clear h IH hsr
 have hcl := c.toNat_lt
 rw [← hq] at HB
 go_enter Tryz.func140, Tryz.ntmps140
 go_wp2_with fail
 have hx0 := Blk.new w 179 #[.pointer (some ⟨b, 0, none⟩)]
 have hb0 := bel_new (w := w) (.cells #[.pointer (some ⟨b, 0, none⟩)] 179)
 refine (HB.out _ hb0).mono ?_
 rintro e w1 ⟨rfl, hps, hR, hG⟩
 have hx1 := hG.outs.blk hx0 hxn
 have hG0 := (Grown.of_below (S := SR b S) hb0).trans hG
 have hxc : w1.cell? ⟨w.heap.size, 0, none⟩ = some (.pointer (some ⟨b, 0, none⟩)) := hx1.cell 0
 obtain ⟨bx, hbx⟩ : ∃ bx, bx = w.heap.size := ⟨_, rfl⟩
 rw [← hbx] at hx1 hxc hxn ⊢
 clear hx0 hb0 hG HB hbx
 have Hd := hide hd
 have hsz := hR.hs
 have hlen := hR.len
 clear hd
 have f4 : ((q : Int) - 240 == 4) = false := by simp only [beq_eq_false_iff_ne, ne_eq]; omega
 have f5 : ((q : Int) - 240 == 5) = false := by simp only [beq_eq_false_iff_ne, ne_eq]; omega
 have f6 : ((q : Int) - 240 == 6) = false := by simp only [beq_eq_false_iff_ne, ne_eq]; omega
 have f7 : ((q : Int) - 240 == 7) = false := by simp only [beq_eq_false_iff_ne, ne_eq]; omega
 have f8 : ((q : Int) - 240 == 8) = false := by simp only [beq_eq_false_iff_ne, ne_eq]; omega
 have f9 : ((q : Int) - 240 == 9) = false := by simp only [beq_eq_false_iff_ne, ne_eq]; omega
 have f10 : ((q : Int) - 240 == 10) = false := by simp only [beq_eq_false_iff_ne, ne_eq]; omega
 have HW := hide (leaf_other hR ((q : Int) - 240) (by omega) (by omega) (by omega) (by rw [Hd.out]; exact noT_kind (by omega)))
 have h256 : q < 256 := by rw [hq]; exact hcl
 have wq : wrap64 (q : Int) = q := w64_q h256
 have wr : wrap64 ((q : Int) - 240) = (q : Int) - 240 := w64_k h256
 clear hx1 hq hcl
 go_upto_region 5 with fail
 go_wp2_with fail
 refine HW.out.mono ?_
 intro e w2 hg
 have hF := hide (hg.term hG0 hps)
 obtain ⟨T2, m, S2, p2, o2, rfl, _⟩ := hg
 go_wp2_with fail
 go_ret
 exact hF.out
theorem term_step (IH : TermIH B b g s N) (h : Rd B b g s p T S w) (hN : s.size - p < N + 1) :
  Calls Tryz.prog 140 #[.pointer (some ⟨b, 0, none⟩)] w (GotT B b g s p T S w) := by
 by_cases hlt : p < s.size
 ·have hd := drop_cons (s := s.data.toList) (p := p) hlt
  generalize s.data.toList[p]'hlt = c at hd
  by_cases k241 : c.toNat = 241
  ·exact term_241 IH h hN hd k241
  by_cases k242 : c.toNat = 242
  ·exact term_242 IH h hN hd k242
  by_cases k243 : c.toNat = 243
  ·exact term_243 IH h hN hd k243
  by_cases k244 : c.toNat = 244
  ·exact term_244 IH h hN hd k244
  by_cases k245 : c.toNat = 245
  ·exact term_245 IH h hN hd k245
  by_cases k246 : c.toNat = 246
  ·exact term_246 IH h hN hd k246
  by_cases k247 : c.toNat = 247
  ·exact term_247 IH h hN hd k247
  by_cases k248 : c.toNat = 248
  ·exact term_248 IH h hN hd k248
  by_cases k249 : c.toNat = 249
  ·exact term_249 IH h hN hd k249
  by_cases k250 : c.toNat = 250
  ·exact term_250 IH h hN hd k250
  exact term_other IH h hN hd rfl k241 k242 k243 k244 k245 k246 k247 k248 k249 k250
 ·exact term_end h (by have := h.hp; omega)
theorem term_any (b g B : Nat) (s : ByteArray) : ∀ N, TermIH B b g s N := by
 intro N
 induction N with
 | zero => exact fun p T S w h => absurd h (by omega)
 | succ N ih => exact fun p T S w hN h => term_step ih h hN
end
end Go.Proofs.YtmgfcjpifkoahaaGreatDoor
namespace Go.Proofs.YtmgfcjpifkoahaaGreatDoor
open Go.RowKit Go.ChangeShapes Go.WideShapes Go.Sort
def DecP (B : Nat) (w : World) (g : Nat) (s : ByteArray) (T : List Tm) (S : Nat → Prop) (e : Ending) (w' : World) : Prop :=
 ∃ T' S' n k o, e = .returned (.tuple #[.int .i64 n, .int .i64 k]) ∧ Idn T' o n ∧ ((∃ t, o = some t ∧ good t ∧ s.data.toList = enc t ∧ k = 0) ∨ (o = none ∧ k = 3 ∧ ∀ t, good t → s.data.toList ≠ enc t)) ∧ Ar B w' g T' S' ∧ Grown S w S' w' ∧ T <+: T' ∧ T'.length ≤ T.length + 2 * s.size
theorem readT_whole {s : ByteArray} {o : Option Tm} {p' : Nat} (h : ReadT s 0 o p') (hp : p' ≤ s.size) : (∃ t, o = some t ∧ p' = s.size ∧ good t ∧ s.data.toList = enc t) ∨ ((o = none ∨ p' ≠ s.size) ∧ ∀ t, good t → s.data.toList ≠ enc t) := by
 rcases h with ⟨rfl, h⟩ | ⟨t, rfl, h1, h2⟩
 ·exact .inr ⟨.inl rfl, fun t ht e => h t [] ht (by rw [List.drop_zero, e, List.append_nil])⟩
 ·rw [List.drop_zero] at h2
  by_cases hs : p' = s.size
  ·refine .inl ⟨t, rfl, hs, h1, ?_⟩
   rw [h2, List.drop_of_length_le (by rw [size_len]; omega), List.append_nil]
  ·refine .inr ⟨.inr hs, fun u hu e => ?_⟩
   have h3 : enc t ++ s.data.toList.drop p' = enc u ++ [] := by rw [← h2, e, List.append_nil]
   have h4 := congrArg List.length (enc_inj t u _ _ h1 hu h3).2
   rw [List.length_drop, size_len] at h4
   simp at h4
   omega
section
variable {B g : Nat} {s : ByteArray} {T : List Tm} {S : Nat → Prop} {w : World}
set_option maxHeartbeats 1000000 in
set_option maxRecDepth 100000 in
theorem decode_any (h : Use B w g T S) (hs : s.size ≤ 131072) (hT : T.length ≤ 800000000) : Calls Tryz.prog 107 #[.pointer (some ⟨g, 0, none⟩), .string s] w (DecP B w g s T S) := by
 have hR : Rd B w.heap.size g s 0 T S (w.alloc (.cells #[.pointer (some ⟨g, 0, none⟩), .string s, .int .i64 0] 181)) :=
  ⟨h.below (bel_new _), Blk.new _ _ _, fun h9 => by have := h.ar.sL _ h9; omega, h.base, Nat.zero_le _, hs, by omega⟩
 have HT := hide (term_any w.heap.size g B s (s.size + 1) 0 T S _ (by omega) hR)
 have hS := h.ar.sL
 have hle : ¬ (131072 : Int) < s.size := by omega
 clear h hR
 go_enter Tryz.func107, Tryz.ntmps107
 go_wp2_with fail
 refine HT.out.mono ?_
 rintro e w1 ⟨T', n, S', p', o, rfl, hid, hrd, hR, hG, hpre, hl, hle⟩
 have hw := readT_whole hrd hR.hp
 have hp := hR.hp
 have hc2 : w1.cell? ⟨w.heap.size, 2, none⟩ = some (.int .i64 p') := Blk.cell hR.bk 2
 have hG2 : Grown S w S' w1 := by
  have h2 := (Grown.of_below (S := SR w.heap.size S) (bel_new (w := w) (.cells #[.pointer (some ⟨g, 0, none⟩), .string s, .int .i64 0] 181))).trans hG
  have hnb := hR.nb
  refine ⟨h2.os, h2.tape, h2.output, h2.size, fun i hi hn => h2.block i hi (fun h3 => ?_), fun i hi => ?_, fun i hi => ?_⟩
  ·rcases h3 with h3 | h3
   ·exact hn h3
   ·omega
  ·rcases h2.sub i (.inl hi) with h3 | h3
   ·exact h3
   ·have := hS i hi; omega
  ·rcases h2.new i (.inl hi) with h3 | h3
   ·rcases h3 with h3 | h3
    ·exact .inl h3
    ·exact absurd (h3 ▸ hi) hnb
   ·exact .inr h3
 have hA := hR.use.ar
 have HA := hide hA
 clear hR hG HT hA
 rcases hw with ⟨t, rfl, rfl, ht, he⟩ | ⟨hor, hno⟩
 ·have hn1 : ¬ n = -1 := fun h9 => by have := hid.none_iff.1 h9; cases this
  go_wp2_with fail
  go_ret2
  exact ⟨T', S', n, 0, some t, rfl, hid, .inl ⟨t, rfl, ht, he, rfl⟩, HA.out, hG2, hpre, by omega⟩
 ·have hne : n = -1 ∨ ¬ n = -1 ∧ ¬ (p' : Int) = s.size := by
   by_cases h9 : n = -1
   ·exact .inl h9
   ·refine .inr ⟨h9, fun h10 => ?_⟩
    rcases hor with rfl | h11
    ·exact h9 (hid.2 rfl)
    ·omega
  rcases hne with rfl | ⟨hn1, hne⟩
  ·go_wp2_with fail
   go_ret2
   exact ⟨T', S', -1, 3, none, rfl, idn_none _, .inr ⟨rfl, rfl, hno⟩, HA.out, hG2, hpre, by omega⟩
  ·go_wp2_with fail
   go_ret2
   exact ⟨T', S', -1, 3, none, rfl, idn_none _, .inr ⟨rfl, rfl, hno⟩, HA.out, hG2, hpre, by omega⟩
end
end Go.Proofs.YtmgfcjpifkoahaaGreatDoor
namespace Go.Proofs.YtmgfcjpifkoahaaGreatDoor
open Go.RowKit Go.ChangeShapes Go.WideShapes Go.Sort
section
variable {B g mb : Nat} {w w' : World} {T : List Tm} {S R : Nat → Prop} {nv sv : Value} {rows : List (List Value)} {D : DataW Unit}
theorem Ar.apart (h : Ar B w g T S) (ho : Outs R w w') (hd : ∀ i, S i → ¬ R i) : Ar B w' g T S := by
 obtain ⟨nv, sv, mb, rows, D, h⟩ := h
 refine ⟨nv, sv, mb, rows, D, h.ok, ho.blk h.blk (hd _ h.sg), ho.own h.nodes (fun i hi => hd i (h.sn i hi)), h.nrows, fun i t us hi hu => ?_, ho.own h.sizes (fun i hi => hd i (h.ss i hi)), ?_, h.idx, h.sg, h.sm, h.sn, h.ss, h.sB, fun i hi => Nat.lt_of_lt_of_le (h.sL i hi) ho.size⟩
 ·obtain ⟨av, js, e, ha, hown, hs⟩ := h.node i t us hi hu
  exact ⟨av, js, e, ha, ho.own hown (fun i hi => hd i (hs i hi)), hs⟩
 ·obtain ⟨es, clock, hb, hr⟩ := h.map
  exact ⟨es, clock, (ho.block mb (h.sL mb h.sm) (hd mb h.sm)).trans hb, hr⟩
end
structure Duo (w : World) (Ba ga : Nat) (Ta : List Tm) (Sa : Nat → Prop) (Bb gb : Nat) (Tb : List Tm) (Sb : Nat → Prop) (W : World) : Prop where
 tab : Tab w
 bel : Below w.heap.size w W
 a1 : Ar Ba W ga Ta Sa
 a2 : Ar Bb W gb Tb Sb
 b1 : w.heap.size ≤ Ba
 b2 : w.heap.size ≤ Bb
 c1 : Ba ≤ W.heap.size
 c2 : Bb ≤ W.heap.size
 d : ∀ i, Sa i → ¬ Sb i
 f1 : Ta.length ≤ 1000000000
 f2 : Tb.length ≤ 1000000000
section
variable {Ba ga Bb gb : Nat} {w W W' : World} {Ta Ta' Tb Tb' : List Tm} {Sa Sa' Sb Sb' : Nat → Prop}
theorem Duo.below (h : Duo w Ba ga Ta Sa Bb gb Tb Sb W) (hb : Below W.heap.size W W') : Duo w Ba ga Ta Sa Bb gb Tb Sb W' :=
 ⟨h.tab, h.bel.trans (hb.mono h.bel.size), h.a1.below hb, h.a2.below hb, h.b1, h.b2, Nat.le_trans h.c1 hb.size, Nat.le_trans h.c2 hb.size, h.d, h.f1, h.f2⟩
def SU (Sa Sb : Nat → Prop) (i : Nat) : Prop := Sa i ∨ Sb i
end
section
variable {B g : Nat} {T : List Tm} {S : Nat → Prop} {w : World}
theorem use_new2 {w w0 w' : World} {g : Nat} {S : Nat → Prop} (hT : Tab w0) (hb0 : Below w0.heap.size w0 w) (h : Ar w.heap.size w' g [] S) (hb : Below w.heap.size w w') : Use w.heap.size w' g [] S :=
 ⟨h, ⟨w0, hT, hb0.size, hb0.trans (hb.mono hb0.size)⟩, hb.size, Nat.zero_le _⟩
end
end Go.Proofs.YtmgfcjpifkoahaaGreatDoor
namespace Go.Proofs.YtmgfcjpifkoahaaGreatDoor
open Go.RowKit Go.ChangeShapes Go.WideShapes Go.Sort
def IsT (l : List UInt8) : Prop := ∃ t, good t ∧ l = enc t
theorem head_at {s : ByteArray} {t : Tm} (ht : good t) (he : s.data.toList = enc t) : 0 < s.size ∧ ∀ h : 0 < s.size, s[0].toNat = 240 + t.k := by
 obtain ⟨r, hr⟩ := enc_head t ht
 have hk := good_k ht
 have hl := size_len s
 rw [he, hr] at hl
 have hp : 0 < s.size := by
  rw [← hl]
  simp
 refine ⟨hp, fun h => ?_⟩
 have h0 : s.data.toList = s[0] :: s.data.toList.drop 1 := by
  have := drop_cons (s := s.data.toList) (p := 0) h
  rw [List.drop_zero] at this
  exact this
 rw [he, hr] at h0
 injection h0 with h1 _
 rw [← h1, UInt8.toNat_ofNat']
 omega
section
variable {w : World}
set_option maxHeartbeats 1000000 in
set_option maxRecDepth 100000 in
theorem opq_any (hT : Tab w) (x : ByteArray) (hs : x.size ≤ 131072) : Calls Tryz.prog 106 #[.string x] w (fun e w' => ∃ r, e = .returned (.bool r) ∧ (r = true ↔ ∃ t, good t ∧ x.data.toList = enc t ∧ t.k ≠ 1) ∧ Below w.heap.size w w') := by
 have HN := hide (new_any w)
 have HT := hide hT
 have Hx := hide (fun (W : World) (B g : Nat) (S : Nat → Prop) (hU : Use B W g [] S) => decode_any hU hs (by simp))
 clear hT
 by_cases h0 : x.size = 0
 ·have hxn : x.data.toList = [] := List.eq_nil_of_length_eq_zero (by rw [size_len]; exact h0)
  have hx1 : (x.toList == []) = true := by rw [ByteArray.toList_eq, hxn]; rfl
  have Hxn := hide hxn
  clear hxn h0
  go_enter Tryz.func106, Tryz.ntmps106
  go_wp2_with fail
  go_ret
  refine ⟨false, rfl, ?_, Below.refl _ _⟩
  simp only [Bool.false_eq_true, false_iff]
  rintro ⟨t, ht, he, _⟩
  exact enc_ne t (he.symm.trans Hxn.out)
 ·have hi : (0 : Int) < x.size := by omega
  have hx1 : (x.toList == []) = false := by
   rw [beq_eq_false_iff_ne, ByteArray.toList_eq]
   intro e
   have := size_len x
   rw [e] at this
   simp at this
   omega
  have Hh := hide (fun t ht he => (head_at (s := x) (t := t) ht he).2 (by omega))
  clear h0
  have hxp : 0 < x.size := by omega
  by_cases hq' : (((x[0]'hxp).toNat : Nat) : Int) = 241
  ·have hqb : ((((x[0]'hxp).toNat : Nat) : Int) == 241) = true := by rw [beq_iff_eq]; exact hq'
   have Hq := hide hq'
   clear hq'
   go_enter Tryz.func106, Tryz.ntmps106
   go_wp2_with fail
   have hq' := Hq.out
   go_ret
   refine ⟨false, rfl, ?_, Below.refl _ _⟩
   simp only [Bool.false_eq_true, false_iff]
   rintro ⟨t, ht, he, hk⟩
   have := Hh.out t ht he
   omega
  ·have hqb : ((((x[0]'hxp).toNat : Nat) : Int) == 241) = false := by rw [beq_eq_false_iff_ne]; exact hq'
   have Hq := hide hq'
   clear hq'
   go_enter Tryz.func106, Tryz.ntmps106
   go_wp2_with fail
   have hq' := Hq.out
   refine HN.out.mono ?_
   rintro e w1 ⟨g, S, rfl, hA, hb1⟩
   have hU : Use w.heap.size w1 g [] S := use_new2 HT.out (Below.refl _ _) hA hb1
   have hD := hide (Hx.out w1 w.heap.size g S hU)
   clear hU hA
   go_wp2_with fail
   refine hD.out.mono ?_
   rintro e w2 ⟨T', S', n, k, o, rfl, hid, ho, hA2, hG2, _, _⟩
   have hsB := hA2.sB
   have hb2 := hG2.below hb1.size (fun i hi => hsB i (hG2.sub i hi))
   rcases ho with ⟨t, rfl, ht, he, rfl⟩ | ⟨rfl, rfl, hno⟩
   ·go_wp2_with fail
    go_ret
    refine ⟨true, rfl, ?_, hb1.trans hb2⟩
    simp only [true_iff]
    refine ⟨t, ht, he, fun hk => ?_⟩
    have := Hh.out t ht he
    omega
   ·go_wp2_with fail
    go_ret
    refine ⟨false, rfl, ?_, hb1.trans hb2⟩
    simp only [Bool.false_eq_true, false_iff]
    rintro ⟨t, ht, he, _⟩
    exact hno t ht he
set_option maxHeartbeats 1000000 in
set_option maxRecDepth 100000 in
theorem right_any (s : ByteArray) (hs : s.size ≤ 131072) (w : World) : Calls Tryz.prog 141 #[.string s] w (fun e w' => ∃ r, e = .returned (.bool r) ∧ (r = true ↔ IsT s.data.toList) ∧ Below w.heap.size w w') := by
 have HP := hide (parse_any s hs s.size 0 w (by omega) (Nat.zero_le _))
 have hi : ¬ (131072 : Int) < s.size := by omega
 go_enter Tryz.func141, Tryz.ntmps141
 go_wp2_with fail
 refine HP.out.mono ?_
 rintro e w1 ⟨hb, ⟨hn, rfl⟩ | ⟨t, q, A, n, c, ht, hpq, hq, he, hT, rfl⟩⟩
 ·go_wp2_with fail
  go_ret
  refine ⟨false, rfl, ?_, hb.alloc hb.size _⟩
  simp only [Bool.false_eq_true, false_iff]
  rintro ⟨t, ht, he⟩
  exact hn t [] ht (by rw [List.drop_zero, he, List.append_nil])
 ·have hb2 := hb.alloc hb.size (.cells #[.int .i64 t.k, .int .i64 t.a, .int .i64 t.b, .string t.s, .slice A n c] 92)
  rw [List.drop_zero] at he
  by_cases hqs : q = s.size
  ·subst hqs
   have Hq := hide he
   clear he hT
   go_wp2_with fail
   go_ret
   refine ⟨true, by simp, ?_, hb2⟩
   simp only [true_iff]
   refine ⟨t, ht, ?_⟩
   have := Hq.out
   rw [List.drop_of_length_le (by rw [size_len]; omega), List.append_nil] at this
   exact this
  ·have hqi : ((q : Int) == s.size) = false := by simp; omega
   have Hq := hide he
   clear he hT
   go_wp2_with fail
   go_ret
   refine ⟨false, by simp [hqs], ?_, hb2⟩
   simp only [Bool.false_eq_true, false_iff]
   rintro ⟨u, hu, e⟩
   have h3 : enc t ++ s.data.toList.drop q = enc u ++ [] := by rw [← Hq.out, e, List.append_nil]
   have h4 := congrArg List.length (enc_inj t u _ _ ht hu h3).2
   rw [List.length_drop, size_len] at h4
   simp at h4
   omega
theorem rkind_of (s : ByteArray) {t : Tm} (ht : good t) (he : s.data.toList = enc t) (hl : s.size ≤ 131072) (w : World) : Calls Tryz.prog 36 #[.string s] w fun e w' => e = .returned (.int .i64 t.k) ∧ w = w' := by
 have hf : fine t := ⟨ht, by rw [← he, size_len]; exact hl⟩
 have h := rKind_any (fineO_some hf) w
 have e1 : tx (some t) = s := by
  show bs (enc t) = s
  rw [← he]
  rfl
 rw [e1] at h
 exact h
set_option maxHeartbeats 1000000 in
set_option maxRecDepth 100000 in
theorem ropq_any (s : ByteArray) (hs : s.size ≤ 131072) (w : World) : Calls Tryz.prog 109 #[.string s] w (fun e w' => ∃ r, e = .returned (.bool r) ∧ (r = true ↔ ∃ t, good t ∧ s.data.toList = enc t ∧ t.k ≠ 1) ∧ Below w.heap.size w w') := by
 have HR := hide (right_any s hs w)
 have HK := hide (fun t ht he W => rkind_of s (t := t) ht he hs W)
 go_enter Tryz.func109, Tryz.ntmps109
 go_wp2_with fail
 refine HR.out.mono ?_
 rintro e w1 ⟨r, rfl, hr, hb⟩
 have Hr := hide hr
 cases r with
 | false =>
  clear hr HK
  go_wp2_with fail
  go_ret
  refine ⟨false, rfl, ?_, hb⟩
  simp only [Bool.false_eq_true, false_iff]
  rintro ⟨t, ht, he, _⟩
  have := Hr.out.2 ⟨t, ht, he⟩
  cases this
 | true =>
  obtain ⟨t, ht, he⟩ := hr.1 rfl
  have HK2 := hide (HK.out t ht he w1)
  have He := hide he
  clear he HK hr
  go_wp2_with fail
  refine HK2.out.mono ?_
  rintro e w2 ⟨rfl, rfl⟩
  go_wp2_with fail
  go_ret
  refine ⟨((t.k : Int) != 1), rfl, ?_, hb⟩
  ·rw [bne_iff_ne, show (((t.k : Nat) : Int) ≠ 1 ↔ t.k ≠ 1) by omega]
   constructor
   ·exact fun hk => ⟨t, ht, He.out, hk⟩
   ·rintro ⟨u, hu, e, hk⟩
    obtain ⟨rfl, _⟩ := enc_inj t u [] [] ht hu (by rw [List.append_nil, List.append_nil, ← He.out, e])
    exact hk
end
end Go.Proofs.YtmgfcjpifkoahaaGreatDoor
namespace Go.Proofs.YtmgfcjpifkoahaaGreatDoor
open Go.RowKit Go.ChangeShapes Go.WideShapes Go.Sort
structure EnS (w : World) (B0 Ba ga : Nat) (Ta : List Tm) (Sa : Nat → Prop) (Bb gb : Nat) (Tb : List Tm) (Sb : Nat → Prop) (ms : List (Option Tm)) (v1 v2 : Value) (b7 : Nat) (W : World) : Prop where
 two : Duo w Ba ga Ta Sa Bb gb Tb Sb W
 mdo : MdO B0 W Ta ms v1 v2 (SU Sa Sb)
 blk : Blk W b7 37 #[v1, v2]
 nb : ¬ SU Sa Sb b7
section
variable {B0 Ba ga Bb gb b7 : Nat} {w W W' : World} {Ta Ta' Tb Tb' : List Tm} {Sa Sa' Sb Sb' : Nat → Prop} {ms : List (Option Tm)} {v1 v2 : Value}
theorem EnS.below (h : EnS w B0 Ba ga Ta Sa Bb gb Tb Sb ms v1 v2 b7 W) (hb : Below W.heap.size W W') : EnS w B0 Ba ga Ta Sa Bb gb Tb Sb ms v1 v2 b7 W' :=
 ⟨h.two.below hb, h.mdo.grown (Grown.of_below hb) (List.prefix_refl _), h.blk.below hb h.blk.lt, h.nb⟩
end
theorem enc_toList_ne (t : Tm) : ((bs (enc t)).toList == []) = false := by
 rw [bs_toList]
 simp [enc_ne]
end Go.Proofs.YtmgfcjpifkoahaaGreatDoor
