/-
 The law KexinitBuilds: the walk of the statement. Conditions: the library's handle and number are as they were laid.
-/
import Derived.Test.YtjaipdenahlheaaGreatDoorKxT
import Derived.Test.YtjaipdenahlheaaGreatDoorInG
set_option linter.unusedVariables false
set_option linter.unusedSimpArgs false
namespace Go.Proofs.YtjaipdenahlheaaGreatDoor
open Go.RowKit Go.ChangeShapes Go.WideShapes Go.Sort
theorem txs_ofL {w : World} {v : Value} (h : Shp.ok w (.sl [.s]) v) : ∃ ls : List (List UInt8), ∃ A c, v = .slice A ls.length c ∧ Txc w v ls ∧ ls.length ≤ maxLen := by
 obtain ⟨ls, h1, h2, _⟩ := txs_of h
 obtain ⟨_, A, c, e, _⟩ := id h1
 exact ⟨ls, A, c, e, h1, h2⟩
theorem open_iniT {w : World} {us : List Value} (h : Shp.oks w iniS us) : ∃ (ck : List UInt8) (a b c d e0 : Bool), ∃ A0 c0 A1 c1 A2 c2 A3 c3 A4 c4 A5 c5 A6 c6 A7 c7 A8 c8 A9 c9, ∃ kex m1 m2 m3 m4 m5 m6 m7 m8 m9 : List (List UInt8),
  us = [.string (bs ck), .slice A0 kex.length c0, .slice A1 m1.length c1, .slice A2 m2.length c2, .slice A3 m3.length c3, .slice A4 m4.length c4, .slice A5 m5.length c5, .slice A6 m6.length c6, .slice A7 m7.length c7, .slice A8 m8.length c8, .slice A9 m9.length c9, .bool a, .bool b, .bool c, .bool d, .bool e0] ∧ (∀ (i : Nat) v l, ([.slice A0 kex.length c0, .slice A1 m1.length c1, .slice A2 m2.length c2, .slice A3 m3.length c3, .slice A4 m4.length c4, .slice A5 m5.length c5, .slice A6 m6.length c6, .slice A7 m7.length c7, .slice A8 m8.length c8, .slice A9 m9.length c9] : List Value)[i]? = some v → ([kex, m1, m2, m3, m4, m5, m6, m7, m8, m9] : List (List (List UInt8)))[i]? = some l → Txc w v l ∧ l.length ≤ maxLen) ∧ ck.length ≤ maxLen := by
 unfold iniS at h
 obtain ⟨w0, us0, rfl, hc, g0⟩ := oks_cons h
 obtain ⟨v0, us1, rfl, k0, g1⟩ := oks_cons g0
 obtain ⟨v1, us2, rfl, k1, g2⟩ := oks_cons g1
 obtain ⟨v2, us3, rfl, k2, g3⟩ := oks_cons g2
 obtain ⟨v3, us4, rfl, k3, g4⟩ := oks_cons g3
 obtain ⟨v4, us5, rfl, k4, g5⟩ := oks_cons g4
 obtain ⟨v5, us6, rfl, k5, g6⟩ := oks_cons g5
 obtain ⟨v6, us7, rfl, k6, g7⟩ := oks_cons g6
 obtain ⟨v7, us8, rfl, k7, g8⟩ := oks_cons g7
 obtain ⟨v8, us9, rfl, k8, g9⟩ := oks_cons g8
 obtain ⟨v9, us10, rfl, k9, g10⟩ := oks_cons g9
 obtain ⟨w1, us11, rfl, kb0, g11⟩ := oks_cons g10
 obtain ⟨w2, us12, rfl, kb1, g12⟩ := oks_cons g11
 obtain ⟨w3, us13, rfl, kb2, g13⟩ := oks_cons g12
 obtain ⟨w4, us14, rfl, kb3, g14⟩ := oks_cons g13
 obtain ⟨w5, us15, rfl, kb4, g15⟩ := oks_cons g14
 have hz : us15 = [] := by have := oks_len g15; exact List.eq_nil_of_length_eq_zero this
 subst hz
 simp only [Shp.ok] at hc kb0 kb1 kb2 kb3 kb4
 obtain ⟨s, rfl, hcm⟩ := hc
 obtain ⟨a, rfl⟩ := kb0
 obtain ⟨b, rfl⟩ := kb1
 obtain ⟨c, rfl⟩ := kb2
 obtain ⟨d, rfl⟩ := kb3
 obtain ⟨e0, rfl⟩ := kb4
 obtain ⟨kex, A0, c0, rfl, t0, n0⟩ := txs_ofL k0
 obtain ⟨m1, A1, c1, rfl, t1, n1⟩ := txs_ofL k1
 obtain ⟨m2, A2, c2, rfl, t2, n2⟩ := txs_ofL k2
 obtain ⟨m3, A3, c3, rfl, t3, n3⟩ := txs_ofL k3
 obtain ⟨m4, A4, c4, rfl, t4, n4⟩ := txs_ofL k4
 obtain ⟨m5, A5, c5, rfl, t5, n5⟩ := txs_ofL k5
 obtain ⟨m6, A6, c6, rfl, t6, n6⟩ := txs_ofL k6
 obtain ⟨m7, A7, c7, rfl, t7, n7⟩ := txs_ofL k7
 obtain ⟨m8, A8, c8, rfl, t8, n8⟩ := txs_ofL k8
 obtain ⟨m9, A9, c9, rfl, t9, n9⟩ := txs_ofL k9
 refine ⟨s.data.toList, a, b, c, d, e0, A0, c0, A1, c1, A2, c2, A3, c3, A4, c4, A5, c5, A6, c6, A7, c7, A8, c8, A9, c9, kex, m1, m2, m3, m4, m5, m6, m7, m8, m9, rfl, fun i v l h1 h2 => ?_, hcm⟩
 match i, h1, h2 with
 | 0, h1, h2 => cases h1; cases h2; exact ⟨t0, n0⟩
 | 1, h1, h2 => cases h1; cases h2; exact ⟨t1, n1⟩
 | 2, h1, h2 => cases h1; cases h2; exact ⟨t2, n2⟩
 | 3, h1, h2 => cases h1; cases h2; exact ⟨t3, n3⟩
 | 4, h1, h2 => cases h1; cases h2; exact ⟨t4, n4⟩
 | 5, h1, h2 => cases h1; cases h2; exact ⟨t5, n5⟩
 | 6, h1, h2 => cases h1; cases h2; exact ⟨t6, n6⟩
 | 7, h1, h2 => cases h1; cases h2; exact ⟨t7, n7⟩
 | 8, h1, h2 => cases h1; cases h2; exact ⟨t8, n8⟩
 | 9, h1, h2 => cases h1; cases h2; exact ⟨t9, n9⟩
 | q + 10, h1, _ => simp at h1
theorem kexErr_ok {kex : List (List UInt8)} {l : List Fld} {ps : List (List UInt8)} {k : Nat} (h : kexErr kex (encS 20 l) = some (ps, k)) : PsOk ps := by
 unfold kexErr at h
 split at h
 ·cases h
  exact ⟨by simp, fun q hq => by simp only [List.mem_singleton] at hq; subst hq; decide⟩
 ·cases he : encErr 20 (encS 20 l) with
  | none => rw [he] at h; cases h
  | some x =>
   obtain ⟨qs, k2⟩ := x
   rw [he] at h
   cases h
   have h1 := encErr_ok he
   have h2 : qs.length ≤ 2 := by
    cases hR : encS 20 l with
    | ok s => rw [hR] at he; cases he
    | none => rw [hR] at he; cases he; simp
    | long => rw [hR] at he; cases he; simp
    | bad e i => rw [hR] at he; cases he; simp
   refine ⟨by simp only [List.length_cons]; omega, fun q hq => ?_⟩
   rcases List.mem_cons.1 hq with rfl | hq
   ·decide
   ·exact h1.2 q hq
theorem fewI_get {ck : List UInt8} {a b c d e0 : Bool} {kex m1 m2 m3 m4 m5 m6 m7 m8 m9 : List (List UInt8)} (h : fewI ⟨bs ck, [bss kex, bss m1, bss m2, bss m3, bss m4, bss m5, bss m6, bss m7], bss m8, bss m9, a, b, c, d, e0⟩ = true) :
  ck.length ≤ 100 ∧ ∀ l ∈ [kex, m1, m2, m3, m4, m5, m6, m7, m8, m9], l.length ≤ 20 ∧ ∀ y ∈ l, y.length ≤ 100 := by
 unfold fewI fewLs at h
 simp only [Bool.and_eq_true, decide_eq_true_eq, List.all_cons, List.all_nil, Bool.and_true] at h
 have key : ∀ l : List (List UInt8), fewL (bss l) = true → l.length ≤ 20 ∧ ∀ y ∈ l, y.length ≤ 100 := by
  intro l hl
  unfold fewL at hl
  simp only [Bool.and_eq_true, decide_eq_true_eq, List.all_eq_true, bss, List.length_map] at hl
  exact ⟨hl.1, fun y hy => hl.2 (bs y) (List.mem_map.2 ⟨y, hy, rfl⟩)⟩
 obtain ⟨⟨⟨h0, h1, h2, h3, h4, h5, h6, h7⟩, h8, h9, _⟩, hc⟩ := h
 refine ⟨hc, fun l hl => ?_⟩
 simp only [List.mem_cons, List.mem_nil_iff, or_false] at hl
 rcases hl with rfl | rfl | rfl | rfl | rfl | rfl | rfl | rfl | rfl | rfl
 all_goals (apply key; assumption)
theorem kexMsg_get {ck : List UInt8} {kex : List (List UInt8)} {more : List (List (List UInt8))} {a b c d e0 : Bool} (hc : ck.length ≤ 100) (h : ∀ l ∈ kex :: more, l.length ≤ 20 ∧ ∀ y ∈ l, y.length ≤ 100) :
  ∀ x ∈ kexMsg ⟨ck, kex, more, a, b, c, d, e0⟩, SzF x ∧ fitF x := by
 have hm4 : (marksOf a b c d).length ≤ 4 := by have := preM_len a b c d 4; rwa [preM_4] at this
 have hmk : ∀ y ∈ marksOf a b c d, y.length ≤ 100 := fun y hy => by
  rcases isMark_of.1 (marks_are y hy) with rfl | rfl | rfl | rfl <;> decide
 have hl : ∀ l ∈ (kex ++ marksOf a b c d) :: more, l.length ≤ 24 ∧ ∀ y ∈ l, y.length ≤ 100 := by
  intro l hl
  rcases List.mem_cons.1 hl with rfl | hl
  ·have h1 := h kex (by simp)
   refine ⟨by rw [List.length_append]; omega, fun y hy => ?_⟩
   rcases List.mem_append.1 hy with hy | hy
   ·exact h1.2 y hy
   ·exact hmk y hy
  ·have h1 := h l (List.mem_cons_of_mem _ hl)
   exact ⟨by omega, h1.2⟩
 intro x hx
 unfold kexMsg kexFs at hx
 rcases List.mem_cons.1 hx with rfl | hx
 ·exact ⟨⟨by show ck.length ≤ _; omega, by simp, fun y hy => by cases hy⟩, by show ck.length < _; omega, fun y hy => by cases hy⟩
 ·rcases List.mem_append.1 hx with hx | hx
  ·obtain ⟨q, hq, rfl⟩ := List.mem_map.1 hx
   have h1 := hl q hq
   exact ⟨⟨by simp, by show q.length ≤ _; omega, fun y hy => by have := h1.2 y hy; omega⟩, by show 0 < _; omega, fun y hy => by have := h1.2 y hy; omega⟩
  ·simp only [List.mem_cons, List.mem_nil_iff, or_false] at hx
   rcases hx with rfl | rfl
   ·exact ⟨⟨by simp, by simp, fun y hy => by cases hy⟩, by show 0 < _; omega, fun y hy => by cases hy⟩
   ·exact ⟨⟨by simp, by simp, fun y hy => by cases hy⟩, by show 0 < _; omega, fun y hy => by cases hy⟩
def AllM (w : World) (vs : List Value) (ls : List (List (List UInt8))) : Prop := vs.length = ls.length ∧ ∀ (i : Nat) v l, vs[i]? = some v → ls[i]? = some l → Txc w v l ∧ l.length ≤ maxLen
theorem AllM.below {w w' : World} {vs : List Value} {ls : List (List (List UInt8))} (h : AllM w vs ls) (hb : Below w.heap.size w w') : AllM w' vs ls :=
 ⟨h.1, fun i v l h1 h2 => ⟨(h.2 i v l h1 h2).1.below hb, (h.2 i v l h1 h2).2⟩⟩
theorem AllM.allS {w : World} {vs : List Value} {ls : List (List (List UInt8))} (h : AllM w vs ls) : AllS 0 w vs (ls.map bss) := by
 refine ⟨by rw [List.length_map]; exact h.1, fun i v s h1 h2 => ?_⟩
 rw [List.getElem?_map, Option.map_eq_some_iff] at h2
 obtain ⟨l, hl, rfl⟩ := h2
 have := h.2 i v l h1 hl
 unfold maxLen at this
 exact ⟨this.1.1, by rw [bss, List.length_map]; omega⟩
theorem AllM.take {w : World} {vs : List Value} {ls : List (List (List UInt8))} (h : AllM w vs ls) (n : Nat) : AllM w (vs.take n) (ls.take n) := by
 refine ⟨by rw [List.length_take, List.length_take, h.1], fun i v l h1 h2 => ?_⟩
 rw [List.getElem?_take] at h1 h2
 split at h1
 ·rw [if_pos (by assumption)] at h2
  exact h.2 i v l h1 h2
 ·cases h1
theorem AllC.allM {w : World} {vs : List Value} {ls : List (List (List UInt8))} (h : AllC w vs ls) : AllM w vs ls :=
 ⟨h.1, fun i v l h1 h2 => ⟨(h.2 i v l h1 h2).1, by have := (h.2 i v l h1 h2).2; unfold maxLen; omega⟩⟩
theorem AllM.small {w : World} {vs : List Value} {ls : List (List (List UInt8))} (h : AllM w vs ls) (h2 : ∀ l ∈ ls, l.length ≤ 1000000) : AllC w vs ls :=
 ⟨h.1, fun i v l h3 h4 => ⟨(h.2 i v l h3 h4).1, h2 l (List.mem_of_getElem? h4)⟩⟩
theorem same16_true {w : World} {ck : List UInt8} {a b c d e0 : Bool} {v0 v1 v2 v3 v4 v5 v6 v7 v8 v9 u0 u1 u2 u3 u4 u5 u6 u7 u8 u9 : Value} {kex m1 m2 m3 m4 m5 m6 m7 m8 m9 : List (List UInt8)} (h : AllM w [v0, v1, v2, v3, v4, v5, v6, v7, v8, v9] [kex, m1, m2, m3, m4, m5, m6, m7, m8, m9]) (h2 : AllM w [u0, u1, u2, u3, u4, u5, u6, u7, u8, u9] [kex, m1, m2, m3, m4, m5, m6, m7, m8, m9]) :
  Calls Tryz.prog 19 #[.agg #[.string (bs ck), v0, v1, v2, v3, v4, v5, v6, v7, v8, v9, .bool a, .bool b, .bool c, .bool d, .bool e0], .agg #[.string (bs ck), u0, u1, u2, u3, u4, u5, u6, u7, u8, u9, .bool a, .bool b, .bool c, .bool d, .bool e0]] w (fun e w' => e = .returned (.bool true) ∧ Below w.heap.size w w') := by
 have key := lsame16_any (c := bs ck) (d := bs ck) (a0 := a) (a1 := b) (a2 := c) (a3 := d) (a4 := e0) (b0 := a) (b1 := b) (b2 := c) (b3 := d) (b4 := e0) (h.take 8).allS (h2.take 8).allS (h.allS.2 8 _ _ rfl rfl).1 (h.allS.2 9 _ _ rfl rfl).1 (h2.allS.2 8 _ _ rfl rfl).1 (h2.allS.2 9 _ _ rfl rfl).1 (h.allS.2 8 _ _ rfl rfl).2 (h.allS.2 9 _ _ rfl rfl).2 (h2.allS.2 8 _ _ rfl rfl).2 (h2.allS.2 9 _ _ rfl rfl).2
 refine key.mono fun e w' h => ⟨?_, h.2⟩
 rw [h.1, decide_eq_true rfl]
section
variable {w : World}
set_option maxHeartbeats 8000000 in
set_option maxRecDepth 100000 in
theorem kexinitBuilds_any (hE : Hand w) (hM : MaxL w) (ck : List UInt8) (a b c d e0 : Bool) {A0 A1 A2 A3 A4 A5 A6 A7 A8 A9 : Option Addr} {c0 c1 c2 c3 c4 c5 c6 c7 c8 c9 : Nat} {kex m1 m2 m3 m4 m5 m6 m7 m8 m9 : List (List UInt8)}
  (hT : ∀ (i : Nat) v l, ([.slice A0 kex.length c0, .slice A1 m1.length c1, .slice A2 m2.length c2, .slice A3 m3.length c3, .slice A4 m4.length c4, .slice A5 m5.length c5, .slice A6 m6.length c6, .slice A7 m7.length c7, .slice A8 m8.length c8, .slice A9 m9.length c9] : List Value)[i]? = some v → ([kex, m1, m2, m3, m4, m5, m6, m7, m8, m9] : List (List (List UInt8)))[i]? = some l → Txc w v l ∧ l.length ≤ maxLen) (hck : ck.length ≤ maxLen) :
  Calls Tryz.prog 4 #[.agg #[.string (bs ck), .slice A0 kex.length c0, .slice A1 m1.length c1, .slice A2 m2.length c2, .slice A3 m3.length c3, .slice A4 m4.length c4, .slice A5 m5.length c5, .slice A6 m6.length c6, .slice A7 m7.length c7, .slice A8 m8.length c8, .slice A9 m9.length c9, .bool a, .bool b, .bool c, .bool d, .bool e0]] w (fun e w' => e = .returned (.bool true) ∧ Below w.heap.size w w') := by
 have hA : AllM w [.slice A0 kex.length c0, .slice A1 m1.length c1, .slice A2 m2.length c2, .slice A3 m3.length c3, .slice A4 m4.length c4, .slice A5 m5.length c5, .slice A6 m6.length c6, .slice A7 m7.length c7, .slice A8 m8.length c8, .slice A9 m9.length c9] [kex, m1, m2, m3, m4, m5, m6, m7, m8, m9] := ⟨rfl, hT⟩
 obtain ⟨W0, hW0⟩ : ∃ W0, W0 = w.alloc (.cells #[.string (bs ck), .slice A0 kex.length c0, .slice A1 m1.length c1, .slice A2 m2.length c2, .slice A3 m3.length c3, .slice A4 m4.length c4, .slice A5 m5.length c5, .slice A6 m6.length c6, .slice A7 m7.length c7, .slice A8 m8.length c8, .slice A9 m9.length c9, .bool a, .bool b, .bool c, .bool d, .bool e0] 45) := ⟨_, rfl⟩
 have hb0 : Below w.heap.size w W0 := by rw [hW0]; (repeat (first | exact Below.refl _ _ | refine below_drewN ?_ _ | refine Below.drew ?_ | refine Below.alloc ?_ (by first | omega | (simp; done) | (simp; omega)) _ | refine Below.setCell ?_ (by first | omega | (simp; done) | (simp; omega)) _ | refine bel_alloc ?_ _ | refine bel_trans ?_ (by assumption) | refine Below.trans ?_ (Below.mono (by assumption) (by first | omega | (simp; done) | (simp; omega)))))
 have hX0 : Blk W0 w.heap.size 45 #[.string (bs ck), .slice A0 kex.length c0, .slice A1 m1.length c1, .slice A2 m2.length c2, .slice A3 m3.length c3, .slice A4 m4.length c4, .slice A5 m5.length c5, .slice A6 m6.length c6, .slice A7 m7.length c7, .slice A8 m8.length c8, .slice A9 m9.length c9, .bool a, .bool b, .bool c, .bool d, .bool e0] := by rw [hW0]; exact Blk.new w _ _
 have hA0 := hA.below hb0
 have hIV : IniV W0 [.string (bs ck), .slice A0 kex.length c0, .slice A1 m1.length c1, .slice A2 m2.length c2, .slice A3 m3.length c3, .slice A4 m4.length c4, .slice A5 m5.length c5, .slice A6 m6.length c6, .slice A7 m7.length c7, .slice A8 m8.length c8, .slice A9 m9.length c9, .bool a, .bool b, .bool c, .bool d, .bool e0] ⟨bs ck, [bss kex, bss m1, bss m2, bss m3, bss m4, bss m5, bss m6, bss m7], bss m8, bss m9, a, b, c, d, e0⟩ :=
  ⟨⟨_, _, _, _, _, _, _, _, _, _, rfl, (hA0.take 8).allS, (hA0.allS.2 8 _ _ rfl rfl).1, (hA0.allS.2 9 _ _ rfl rfl).1⟩, hck, (hA0.allS.2 8 _ _ rfl rfl).2, (hA0.allS.2 9 _ _ rfl rfl).2⟩
 have HFw := hide (show Calls Tryz.prog 14 #[.agg #[.string (bs ck), .slice A0 kex.length c0, .slice A1 m1.length c1, .slice A2 m2.length c2, .slice A3 m3.length c3, .slice A4 m4.length c4, .slice A5 m5.length c5, .slice A6 m6.length c6, .slice A7 m7.length c7, .slice A8 m8.length c8, .slice A9 m9.length c9, .bool a, .bool b, .bool c, .bool d, .bool e0]] W0 (fun e w' => e = .returned (.bool (fewI ⟨bs ck, [bss kex, bss m1, bss m2, bss m3, bss m4, bss m5, bss m6, bss m7], bss m8, bss m9, a, b, c, d, e0⟩)) ∧ Below W0.heap.size W0 w') from few16_any hIV)
 have HA := hide (fun W => awake16 W)
 have z0 := hX0.cell 0
 have z1 := hX0.cell 1
 have z2 := hX0.cell 2
 have z3 := hX0.cell 3
 have z4 := hX0.cell 4
 have z5 := hX0.cell 5
 have z6 := hX0.cell 6
 have z7 := hX0.cell 7
 have z8 := hX0.cell 8
 have z9 := hX0.cell 9
 have z10 := hX0.cell 10
 have z11 := hX0.cell 11
 have z12 := hX0.cell 12
 have z13 := hX0.cell 13
 have z14 := hX0.cell 14
 have z15 := hX0.cell 15
 simp only [List.getElem?_toArray, List.getElem?_cons_zero, List.getElem?_cons_succ] at z0 z1 z2 z3 z4 z5 z6 z7 z8 z9 z10 z11 z12 z13 z14 z15
 have HX := hide (And.intro hb0 (And.intro hX0 (And.intro hA0 (And.intro hE hM))))
 clear hT hck hA hb0 hX0 hA0 hE hM hIV
 cases hf : fewI ⟨bs ck, [bss kex, bss m1, bss m2, bss m3, bss m4, bss m5, bss m6, bss m7], bss m8, bss m9, a, b, c, d, e0⟩ with
 | false =>
  rw [hf] at HFw
  clear hf
  as_aux_lemma =>
   go_enter Tryz.func4, Tryz.ntmps4
   go_upto_region 1 with fail
   rw [← hW0]
   clear hW0
   go_wp2_with (first
    | (go_at_call 14; refine HFw.out.mono ?_; rintro e w1 ⟨rfl, hb1⟩)
    | (go_at_call 15; refine (HA.out _).mono ?_; rintro e w2 ⟨rfl, hb2⟩)
    | fail)
   go_ret
   exact ⟨rfl, HX.out.1.trans ((hb1.trans (hb2.mono hb1.size)).mono HX.out.1.size)⟩
 | true =>
  rw [hf] at HFw
  obtain ⟨h100, h20⟩ := fewI_get hf
  have hsz := kexMsg_get (more := [m1, m2, m3, m4, m5, m6, m7, m8, m9]) (a := a) (b := b) (c := c) (d := d) (e0 := e0) h100 h20
  have hsm : ∀ l ∈ [kex, m1, m2, m3, m4, m5, m6, m7, m8, m9], l.length ≤ 1000000 := fun l hl => by have := (h20 l hl).1; omega
  have HC := hide (fun (W : World) (hb : Below W0.heap.size W0 W) => (HX.out.2.2.1.below hb).small hsm)
  have HB := hide (fun (W : World) (hb : Below W0.heap.size W0 W) => build16_any ck a b c d e0 (HC.out W hb) (fun x hx => (hsz x hx).1))
  have HRB := hide (fun (W : World) (hb : Below W0.heap.size W0 W) => rbuild16_any (bs ck) a b c d e0 (l := kexMsg ⟨ck, kex, [m1, m2, m3, m4, m5, m6, m7, m8, m9], a, b, c, d, e0⟩) ((HC.out W hb).2 0 _ _ rfl rfl).1.1 (by have := ((HC.out W hb).2 0 _ kex rfl rfl).2; omega) (fun x hx => (hsz x hx).1) (by show (13 : Nat) ≤ 1000; decide) (hide (fun W2 hb2 => rmsg16_any ck a b c d e0 (HC.out W2 (hb.trans (hb2.mono hb.size))))))
  have HFit := hide (fun x hx => (hsz x hx).2)
  clear hf h100 h20 hsz hsm
  obtain ⟨lM, hlM⟩ : ∃ lM, lM = kexMsg ⟨ck, kex, [m1, m2, m3, m4, m5, m6, m7, m8, m9], a, b, c, d, e0⟩ := ⟨_, rfl⟩
  rw [← hlM] at HB HRB HFit
  have HlM := hide hlM
  clear hlM
  go_enter Tryz.func4, Tryz.ntmps4
  go_upto_region 1 with fail
  rw [← hW0]
  clear hW0
  go_wp2_with (first
   | (go_at_call 14; refine HFw.out.mono ?_; rintro e w1 ⟨rfl, hb1⟩; have hX1 := HX.out.2.1.below hb1 HX.out.2.1.lt; have z0 := hX1.cell 0; have z1 := hX1.cell 1; have z2 := hX1.cell 2; have z3 := hX1.cell 3; have z4 := hX1.cell 4; have z5 := hX1.cell 5; have z6 := hX1.cell 6; have z7 := hX1.cell 7; have z8 := hX1.cell 8; have z9 := hX1.cell 9; have z10 := hX1.cell 10; have z11 := hX1.cell 11; have z12 := hX1.cell 12; have z13 := hX1.cell 13; have z14 := hX1.cell 14; have z15 := hX1.cell 15; simp only [List.getElem?_toArray, List.getElem?_cons_zero, List.getElem?_cons_succ] at z0 z1 z2 z3 z4 z5 z6 z7 z8 z9 z10 z11 z12 z13 z14 z15)
   | fail)
  refine (HB.out w1 hb1).mono ?_
  rintro e w2 ⟨hb2, hr2⟩
  have hb02 := hb1.trans (hb2.mono hb1.size)
  have hX2 := HX.out.2.1.below hb02 HX.out.2.1.lt
  clear hX1 z0 z1 z2 z3 z4 z5 z6 z7 z8 z9 z10 z11 z12 z13 z14 z15 HFw HB
  have z0 := hX2.cell 0
  have z1 := hX2.cell 1
  have z2 := hX2.cell 2
  have z3 := hX2.cell 3
  have z4 := hX2.cell 4
  have z5 := hX2.cell 5
  have z6 := hX2.cell 6
  have z7 := hX2.cell 7
  have z8 := hX2.cell 8
  have z9 := hX2.cell 9
  have z10 := hX2.cell 10
  have z11 := hX2.cell 11
  have z12 := hX2.cell 12
  have z13 := hX2.cell 13
  have z14 := hX2.cell 14
  have z15 := hX2.cell 15
  simp only [List.getElem?_toArray, List.getElem?_cons_zero, List.getElem?_cons_succ] at z0 z1 z2 z3 z4 z5 z6 z7 z8 z9 z10 z11 z12 z13 z14 z15
  rcases hr2 with ⟨hmk, s, hs, rfl⟩ | ⟨q, ps, k, hk, rfl, hi⟩
  ·as_aux_lemma =>
    go_wp2_with fail
    refine (HRB.out w2 hb02).mono ?_
    rintro e w3 ⟨hb3, ⟨_, s2, hs2, rfl⟩ | ⟨ps2, k2, hk2, _, _⟩⟩
    ·obtain rfl : s = s2 := by rw [hs] at hs2; injection hs2
     have hd := dec_enc HFit.out hs
     have hsl : s.length ≤ 1000000 := by obtain ⟨hd1, hd2, hd3, hd4, hd5⟩ := hd; omega
     have hbx := (Below.refl w3.heap.size w3).alloc (Nat.le_refl _) (.cells #[.int .i64 0, .string ⟨#[]⟩] 42)
     have hN5 := Blk.new w3 42 #[.int .i64 0, .string ⟨#[]⟩]
     have hb05 := hb02.trans ((hb3.trans (hbx.mono hb3.size)).mono hb02.size)
     clear hX2 z0 z1 z2 z3 z4 z5 z6 z7 z8 z9 z10 z11 z12 z13 z14 z15 HRB
     go_upto_region 5 with fail
     generalize w3.alloc (.cells #[.int .i64 0, .string ⟨#[]⟩] 42) = w5 at hbx hN5 hb05 ⊢
     have e0c := hN5.cell 0
     simp at e0c
     have hb5 := HX.out.1.trans (hb05.mono HX.out.1.size)
     have HPa := hide (parse16_any (w := w5) (bs s) (by rw [bs_size]; exact hsl) (HX.out.2.2.2.2.below hb5))
     rw [bs_data] at HPa
     have Hd := hide hd.1
     have HsX := hide hs
     have Hmk := hide hmk
     have hss : ((bs s).toList == (bs s).toList) = true := beq_self_eq_true _
     have H5 := hide hb05
     clear hd hsl hN5 hb5 hb05 hbx hb3 hs hs2 hmk
     go_wp2_with fail
     refine HPa.out.mono ?_
     rintro e w7 ⟨hb7, ⟨ck2, l1, l2, l3, l4, l5, l6, l7, l8, l9, l10, f, B0, n0, d0, B1, n1, d1, B2, n2, d2, B3, n3, d3, B4, n4, d4, B5, n5, d5, B6, n6, d6, B7, n7, d7, B8, n8, d8, B9, n9, d9, hd2, hf2, hmr, he, hAC⟩ | ⟨q, ps, k, hpe, _, _⟩⟩
     ·as_aux_lemma =>
       have hbp := build_parse (x := ⟨ck, kex, [m1, m2, m3, m4, m5, m6, m7, m8, m9], a, b, c, d, e0⟩) Hmk.out (by rw [← HlM.out]; exact HFit.out) (by rw [← HlM.out]; exact HsX.out)
       rw [hbp.1] at hd2
       injection hd2 with _ hd3
       obtain ⟨hc1, hc2, hc3, _⟩ := kexFs_inj (by rfl) (by rfl) hd3
       simp only [List.cons.injEq, and_true] at hc2
       obtain ⟨rfl, rfl, rfl, rfl, rfl, rfl, rfl, rfl, rfl, rfl⟩ := hc2
       subst hc1 hc3
       rw [splitM_of a b c d Hmk.out] at he hAC
       have hfo : (foN e0 == 1) = e0 := by cases e0 <;> rfl
       simp only [hfo] at he hAC
       subst he
       have hB7 := Blk.new w7 45 #[.string (bs ck), .slice B0 n0 d0, .slice B1 n1 d1, .slice B2 n2 d2, .slice B3 n3 d3, .slice B4 n4 d4, .slice B5 n5 d5, .slice B6 n6 d6, .slice B7 n7 d7, .slice B8 n8 d8, .slice B9 n9 d9, .bool a, .bool b, .bool c, .bool d, .bool e0]
       have hbx := (Below.refl w7.heap.size w7).alloc (Nat.le_refl _) (.cells #[.string (bs ck), .slice B0 n0 d0, .slice B1 n1 d1, .slice B2 n2 d2, .slice B3 n3 d3, .slice B4 n4 d4, .slice B5 n5 d5, .slice B6 n6 d6, .slice B7 n7 d7, .slice B8 n8 d8, .slice B9 n9 d9, .bool a, .bool b, .bool c, .bool d, .bool e0] 45)
       have hb08 := H5.out.trans ((hb7.trans (hbx.mono hb7.size)).mono H5.out.size)
       have hAC8 := hAC.below hbx
       have hX8 := HX.out.2.1.below hb08 HX.out.2.1.lt
       have hA8 := HX.out.2.2.1.below hb08
       clear hd3 hf2 hmr hfo hbp hAC hb7 HPa Hd
       go_upto_region 8 with fail
       generalize w7.alloc (.cells #[.string (bs ck), .slice B0 n0 d0, .slice B1 n1 d1, .slice B2 n2 d2, .slice B3 n3 d3, .slice B4 n4 d4, .slice B5 n5 d5, .slice B6 n6 d6, .slice B7 n7 d7, .slice B8 n8 d8, .slice B9 n9 d9, .bool a, .bool b, .bool c, .bool d, .bool e0] 45) = w8 at hB7 hbx hb08 hAC8 hX8 hA8 ⊢
       generalize w7.heap.size = b7 at hB7 ⊢
       have HSm := hide (fun (W : World) (hb : Below w8.heap.size w8 W) => same16_true (ck := ck) (a := a) (b := b) (c := c) (d := d) (e0 := e0) (hAC8.allM.below hb) (hA8.below hb))
       have H8 := hide (And.intro hb08 (And.intro hB7 hX8))
       clear hbx hb08 hAC8 hX8 hA8 hB7 e0c
       go_wp2_with (first
        | (go_at_call 15; refine (HA.out _).mono ?_; rintro e w9 ⟨rfl, hb9⟩; have hX9 := H8.out.2.2.below hb9 H8.out.2.2.lt; have hY9 := H8.out.2.1.below hb9 H8.out.2.1.lt; have z0 := hX9.cell 0; have z1 := hX9.cell 1; have z2 := hX9.cell 2; have z3 := hX9.cell 3; have z4 := hX9.cell 4; have z5 := hX9.cell 5; have z6 := hX9.cell 6; have z7 := hX9.cell 7; have z8 := hX9.cell 8; have z9 := hX9.cell 9; have z10 := hX9.cell 10; have z11 := hX9.cell 11; have z12 := hX9.cell 12; have z13 := hX9.cell 13; have z14 := hX9.cell 14; have z15 := hX9.cell 15; simp only [List.getElem?_toArray, List.getElem?_cons_zero, List.getElem?_cons_succ] at z0 z1 z2 z3 z4 z5 z6 z7 z8 z9 z10 z11 z12 z13 z14 z15; have y0 := hY9.cell 0; have y1 := hY9.cell 1; have y2 := hY9.cell 2; have y3 := hY9.cell 3; have y4 := hY9.cell 4; have y5 := hY9.cell 5; have y6 := hY9.cell 6; have y7 := hY9.cell 7; have y8 := hY9.cell 8; have y9 := hY9.cell 9; have y10 := hY9.cell 10; have y11 := hY9.cell 11; have y12 := hY9.cell 12; have y13 := hY9.cell 13; have y14 := hY9.cell 14; have y15 := hY9.cell 15; simp only [List.getElem?_toArray, List.getElem?_cons_zero, List.getElem?_cons_succ] at y0 y1 y2 y3 y4 y5 y6 y7 y8 y9 y10 y11 y12 y13 y14 y15)
        | (go_at_call 19; refine (HSm.out _ hb9).mono ?_; rintro e w10 ⟨rfl, hb10⟩)
        | fail)
       go_ret
       exact ⟨rfl, HX.out.1.trans ((H8.out.1.trans ((hb9.trans (hb10.mono hb9.size)).mono H8.out.1.size)).mono HX.out.1.size)⟩
     ·exfalso
      have hbp := build_parse (x := ⟨ck, kex, [m1, m2, m3, m4, m5, m6, m7, m8, m9], a, b, c, d, e0⟩) Hmk.out (by rw [← HlM.out]; exact HFit.out) (by rw [← HlM.out]; exact HsX.out)
      rcases hpe with ⟨qs, h1, _⟩ | ⟨n, l, h1, h2, _⟩ | ⟨ck2, l1, more, f, u, h1, h2, _, h3, _⟩
      ·rw [hbp.1] at h1; cases h1
      ·rw [hbp.1] at h1; injection h1 with h4 _; exact h2 h4.symm
      ·rw [hbp.1] at h1
       injection h1 with _ h4
       obtain ⟨_, h5, _, h6⟩ := kexFs_inj (by rfl) (by simp [h2]) h4
       injection h5 with h7 _
       rcases h3 with h3 | h3
       ·rw [← h7, splitM_of a b c d Hmk.out, Hmk.out] at h3
        cases h3
       ·exact h3 h6.symm
    ·exfalso
     unfold kexErr at hk2
     rw [if_neg (by rw [hmk]; decide), hs] at hk2
     cases hk2
  ·as_aux_lemma =>
    go_wp2_with fail
    refine (HRB.out w2 hb02).mono ?_
    rintro e w3 ⟨hb3, ⟨hm2, s2, hs2, _⟩ | ⟨ps2, k2, hk2, hk0, rfl⟩⟩
    ·exfalso
     unfold kexErr at hk
     rw [if_neg (by rw [hm2]; decide), hs2] at hk
     cases hk
    ·rw [hk] at hk2
     obtain ⟨rfl, rfl⟩ : ps = ps2 ∧ k = k2 := by injection hk2 with h; injection h with h1 h2; exact ⟨h1, h2⟩
     have hps := kexErr_ok hk
     have hx1 : ((k : Int) == 0) = false := by rw [beq_eq_false_iff_ne]; omega
     have hx2 : ((k : Int) != 0) = true := by simp [bne, hx1]
     have hbx := (Below.refl w3.heap.size w3).alloc (Nat.le_refl _) (.cells #[.int .i64 (k : Nat), .string (bs (atL ps))] 42)
     have hN5 := Blk.new w3 42 #[.int .i64 (k : Nat), .string (bs (atL ps))]
     have hb25 := hb3.trans (hbx.mono hb3.size)
     have hb05 := hb02.trans (hb25.mono hb02.size)
     have hi5 := hi.below hb25
     clear hX2 z0 z1 z2 z3 z4 z5 z6 z7 z8 z9 z10 z11 z12 z13 z14 z15 HRB hk hk2 hk0 hi
     go_upto_region 5 with fail
     generalize w3.alloc (.cells #[.int .i64 (k : Nat), .string (bs (atL ps))] 42) = w5 at hbx hN5 hb25 hb05 hi5 ⊢
     generalize w3.heap.size = b5 at hN5 ⊢
     have p0 := hN5.cell 0
     have p1 := hN5.cell 1
     simp at p0 p1
     have hb5 := HX.out.1.trans (hb05.mono HX.out.1.size)
     have HW := hide (fun (W : World) (hb : Below w5.heap.size w5 W) => wrgN_any (w := W) q (k := (k : Nat)) hps.1 hps.2 (hi5.below hb) (HX.out.2.2.2.1.below (hb5.trans (hb.mono hb5.size))))
     have H5 := hide (And.intro hb5 hN5)
     clear hps hbx hN5 hb25 hb05 hi5 hb5 hb3
     unfold errV at HW ⊢
     generalize bs (atL ps) = ap at HW H5 p1
     go_wp2_with (first
      | (go_at_call 15; refine (HA.out _).mono ?_; rintro e w6 ⟨rfl, hb6⟩; have hN6 := H5.out.2.below hb6 H5.out.2.lt; have p0 := hN6.cell 0; have p1 := hN6.cell 1; simp at p0 p1)
      | (go_at_call 13; refine (HW.out _ hb6).mono ?_; rintro e w7 ⟨rfl, hb7⟩)
      | fail)
     go_ret
     exact ⟨rfl, H5.out.1.trans ((hb6.trans (hb7.mono hb6.size)).mono H5.out.1.size)⟩
end
end Go.Proofs.YtjaipdenahlheaaGreatDoor
