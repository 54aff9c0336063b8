/-
 The law KexinitParses: the walk of the statement. Conditions: the library's handle and number are as they were laid.
-/
import Derived.Test.YtjaipdenahlheaaGreatDoorKxU
import Derived.Test.YtjaipdenahlheaaGreatDoorKxV
set_option linter.unusedVariables false
set_option linter.unusedSimpArgs false
namespace Go.Proofs.YtjaipdenahlheaaGreatDoor
open Go.RowKit Go.ChangeShapes Go.WideShapes Go.Sort
theorem parE_fun {D : DecR} {ps ps2 : List (List UInt8)} {k k2 : Nat} (h : ParE D ps k) (h2 : ParE D ps2 k2) : ps = ps2 ∧ k = k2 := by
 rcases h with ⟨qs, h1, e1⟩ | ⟨n, l, h1, hn, e1, e2⟩ | ⟨ck, l1, more, f, u, h1, _, _, _, e1, e2⟩
 ·rcases h2 with ⟨qs2, g1, e3⟩ | ⟨n2, l2, g1, _⟩ | ⟨_, _, _, _, _, g1, _⟩
  ·rw [h1] at g1
   injection g1 with g
   injection g with g3 g4
   subst g3 g4 e1
   exact ⟨e3.symm, rfl⟩
  ·rw [g1] at h1; cases h1
  ·rw [g1] at h1; cases h1
 ·rcases h2 with ⟨qs2, g1, e3⟩ | ⟨n2, l2, g1, _, e3, e4⟩ | ⟨_, _, _, _, _, g1, _⟩
  ·rw [h1] at g1; cases g1
  ·exact ⟨e1.trans e3.symm, e2.trans e4.symm⟩
  ·rw [h1] at g1
   injection g1 with g _
   exact absurd g hn
 ·rcases h2 with ⟨qs2, g1, e3⟩ | ⟨n2, l2, g1, hn, e3, e4⟩ | ⟨_, _, _, _, _, g1, _, _, _, e3, e4⟩
  ·rw [h1] at g1; cases g1
  ·rw [h1] at g1
   injection g1 with g _
   exact absurd g.symm hn
  ·exact ⟨e1.trans e3.symm, e2.trans e4.symm⟩
theorem decErr_two {p : List UInt8} {ps : List (List UInt8)} {k : Nat} (h : decErr (decS p) = some (ps, k)) : ps.length ≤ 2 := by
 cases hD : decS p with
 | ok n l => rw [hD] at h; cases h
 | all e => rw [hD] at h; cases h; simp
 | bad n R =>
  rw [hD] at h
  cases R with
  | ok l => cases h
  | no e i => cases h; simp
  | tail => cases h; simp
theorem parE_ok {p : List UInt8} {ps : List (List UInt8)} {k : Nat} (h : ParE (decS p) ps k) : PsOk ps := by
 have hm : PsOk [kexB] := ⟨by simp, fun q hq => by simp only [List.mem_singleton] at hq; subst hq; decide⟩
 rcases h with ⟨qs, h1, rfl⟩ | ⟨n, l, h1, hn, rfl, e2⟩ | ⟨ck, l1, more, f, u, h1, _, _, _, rfl, e2⟩
 ·have h2 := decErr_ok h1
  have h3 := decErr_two h1
  refine ⟨by simp only [List.length_cons]; omega, fun q hq => ?_⟩
  rcases List.mem_cons.1 hq with rfl | hq
  ·decide
  ·exact h2.2 q hq
 ·exact hm
 ·exact hm
theorem parE_no {p : List UInt8} {ck : List UInt8} {l1 l2 l3 l4 l5 l6 l7 l8 l9 l10 : List (List UInt8)} {f : Int} {ps : List (List UInt8)} {k : Nat} (hd : decS p = .ok 20 (kexFs ck [l1, l2, l3, l4, l5, l6, l7, l8, l9, l10] f 0)) (hm : markedL (splitM l1).rest = false) (h : ParE (decS p) ps k) : False := by
 rcases h with ⟨qs, h1, _⟩ | ⟨n, l, h1, hn, _⟩ | ⟨ck2, l1', more, f2, u, h1, h2, _, h3, _⟩
 ·rw [hd] at h1; cases h1
 ·rw [hd] at h1; injection h1 with h4 _; exact hn h4.symm
 ·rw [hd] at h1
  injection h1 with _ h4
  obtain ⟨_, h5, _, h6⟩ := kexFs_inj (by rfl) (by simp [h2]) h4
  injection h5 with h7 _
  subst h7
  rcases h3 with h3 | h3
  ·rw [hm] at h3; cases h3
  ·exact h3 h6.symm
theorem allC_len {w : World} {vs : List Value} {ls : List (List (List UInt8))} (h : AllC w vs ls) (i : Nat) {A : Option Addr} {n c : Nat} {l : List (List UInt8)} (h1 : vs[i]? = some (.slice A n c)) (h2 : ls[i]? = some l) : n = l.length := by
 obtain ⟨_, _, _, e, _⟩ := (h.2 i _ l h1 h2).1
 injection e
theorem allM_nil (w : World) : AllM w [.slice none 0 0, .slice none 0 0, .slice none 0 0, .slice none 0 0, .slice none 0 0, .slice none 0 0, .slice none 0 0, .slice none 0 0, .slice none 0 0, .slice none 0 0] [[], [], [], [], [], [], [], [], [], []] := by
 refine ⟨rfl, fun i v l h1 h2 => ?_⟩
 have key : Txc w (.slice none 0 0) [] ∧ ([] : List (List UInt8)).length ≤ maxLen := ⟨(newC_nil 0 w 0).txc, Nat.zero_le _⟩
 match i, h1, h2 with
 | 0, h1, h2 => cases h1; cases h2; exact key
 | 1, h1, h2 => cases h1; cases h2; exact key
 | 2, h1, h2 => cases h1; cases h2; exact key
 | 3, h1, h2 => cases h1; cases h2; exact key
 | 4, h1, h2 => cases h1; cases h2; exact key
 | 5, h1, h2 => cases h1; cases h2; exact key
 | 6, h1, h2 => cases h1; cases h2; exact key
 | 7, h1, h2 => cases h1; cases h2; exact key
 | 8, h1, h2 => cases h1; cases h2; exact key
 | 9, h1, h2 => cases h1; cases h2; exact key
 | q + 10, h1, _ => simp at h1
section
variable {w : World}
set_option maxHeartbeats 8000000 in
set_option maxRecDepth 100000 in
theorem kexinitParses_any (hE : Hand w) (hM : MaxL w) (pl : ByteArray) (hp : pl.size ≤ maxLen) :
  Calls Tryz.prog 5 #[.string pl] w (fun e w' => e = .returned (.bool true) ∧ Below w.heap.size w w') := by
 have HA := hide (fun W => awake16 W)
 by_cases h2000 : 2000 < pl.size
 ·have h2' : (2000 : Int) < pl.size := by omega
  clear hE hM hp
  go_enter Tryz.func5, Tryz.ntmps5
  go_wp2_with (first
   | (go_at_call 15; refine (HA.out _).mono ?_; rintro e w2 ⟨rfl, hb2⟩)
   | fail)
  go_ret
  exact ⟨rfl, hb2⟩
 ·have h2' : ¬ (2000 : Int) < pl.size := by omega
  have h2n : pl.size ≤ 2000 := by omega
  have HP := hide (parse16_any (w := w) pl (by omega) hM)
  have HR := hide (fun W => rparse16_any (w := W) pl h2n)
  have HL := hide (And.intro hE hM)
  have H2n := hide h2n
  clear hE hM hp h2000 h2n
  go_enter Tryz.func5, Tryz.ntmps5
  go_wp2_with fail
  refine HP.out.mono ?_
  rintro e w1 ⟨hb1, ⟨ck, l1, l2, l3, l4, l5, l6, l7, l8, l9, l10, f, A0, n0, c0, A1, n1, c1, A2, n2, c2, A3, n3, c3, A4, n4, c4, A5, n5, c5, A6, n6, c6, A7, n7, c7, A8, n8, c8, A9, n9, c9, hd, hf, hmr, rfl, hAC⟩ | ⟨q, ps, k, hpe, rfl, hi⟩⟩
  ·have hbx := (Below.refl w1.heap.size w1).alloc (Nat.le_refl _) (.cells #[.string (bs ck), .slice A0 n0 c0, .slice A1 n1 c1, .slice A2 n2 c2, .slice A3 n3 c3, .slice A4 n4 c4, .slice A5 n5 c5, .slice A6 n6 c6, .slice A7 n7 c7, .slice A8 n8 c8, .slice A9 n9 c9, .bool (splitM l1).a, .bool (splitM l1).b, .bool (splitM l1).c, .bool (splitM l1).d, .bool (f == 1)] 45)
   have hB2 := Blk.new w1 45 #[.string (bs ck), .slice A0 n0 c0, .slice A1 n1 c1, .slice A2 n2 c2, .slice A3 n3 c3, .slice A4 n4 c4, .slice A5 n5 c5, .slice A6 n6 c6, .slice A7 n7 c7, .slice A8 n8 c8, .slice A9 n9 c9, .bool (splitM l1).a, .bool (splitM l1).b, .bool (splitM l1).c, .bool (splitM l1).d, .bool (f == 1)]
   have hb02 := hb1.trans (hbx.mono hb1.size)
   have hAC2 := hAC.below hbx
   have Hd := hide (And.intro hd (And.intro hf hmr))
   clear hAC hb1 hd hf hmr
   go_upto_region 4 with fail
   generalize w1.alloc (.cells #[.string (bs ck), .slice A0 n0 c0, .slice A1 n1 c1, .slice A2 n2 c2, .slice A3 n3 c3, .slice A4 n4 c4, .slice A5 n5 c5, .slice A6 n6 c6, .slice A7 n7 c7, .slice A8 n8 c8, .slice A9 n9 c9, .bool (splitM l1).a, .bool (splitM l1).b, .bool (splitM l1).c, .bool (splitM l1).d, .bool (f == 1)] 45) = w2 at hbx hB2 hb02 hAC2 ⊢
   generalize w1.heap.size = b2 at hB2 ⊢
   have HS := hide (And.intro hb02 (And.intro hB2 hAC2))
   clear hbx hB2 hb02 hAC2
   go_wp2_with fail
   refine (HR.out w2).mono ?_
   rintro e w3 ⟨hb3, ⟨ck2, m_1, m_2, m_3, m_4, m_5, m_6, m_7, m_8, m_9, m_10, f2, B0, m0, d0, B1, m1, d1, B2, m2, d2, B3, m3, d3, B4, m4, d4, B5, m5, d5, B6, m6, d6, B7, m7, d7, B8, m8, d8, B9, m9, d9, hd2, hf2, hmr2, he, hAC3⟩ | ⟨ps, k, hpe, _, _⟩⟩
   ·as_aux_lemma =>
     rw [Hd.out.1] at hd2
     injection hd2 with _ hd3
     obtain ⟨hc1, hc2, hc3, _⟩ := kexFs_inj (by rfl) (by rfl) hd3
     simp only [List.cons.injEq, and_true] at hc2
     obtain ⟨rfl, rfl, rfl, rfl, rfl, rfl, rfl, rfl, rfl, rfl⟩ := hc2
     subst hc1 hc3 he
     obtain ⟨W4, hW4⟩ : ∃ W4, W4 = (w3.alloc (.cells #[.string (bs ck), .slice B0 m0 d0, .slice B1 m1 d1, .slice B2 m2 d2, .slice B3 m3 d3, .slice B4 m4 d4, .slice B5 m5 d5, .slice B6 m6 d6, .slice B7 m7 d7, .slice B8 m8 d8, .slice B9 m9 d9, .bool (splitM l1).a, .bool (splitM l1).b, .bool (splitM l1).c, .bool (splitM l1).d, .bool (f == 1)] 45)).alloc (.cells #[.int .i64 0, .string ⟨#[]⟩] 42) := ⟨_, rfl⟩
     have hb34 : Below w3.heap.size w3 W4 := by rw [hW4]; (repeat (first | exact Below.refl _ _ | refine below_drewN ?_ _ | refine Below.drew ?_ | refine Below.alloc ?_ (by first | omega | (simp; done) | (simp; omega)) _ | refine Below.setCell ?_ (by first | omega | (simp; done) | (simp; omega)) _ | refine bel_alloc ?_ _ | refine bel_trans ?_ (by assumption) | refine Below.trans ?_ (Below.mono (by assumption) (by first | omega | (simp; done) | (simp; omega)))))
     have hY4 : Blk W4 w3.heap.size 45 #[.string (bs ck), .slice B0 m0 d0, .slice B1 m1 d1, .slice B2 m2 d2, .slice B3 m3 d3, .slice B4 m4 d4, .slice B5 m5 d5, .slice B6 m6 d6, .slice B7 m7 d7, .slice B8 m8 d8, .slice B9 m9 d9, .bool (splitM l1).a, .bool (splitM l1).b, .bool (splitM l1).c, .bool (splitM l1).d, .bool (f == 1)] := by rw [hW4]; exact (Blk.new w3 _ _).alloc _
     have hE4 : Blk W4 (w3.heap.size + 1) 42 #[.int .i64 0, .string ⟨#[]⟩] := by rw [hW4]; exact blk_new2 w3 _ _ _
     clear hd3 hf2 hmr2
     go_upto_region 5 with fail
     rw [← hW4]
     clear hW4
     generalize w3.heap.size + 1 = b5 at hE4 ⊢
     obtain ⟨b4, hb4⟩ : ∃ b4, b4 = w3.heap.size := ⟨_, rfl⟩
     simp only [← hb4]
     rw [← hb4] at hY4
     have hb24 := hb3.trans (hb34.mono hb3.size)
     have hX4 := HS.out.2.1.below hb24 HS.out.2.1.lt
     have hA4 := HS.out.2.2.below hb24
     have hA34 := hAC3.below hb34
     have hb04 := HS.out.1.trans (hb24.mono HS.out.1.size)
     have e0c := hE4.cell 0
     simp at e0c
     have hsz : ∀ x ∈ kexMsg ⟨ck, (splitM l1).rest, [l2, l3, l4, l5, l6, l7, l8, l9, l10], (splitM l1).a, (splitM l1).b, (splitM l1).c, (splitM l1).d, (f == 1)⟩, SzF x := by
      have h1 : kexMsg ⟨ck, (splitM l1).rest, [l2, l3, l4, l5, l6, l7, l8, l9, l10], (splitM l1).a, (splitM l1).b, (splitM l1).c, (splitM l1).d, (f == 1)⟩ = kexFs ck [l1, l2, l3, l4, l5, l6, l7, l8, l9, l10] f 0 := kexMsg_of (more := [l2, l3, l4, l5, l6, l7, l8, l9, l10]) Hd.out.2.1
      rw [h1]
      exact rp_szL (p := pl.data.toList) H2n.out Hd.out.1
     have hpb : encS 20 (kexMsg ⟨ck, (splitM l1).rest, [l2, l3, l4, l5, l6, l7, l8, l9, l10], (splitM l1).a, (splitM l1).b, (splitM l1).c, (splitM l1).d, (f == 1)⟩) = .ok pl.data.toList := parse_build (more := [l2, l3, l4, l5, l6, l7, l8, l9, l10]) Hd.out.1 Hd.out.2.1
     have HSm := hide (fun (W : World) (hb : Below W4.heap.size W4 W) => same16_true (ck := ck) (a := (splitM l1).a) (b := (splitM l1).b) (c := (splitM l1).c) (d := (splitM l1).d) (e0 := (f == 1)) (hA4.allM.below hb) (hA34.allM.below hb))
     have hA5 : AllC W4 [.slice A0 (splitM l1).rest.length c0, .slice A1 n1 c1, .slice A2 n2 c2, .slice A3 n3 c3, .slice A4 n4 c4, .slice A5 n5 c5, .slice A6 n6 c6, .slice A7 n7 c7, .slice A8 n8 c8, .slice A9 n9 c9] [(splitM l1).rest, l2, l3, l4, l5, l6, l7, l8, l9, l10] := by
      have hA6 := hA4
      rw [allC_len hA4 0 rfl rfl] at hA6
      exact hA6
     have HB := hide (show Calls Tryz.prog 16 #[.agg #[.string (bs ck), .slice A0 n0 c0, .slice A1 n1 c1, .slice A2 n2 c2, .slice A3 n3 c3, .slice A4 n4 c4, .slice A5 n5 c5, .slice A6 n6 c6, .slice A7 n7 c7, .slice A8 n8 c8, .slice A9 n9 c9, .bool (splitM l1).a, .bool (splitM l1).b, .bool (splitM l1).c, .bool (splitM l1).d, .bool (f == 1)]] W4 (B16P (splitM l1).rest (kexMsg ⟨ck, (splitM l1).rest, [l2, l3, l4, l5, l6, l7, l8, l9, l10], (splitM l1).a, (splitM l1).b, (splitM l1).c, (splitM l1).d, (f == 1)⟩) W4) from by
      have := build16_any ck (splitM l1).a (splitM l1).b (splitM l1).c (splitM l1).d (f == 1) hA5 hsz
      rwa [← allC_len hA4 0 rfl rfl] at this)
     have H4 := hide (And.intro hb04 (And.intro hX4 (And.intro hY4 (And.intro hpb Hd.out.2.2))))
     have z0 := hX4.cell 0
     have z1 := hX4.cell 1
     have z2 := hX4.cell 2
     have z3 := hX4.cell 3
     have z4 := hX4.cell 4
     have z5 := hX4.cell 5
     have z6 := hX4.cell 6
     have z7 := hX4.cell 7
     have z8 := hX4.cell 8
     have z9 := hX4.cell 9
     have z10 := hX4.cell 10
     have z11 := hX4.cell 11
     have z12 := hX4.cell 12
     have z13 := hX4.cell 13
     have z14 := hX4.cell 14
     have z15 := hX4.cell 15
     simp only [List.getElem?_toArray, List.getElem?_cons_zero, List.getElem?_cons_succ] at z0 z1 z2 z3 z4 z5 z6 z7 z8 z9 z10 z11 z12 z13 z14 z15
     clear hb34 hE4 hb24 hA4 hA34 hb04 hsz hpb hA5 hX4 hY4 hb4 hAC3 hb3 HP HR
     go_wp2_with fail
     refine HB.out.mono ?_
     rintro e w5 ⟨hb5, ⟨hmk, s, hs, rfl⟩ | ⟨q, ps, k, hk, _, _⟩⟩
     ·as_aux_lemma =>
       have hpe : bs s = pl := by
        rw [H4.out.2.2.2.1] at hs
        injection hs with hs
        rw [← hs]; rfl
       rw [hpe]
       clear hs hpe hmk e0c z0 z1 z2 z3 z4 z5 z6 z7 z8 z9 z10 z11 z12 z13 z14 z15 HB
       have hss : (pl.toList == pl.toList) = true := beq_self_eq_true _
       go_wp2_with (first
        | (go_at_call 15; refine (HA.out _).mono ?_; rintro e w6 ⟨rfl, hb6⟩; have hb46 := hb5.trans (hb6.mono hb5.size); have hX6 := H4.out.2.1.below hb46 H4.out.2.1.lt; have hY6 := H4.out.2.2.1.below hb46 H4.out.2.2.1.lt; have z0 := hX6.cell 0; have z1 := hX6.cell 1; have z2 := hX6.cell 2; have z3 := hX6.cell 3; have z4 := hX6.cell 4; have z5 := hX6.cell 5; have z6 := hX6.cell 6; have z7 := hX6.cell 7; have z8 := hX6.cell 8; have z9 := hX6.cell 9; have z10 := hX6.cell 10; have z11 := hX6.cell 11; have z12 := hX6.cell 12; have z13 := hX6.cell 13; have z14 := hX6.cell 14; have z15 := hX6.cell 15; simp only [List.getElem?_toArray, List.getElem?_cons_zero, List.getElem?_cons_succ] at z0 z1 z2 z3 z4 z5 z6 z7 z8 z9 z10 z11 z12 z13 z14 z15; have y0 := hY6.cell 0; have y1 := hY6.cell 1; have y2 := hY6.cell 2; have y3 := hY6.cell 3; have y4 := hY6.cell 4; have y5 := hY6.cell 5; have y6 := hY6.cell 6; have y7 := hY6.cell 7; have y8 := hY6.cell 8; have y9 := hY6.cell 9; have y10 := hY6.cell 10; have y11 := hY6.cell 11; have y12 := hY6.cell 12; have y13 := hY6.cell 13; have y14 := hY6.cell 14; have y15 := hY6.cell 15; simp only [List.getElem?_toArray, List.getElem?_cons_zero, List.getElem?_cons_succ] at y0 y1 y2 y3 y4 y5 y6 y7 y8 y9 y10 y11 y12 y13 y14 y15)
        | (go_at_call 19; refine (HSm.out _ hb46).mono ?_; rintro e w7 ⟨rfl, hb7⟩)
        | fail)
       go_ret
       exact ⟨rfl, H4.out.1.trans ((hb46.trans (hb7.mono hb46.size)).mono H4.out.1.size)⟩
     ·exfalso
      unfold kexErr at hk
      rw [H4.out.2.2.2.2, if_neg (by decide), H4.out.2.2.2.1] at hk
      cases hk
   ·exact (parE_no Hd.out.1 Hd.out.2.2 hpe).elim
  ·have hbx := (Below.refl w1.heap.size w1).alloc (Nat.le_refl _) (.cells #[.string ⟨#[]⟩, .slice none 0 0, .slice none 0 0, .slice none 0 0, .slice none 0 0, .slice none 0 0, .slice none 0 0, .slice none 0 0, .slice none 0 0, .slice none 0 0, .slice none 0 0, .bool false, .bool false, .bool false, .bool false, .bool false] 45)
   have hB2 := Blk.new w1 45 #[.string ⟨#[]⟩, .slice none 0 0, .slice none 0 0, .slice none 0 0, .slice none 0 0, .slice none 0 0, .slice none 0 0, .slice none 0 0, .slice none 0 0, .slice none 0 0, .slice none 0 0, .bool false, .bool false, .bool false, .bool false, .bool false]
   have hb02 := hb1.trans (hbx.mono hb1.size)
   have hi2 := hi.below hbx
   have HE := hide hpe
   clear hi hb1 hpe
   go_upto_region 4 with fail
   generalize w1.alloc (.cells #[.string ⟨#[]⟩, .slice none 0 0, .slice none 0 0, .slice none 0 0, .slice none 0 0, .slice none 0 0, .slice none 0 0, .slice none 0 0, .slice none 0 0, .slice none 0 0, .slice none 0 0, .bool false, .bool false, .bool false, .bool false, .bool false] 45) = w2 at hbx hB2 hb02 hi2 ⊢
   generalize w1.heap.size = b2 at hB2 ⊢
   have HS := hide (And.intro hb02 (And.intro hB2 hi2))
   clear hbx hB2 hb02 hi2
   unfold errV at HS ⊢
   go_wp2_with fail
   refine (HR.out w2).mono ?_
   rintro e w3 ⟨hb3, ⟨ck2, m_1, m_2, m_3, m_4, m_5, m_6, m_7, m_8, m_9, m_10, f2, B0, m0, d0, B1, m1, d1, B2, m2, d2, B3, m3, d3, B4, m4, d4, B5, m5, d5, B6, m6, d6, B7, m7, d7, B8, m8, d8, B9, m9, d9, hd2, hf2, hmr2, he, hAC3⟩ | ⟨ps2, k2, hpe2, hk0, rfl⟩⟩
   ·exact (parE_no hd2 hmr2 HE.out).elim
   ·obtain ⟨rfl, rfl⟩ := parE_fun HE.out hpe2
    have hps := parE_ok HE.out
    have hx1 : ((k : Int) == 0) = false := by rw [beq_eq_false_iff_ne]; omega
    have hx2 : ((k : Int) != 0) = true := by simp [bne, hx1]
    obtain ⟨W4, hW4⟩ : ∃ W4, W4 = (w3.alloc (.cells #[.string ⟨#[]⟩, .slice none 0 0, .slice none 0 0, .slice none 0 0, .slice none 0 0, .slice none 0 0, .slice none 0 0, .slice none 0 0, .slice none 0 0, .slice none 0 0, .slice none 0 0, .bool false, .bool false, .bool false, .bool false, .bool false] 45)).alloc (.cells #[.int .i64 (k : Nat), .string (bs (atL ps))] 42) := ⟨_, rfl⟩
    have hb34 : Below w3.heap.size w3 W4 := by rw [hW4]; (repeat (first | exact Below.refl _ _ | refine below_drewN ?_ _ | refine Below.drew ?_ | refine Below.alloc ?_ (by first | omega | (simp; done) | (simp; omega)) _ | refine Below.setCell ?_ (by first | omega | (simp; done) | (simp; omega)) _ | refine bel_alloc ?_ _ | refine bel_trans ?_ (by assumption) | refine Below.trans ?_ (Below.mono (by assumption) (by first | omega | (simp; done) | (simp; omega)))))
    have hE4 : Blk W4 (w3.heap.size + 1) 42 #[.int .i64 (k : Nat), .string (bs (atL ps))] := by rw [hW4]; exact blk_new2 w3 _ _ _
    have hb24 := hb3.trans (hb34.mono hb3.size)
    have hX4 := HS.out.2.1.below hb24 HS.out.2.1.lt
    have hb04 := HS.out.1.trans (hb24.mono HS.out.1.size)
    have hi4 := HS.out.2.2.below hb24
    have HW := hide (fun (W : World) (hb : Below W4.heap.size W4 W) => wrgN_any (w := W) q (k := (k : Nat)) hps.1 hps.2 (hi4.below hb) (HL.out.1.below (hb04.trans (hb.mono hb04.size))))
    have HSm := hide (fun (W : World) => show Calls Tryz.prog 19 #[.agg #[.string ⟨#[]⟩, .slice none 0 0, .slice none 0 0, .slice none 0 0, .slice none 0 0, .slice none 0 0, .slice none 0 0, .slice none 0 0, .slice none 0 0, .slice none 0 0, .slice none 0 0, .bool false, .bool false, .bool false, .bool false, .bool false], .agg #[.string ⟨#[]⟩, .slice none 0 0, .slice none 0 0, .slice none 0 0, .slice none 0 0, .slice none 0 0, .slice none 0 0, .slice none 0 0, .slice none 0 0, .slice none 0 0, .slice none 0 0, .bool false, .bool false, .bool false, .bool false, .bool false]] W (fun e w' => e = .returned (.bool true) ∧ Below W.heap.size W w') from same16_true (ck := []) (a := false) (b := false) (c := false) (d := false) (e0 := false) (allM_nil W) (allM_nil W))
    clear hpe2 hk0 hps hi4 hb3 hb34 hb24
    go_upto_region 5 with fail
    rw [← hW4]
    clear hW4
    generalize w3.heap.size + 1 = b5 at hE4 ⊢
    unfold errV at HW
    generalize bs (atL ps) = ap at HW hE4 ⊢
    have p0 := hE4.cell 0
    have p1 := hE4.cell 1
    simp at p0 p1
    have H4 := hide (And.intro hb04 (And.intro hX4 hE4))
    clear hb04 hX4 hE4 HP HR
    go_wp2_with (first
     | (go_at_call 15; refine (HA.out _).mono ?_; rintro e w6 ⟨rfl, hb6⟩; have hN6 := H4.out.2.2.below hb6 H4.out.2.2.lt; have p0 := hN6.cell 0; have p1 := hN6.cell 1; simp at p0 p1)
     | (go_at_call 13; refine (HW.out _ hb6).mono ?_; rintro e w7 ⟨rfl, hb7⟩; have hb67 := hb6.trans (hb7.mono hb6.size); have hX7 := H4.out.2.1.below hb67 H4.out.2.1.lt; have z0 := hX7.cell 0; have z1 := hX7.cell 1; have z2 := hX7.cell 2; have z3 := hX7.cell 3; have z4 := hX7.cell 4; have z5 := hX7.cell 5; have z6 := hX7.cell 6; have z7 := hX7.cell 7; have z8 := hX7.cell 8; have z9 := hX7.cell 9; have z10 := hX7.cell 10; have z11 := hX7.cell 11; have z12 := hX7.cell 12; have z13 := hX7.cell 13; have z14 := hX7.cell 14; have z15 := hX7.cell 15; simp only [List.getElem?_toArray, List.getElem?_cons_zero, List.getElem?_cons_succ] at z0 z1 z2 z3 z4 z5 z6 z7 z8 z9 z10 z11 z12 z13 z14 z15)
     | (go_at_call 19; refine (HSm.out _).mono ?_; rintro e w8 ⟨rfl, hb8⟩)
     | fail)
    go_ret
    exact ⟨rfl, H4.out.1.trans ((hb67.trans (hb8.mono hb67.size)).mono H4.out.1.size)⟩
end
end Go.Proofs.YtjaipdenahlheaaGreatDoor
