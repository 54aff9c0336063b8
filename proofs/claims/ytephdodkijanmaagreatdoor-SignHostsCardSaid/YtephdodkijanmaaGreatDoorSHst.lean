/-
  SignHosts' walk. Conditions: few makes, names that fit; the library's table and handle are as they were laid.
-/
import Derived.Test.YtephdodkijanmaaGreatDoorSignC
import Derived.Test.YtephdodkijanmaaGreatDoorAwake22
import Derived.Test.YtephdodkijanmaaGreatDoorApt02
set_option linter.unusedVariables false
set_option linter.unusedSimpArgs false
namespace Go.Proofs.YtephdodkijanmaaGreatDoor
open Go.RowKit Go.ChangeShapes Go.WideShapes Go.Sort
theorem Mks.mono {lo lo2 : Nat} {w : World} {A : Option Addr} {l : List Mk} (h : Mks lo w A l) (hle : lo ≤ lo2) : Mks lo2 w A l :=
  ⟨fun i x hx => by obtain ⟨ad, e, h1, h2⟩ := h.at_ i x hx; exact ⟨ad, e, Nat.lt_of_lt_of_le h1 hle, h2⟩⟩
theorem nm4 {w : World} {b : Nat} {t : TypeId} {a0 a1 : ByteArray} {n0 n1 : Int} (h : Blk w b t #[.string a0, .int .i64 n0, .string a1, .int .i64 n1]) : w.cell? ⟨b, 0, none⟩ = some (.string a0) ∧ w.cell? ⟨b, 1, none⟩ = some (.int .i64 n0) ∧ w.cell? ⟨b, 2, none⟩ = some (.string a1) ∧ w.cell? ⟨b, 3, none⟩ = some (.int .i64 n1) :=
  ⟨h.cell 0, h.cell 1, h.cell 2, h.cell 3⟩
theorem nm2 {w : World} {b : Nat} {t : TypeId} {a0 a1 : ByteArray} {n0 n1 : Int} (h : Blk w b t #[.string a0, .int .i64 n0, .string a1, .int .i64 n1]) : w.cell? ⟨b, 0, none⟩ = some (.string a0) ∧ w.cell? ⟨b, 1, none⟩ = some (.int .i64 n0) :=
  ⟨h.cell 0, h.cell 1⟩
theorem in3 {w : World} {b : Nat} {t : TypeId} {x0 x1 x2 : Int} (h : Blk w b t #[.int .i64 x0, .int .i64 x1, .int .i64 x2]) : w.cell? ⟨b, 0, none⟩ = some (.int .i64 x0) ∧ w.cell? ⟨b, 1, none⟩ = some (.int .i64 x1) ∧ w.cell? ⟨b, 2, none⟩ = some (.int .i64 x2) :=
  ⟨h.cell 0, h.cell 1, h.cell 2⟩
/-- A term of the arena beside its text. -/
def OwnS (w : World) (B0 B g : Nat) (ms : List (Option Tm)) (v1 v2 : Value) (b7 : Nat) (T0 : List Tm) (m : Nat) (o : Option Tm) (vi vs : Value) (W : World) : Prop :=
  ∃ T S n, vi = .int .i64 n ∧ vs = .string (bs (txt o)) ∧ ApS w B0 B g T S ms v1 v2 b7 W ∧ Idn T o n ∧ T0 <+: T ∧ T.length ≤ m
/-- A test that was passed. -/
def TstS (w : World) (B0 B g : Nat) (ms : List (Option Tm)) (v1 v2 : Value) (b7 : Nat) (T0 : List Tm) (m : Nat) (v : Value) (W : World) : Prop :=
  v = .bool false ∧ ∃ T S, ApS w B0 B g T S ms v1 v2 b7 W ∧ T0 <+: T ∧ T.length ≤ m
section
variable {w : World}
set_option maxHeartbeats 16000000 in
set_option maxRecDepth 100000 in
theorem shst_any (hT : Tab w) (hH : Hand w) {A : Option Addr} {c : Nat} {l : List Mk} (hl : Mks w.heap.size w A l) (hf : fewB l 20 = true) (hll : l.length ≤ 20) (hls : ∀ x ∈ l, x.s.size ≤ 1000000) (x0 x1 x2 : Int) (a0 a1 : ByteArray) (n0 n1 : Int) (ha0 : a0.size ≤ 200) (ha1 : a1.size ≤ 200) :
    Calls Tryz.prog 4 #[.slice A l.length c, .agg #[.int .i64 x0, .int .i64 x1, .int .i64 x2], .agg #[.string a0, .int .i64 n0, .string a1, .int .i64 n1]] w (fun e w' => e = .returned (.bool true) ∧ Below w.heap.size w w') := by
  obtain ⟨W0, hW0⟩ : ∃ W0, W0 = (w.alloc (.cells #[.int .i64 x0, .int .i64 x1, .int .i64 x2] 43)).alloc (.cells #[.string a0, .int .i64 n0, .string a1, .int .i64 n1] 46) := ⟨_, rfl⟩
  have hbW : Below w.heap.size w W0 := by rw [hW0]; (repeat (first | exact Below.refl _ _ | refine below_drewN ?_ _ | refine Below.drew ?_ | refine Below.alloc ?_ (by first | omega | (simp; done) | (simp; omega)) _ | refine Below.setCell ?_ (by first | omega | (simp; done) | (simp; omega)) _ | refine bel_alloc ?_ _ | refine bel_trans ?_ (by assumption) | refine Below.trans ?_ (Below.mono (by assumption) (by first | omega | (simp; done) | (simp; omega)))))
  have hN : Blk W0 w.heap.size 43 #[.int .i64 x0, .int .i64 x1, .int .i64 x2] := by rw [hW0]; exact (Blk.new w _ _).alloc _
  have hM : Blk W0 (w.heap.size + 1) 46 #[.string a0, .int .i64 n0, .string a1, .int .i64 n1] := by rw [hW0]; simpa using Blk.new (w.alloc (.cells #[.int .i64 x0, .int .i64 x1, .int .i64 x2] 43)) 46 #[.string a0, .int .i64 n0, .string a1, .int .i64 n1]
  have HF := hide (few_any (c := c) (hl.outs (Outs.of_below (R := fun _ => False) hbW) (fun i h => h.elim)) (by omega) 20)
  rw [hf] at HF
  have HT := hide hT
  have HHd := hide hH
  have HL := hide hl
  have Hls := hide hls
  have HN := hide hN
  have HM := hide hM
  have hml := makes_len l
  have Hfine := hide (makes_fine hls)
  have i1 : ¬ (200 : Int) < a0.size := by omega
  have i2 : ¬ (200 : Int) < a1.size := by omega
  clear hT hH hl hls hf hM hN
  go_enter Tryz.func4, Tryz.ntmps4
  go_upto_region 1 with fail
  rw [← hW0]
  clear hW0
  obtain ⟨q0, q1, q2, q3⟩ := nm4 HM.out
  go_wp2_with (first
    | (go_at_call 6; refine HF.out.mono ?_; rintro e w1 ⟨rfl, rfl⟩)
    | fail)
  refine (new_any w1).mono ?_
  rintro e w3 ⟨g, S, rfl, hA1, hb3⟩
  have hU : Use w1.heap.size w3 g [] S := use_new2 (HT.out.below hbW) (Below.refl _ _) hA1 hb3
  have hMk := hide (makes_any (c := c) hU ((HL.out.outs (Outs.of_below (R := fun _ => False) (hbW.trans (hb3.mono hbW.size))) (fun i h => h.elim)).mono hbW.size) (by omega) Hls.out (by simp; omega))
  have HU := hide hU
  clear hU hA1 HL q0 q1 q2 q3 HF
  go_wp2_with fail
  refine hMk.out.mono ?_
  rintro e w4 ⟨T4, S4, v1, v2, rfl, hmd, hpre4, hT4, hA4, hG4⟩
  obtain ⟨A1, c1, hv1⟩ := own_sl hmd.ids.choose_spec.1
  obtain ⟨A2, c2, hv2⟩ := own_sl hmd.txs
  rw [hml] at hv1 hv2
  subst hv1 hv2
  have hT5 : T4.length ≤ 20 := by simp at hT4; omega
  have HE := hide (aps_new HU.out hb3 hmd hA4 hG4 (by omega))
  clear hmd hpre4 hT4 hA4 hG4 hb3 hMk HU
  go_upto_region 5 with fail
  generalize w4.alloc (.cells #[.slice A1 l.length c1, .slice A2 l.length c2] 34) = w5 at HE ⊢
  generalize w4.heap.size = b7 at HE ⊢
  generalize w3.heap.size = B0 at HE ⊢
  obtain ⟨q0, q1, q2⟩ := in3 (HN.out.below HE.out.fr.bel HN.out.lt)
  have HP := hide (pick_any HE.out.mdo.md x0 (by omega))
  have hq := HE.out.blk
  have m0 : w5.cell? ⟨b7, 0, none⟩ = some (.slice A1 l.length c1) := hq.cell 0
  have m1 : w5.cell? ⟨b7, 1, none⟩ = some (.slice A2 l.length c2) := hq.cell 1
  clear hq
  go_wp2_with fail
  refine HP.out.mono ?_
  rintro e w6 ⟨nk, rfl, hid6, hb6⟩
  have Hk := hide hid6
  have HE6 := hide (HE.out.below hb6)
  clear q0 q1 q2 m0 m1 HP HE hb6 hid6
  obtain ⟨q0, q1, q2⟩ := in3 (HN.out.below HE6.out.fr.bel HN.out.lt)
  have HP := hide (pick_any HE6.out.mdo.md x1 (by omega))
  have hq := HE6.out.blk
  have m0 : w6.cell? ⟨b7, 0, none⟩ = some (.slice A1 l.length c1) := hq.cell 0
  have m1 : w6.cell? ⟨b7, 1, none⟩ = some (.slice A2 l.length c2) := hq.cell 1
  clear hq
  go_wp2_with fail
  refine HP.out.mono ?_
  rintro e w7 ⟨ns, rfl, hid7, hb7⟩
  have Hs := hide hid7
  have HE7 := hide (HE6.out.below hb7)
  clear q0 q1 q2 m0 m1 HP HE6 hb7 hid7
  obtain ⟨q0, q1, q2⟩ := in3 (HN.out.below HE7.out.fr.bel HN.out.lt)
  have HP := hide (pick_any HE7.out.mdo.md x2 (by omega))
  have hq := HE7.out.blk
  have m0 : w7.cell? ⟨b7, 0, none⟩ = some (.slice A1 l.length c1) := hq.cell 0
  have m1 : w7.cell? ⟨b7, 1, none⟩ = some (.slice A2 l.length c2) := hq.cell 1
  clear hq
  go_wp2_with fail
  refine HP.out.mono ?_
  rintro e w8 ⟨nh, rfl, hid8, hb8⟩
  have Hh := hide hid8
  have HE8 := hide (HE7.out.below hb8)
  clear q0 q1 q2 m0 m1 HP HE7 hb8 hid8
  have Fk := hide (pickO_fine Hfine.out x0)
  have Fs := hide (pickO_fine Hfine.out x1)
  have Fh := hide (pickO_fine Hfine.out x2)
  generalize pickO (makes l) x0 = ok at Hk Fk ⊢
  generalize pickO (makes l) x1 = os at Hs Fs ⊢
  generalize pickO (makes l) x2 = oh at Hh Fh ⊢
  have HHo := hide (fun (W : World) (T' : List Tm) (S' : Nat → Prop) (hU : Use w1.heap.size W g T' S') (hp : T4 <+: T') (hl' : T'.length ≤ 1000) => host_any hU (alg := a0) (by omega) n0 (Hh.out.pre hp) (by omega))
  have HRo := hide (fun W => rHost22_any a0 (by omega) n0 Fh.out W)
  have Fo := hide (tSign_fine (alg := a0) (tKey_fine n0) Fh.out)
  generalize tSign a0 (tKey n0) oh = own at HHo HRo Fo
  go_upto_region 8 with fail
  go_cut [15, 16] (fun v15 v16 wc => OwnS w1 B0 w1.heap.size g (makes l) (.slice A1 l.length c1) (.slice A2 l.length c2) b7 T4 22 own v15 v16 wc)
  case first =>
    as_aux_lemma =>
      have hdr : Below w8.heap.size w8 w8.drew := (Below.refl _ _).drew
      have hE := HE8.out.below hdr
      have hpc : T4 <+: T4 := List.prefix_refl _
      clear HE8
      go_region_held3 (fun W => W.cell? ⟨w.heap.size + 1, 0, none⟩ = some (.string a0) ∧ W.cell? ⟨w.heap.size + 1, 1, none⟩ = some (.int .i64 n0))
        (exact nm2 (HM.out.below hE.fr.bel HM.out.lt))
        (first
          | (go_at_call 13; (with_reducible refine (HHo.out _ _ _ hE.fr.use hpc (by omega)).mono ?_); (rintro e x3 ⟨T7, n7, S7, rfl, hi7, hp7, hl7, hA7, hG7⟩); (have hE2 := hE.grown hG7 hA7 hp7 (by omega)); clear hE; (have hE := hE2); clear hE2)
          | (go_at_call 15; (with_reducible refine (HRo.out _).mono ?_); (rintro e x4 ⟨rfl, hb4⟩); (have hE2 := hE.below hb4); clear hE; (have hE := hE2); clear hE2)
          | fail)
      all_goals go_wp2_with fail
      all_goals go_meet
      all_goals exact ⟨_, _, _, rfl, rfl, hE, hi7, hp7, by omega⟩
  case rest =>
    obtain ⟨wx, rfl⟩ : ∃ wx : World, wx = wc := ⟨wc, rfl⟩
    obtain ⟨T5, S5, no, rfl, rfl, hE, hio, hp5, hl5⟩ := hcut
    clear HHo HRo HE8
    have HEn := hide (encode_any hE.fr.use.ar no)
    rw [hio.1] at HEn
    have HE := hide hE
    have Ho := hide hio
    have Hp5 := hide hp5
    have hsn : ((bs (txt own)).toList != (bs (txt own)).toList) = false := bne_self_eq_false _
    clear hE hio hp5
    go_wp2_with fail
    refine HEn.out.mono ?_
    rintro e w9 ⟨rfl, hb9⟩
    have HE9 := hide (HE.out.below hb9)
    clear HEn HE hb9
    go_wp2_with fail
    go_loopw [17] (fun vi wr => ∃ (i : Nat) (T : List Tm) (S : Nat → Prop), vi = .int .i64 i ∧ i ≤ 2 ∧ ApS w1 B0 w1.heap.size g T S (makes l) (.slice A1 l.length c1) (.slice A2 l.length c2) b7 wr ∧ T5 <+: T ∧ T.length ≤ 22 + i * 100) (fun vi _ => 2 - (intOf vi).toNat)
    case atStart => exact ⟨0, T5, S5, rfl, by omega, HE9.out, List.prefix_refl _, by omega⟩
    case round =>
      obtain ⟨i, T, S, rfl, hi, hE, hpre, hlen⟩ := hrel
      by_cases h2 : i < 2
      · have hii : (i : Int) < 2 := by omega
        have hsz := HM.out.lt
        obtain ⟨alg, who, C0, C1, hal⟩ : ∃ (alg : ByteArray) (who : Int), w1.cell? ⟨w.heap.size + 1, i * 2, none⟩ = some (.string alg) ∧ w1.cell? ⟨w.heap.size + 1, i * 2 + 1, none⟩ = some (.int .i64 who) ∧ alg.size ≤ 200 := by
          obtain ⟨q0, q1, q2, q3⟩ := nm4 HM.out
          obtain rfl | rfl : i = 0 ∨ i = 1 := by omega
          · exact ⟨a0, n0, q0, q1, ha0⟩
          · exact ⟨a1, n1, q2, q3, ha1⟩
        have K0 := hide (fun (W : World) (hb : Below w1.heap.size w1 W) => (hb.cell (p := ⟨w.heap.size + 1, i * 2, none⟩) hsz).trans C0)
        have K1 := hide (fun (W : World) (hb : Below w1.heap.size w1 W) => (hb.cell (p := ⟨w.heap.size + 1, i * 2 + 1, none⟩) hsz).trans C1)
        have HKe := hide (fun (W : World) (T' : List Tm) (S' : Nat → Prop) (hU : Use w1.heap.size W g T' S') => aKey_any hU who)
        have HPu := hide (fun (W : World) (T' : List Tm) (S' : Nat → Prop) (n : Int) (hU : Use w1.heap.size W g T' S') (hi : Idn T' (tKey who) n) => (show Calls Tryz.prog 17 #[.pointer (some ⟨g, 0, none⟩), .int .i64 n] W (Done w1.heap.size W g T' S' (tPub (tKey who))) from hi.1 ▸ aPub_any hU n))
        have HRP := hide (fun W => rPub22_any who W)
        have Fp := hide (tPub_fine (tKey_fine who))
        have HE := hide hE
        have Hpre := hide hpre
        clear C0 C1 hE hpre HE9
        go_upto_region 14 with fail
        go_cut [18, 19] (fun v18 v19 wc => OwnS w1 B0 w1.heap.size g (makes l) (.slice A1 l.length c1) (.slice A2 l.length c2) b7 T (24 + i * 100) (tPub (tKey who)) v18 v19 wc)
        case first =>
          as_aux_lemma =>
            have hdr : Below wr.heap.size wr wr.drew := (Below.refl _ _).drew
            have hE := HE.out.below hdr
            have hpc : T <+: T := List.prefix_refl _
            clear HE
            go_region_held3 (fun W => W.cell? ⟨w.heap.size + 1, i * 2 + 1, none⟩ = some (.int .i64 who))
              (exact K1.out _ hE.fr.bel)
              (first
                | (go_at_call 18; (with_reducible refine (HKe.out _ _ _ hE.fr.use).mono ?_); (rintro e x3 ⟨T7, n7, S7, rfl, hp7, hA7, hG7⟩); (have hE2 := hE.grown hG7 hA7 hp7.pre (by have := hp7.len; omega)); clear hE; (have hE := hE2); clear hE2)
                | (go_at_call 17; (with_reducible refine (HPu.out _ _ _ _ hE.fr.use hp7.idn).mono ?_); (rintro e x5 ⟨T8, n8, S8, rfl, hp8, hA8, hG8⟩); (have hE2 := hE.grown hG8 hA8 hp8.pre (by have := hp7.len; have := hp8.len; omega)); clear hE; (have hE := hE2); clear hE2)
                | (go_at_call 19; (with_reducible refine (HRP.out _).mono ?_); (rintro e x4 ⟨rfl, hb4⟩); (have hE2 := hE.below hb4); clear hE; (have hE := hE2); clear hE2)
                | fail)
            all_goals go_wp2_with fail
            all_goals go_meet
            all_goals exact ⟨_, _, _, rfl, rfl, hE, hp8.idn, hp7.pre.trans hp8.pre, by have := hp7.len; have := hp8.len; omega⟩
        case rest =>
          obtain ⟨wy, rfl⟩ : ∃ wy : World, wy = wc := ⟨wc, rfl⟩
          obtain ⟨Tp, Sp, np, rfl, rfl, hE, hip, hpp, hlp⟩ := hcut
          clear HKe HPu HRP HE
          have hq0 := Hp5.out.trans (Hpre.out.trans hpp)
          have Jk := hide (Hk.out.pre hq0)
          have Js := hide (Hs.out.pre hq0)
          have Jh := hide (Hh.out.pre hq0)
          have Jo := hide (Ho.out.pre (Hpre.out.trans hpp))
          have Jp := hide hip
          have HE := hide hE
          have Hpc := hide (List.prefix_refl Tp)
          have Hqq := hide (Hpre.out.trans hpp)
          clear hq0 hip hE hpp
          have HC := hide (fun (W : World) (T' : List Tm) (S' : Nat → Prop) (hU : Use w1.heap.size W g T' S') (hp : Tp <+: T') (hl' : T'.length ≤ 1000) => checkHost_e hU (alg := alg) (by omega) who (Jk.out.pre hp) (Js.out.pre hp) (Jh.out.pre hp) (by omega))
          have HR := hide (fun W => rCheckHost_e alg (by omega) who Fk.out Fs.out Fh.out W)
          generalize chkS (ok = none ∨ ok ≠ tPub (tKey who)) (os = none ∨ os ≠ tSign alg (tKey who) oh) = s2 at HC HR
          have HTo := hide (fun (W : World) (S' : Nat → Prop) (v : Value) (hb : Below w1.heap.size w1 W) (he : ErrIs S' W hostB 9 s2 v) => (show Calls Tryz.prog 20 #[v, .int .i64 9, .string ⟨#[104, 111, 115, 116]⟩, .string s2] W (fun e w' => e = .returned (.bool true) ∧ Below W.heap.size W w') from toldE_any (HHd.out.below (hbW.trans (hb.mono hbW.size))) he (by decide)))
          go_upto_region 15 with fail
          go_cut [128] (fun v wc => TstS w1 B0 w1.heap.size g (makes l) (.slice A1 l.length c1) (.slice A2 l.length c2) b7 Tp (28 + i * 100) v wc)
          case first =>
            as_aux_lemma =>
              have hdr : Below wy.heap.size wy wy.drew := (Below.refl _ _).drew
              have hE := HE.out.below hdr
              have hpc := Hpc.out
              clear HE Hpc
              go_region_held3 (fun W => W.cell? ⟨w.heap.size + 1, i * 2, none⟩ = some (.string alg) ∧ W.cell? ⟨w.heap.size + 1, i * 2 + 1, none⟩ = some (.int .i64 who))
                (exact ⟨K0.out _ hE.fr.bel, K1.out _ hE.fr.bel⟩)
                (first
                  | (go_at_call 21; (with_reducible refine (HC.out _ _ _ hE.fr.use hpc (by omega)).mono ?_); (rintro e x3 ⟨T7, S7, v7, rfl, hp7, hl7, hA7, hG7, he7⟩); (have hE2 := hE.grown hG7 hA7 hp7 (by omega)); clear hE; (have hE := hE2); clear hE2)
                  | (go_at_call 22; (with_reducible refine (HR.out _).mono ?_); (rintro e x4 ⟨rfl, hb4⟩); (have hE2 := hE.below hb4); clear hE; (have hE := hE2); clear hE2; (try ((have he8 := he7.below hb4); clear he7; (have he7 := he8); clear he8)))
                  | (go_at_call 20; (with_reducible refine (HTo.out _ _ _ hE.fr.bel he7).mono ?_); (rintro e x5 ⟨rfl, hb5⟩); (have hE2 := hE.below hb5); clear hE; (have hE := hE2); clear hE2)
                  | fail)
              all_goals go_wp2_with fail
              all_goals go_meet
              all_goals exact ⟨rfl, _, _, hE, hpc.trans hp7, by omega⟩
          case rest =>
            obtain ⟨wz, rfl⟩ : ∃ wz : World, wz = wc := ⟨wc, rfl⟩
            obtain ⟨rfl, Ta, Sa, hE, hpd, hla⟩ := hcut
            clear HC HR HTo HE Hpc
            have HE := hide hE
            have Hpc := hide hpd
            clear hE hpd
            have HC := hide (fun (W : World) (T' : List Tm) (S' : Nat → Prop) (hU : Use w1.heap.size W g T' S') (hp : Tp <+: T') (hl' : T'.length ≤ 1000) => checkHost_e hU (alg := alg) (by omega) who (Jp.out.pre hp) (Jo.out.pre hp) (Jh.out.pre hp) (by omega))
            have HR := hide (fun W => rCheckHost_e alg (by omega) who Fp.out Fo.out Fh.out W)
            generalize chkS (tPub (tKey who) = none ∨ tPub (tKey who) ≠ tPub (tKey who)) (own = none ∨ own ≠ tSign alg (tKey who) oh) = s2 at HC HR
            have HTo := hide (fun (W : World) (S' : Nat → Prop) (v : Value) (hb : Below w1.heap.size w1 W) (he : ErrIs S' W hostB 9 s2 v) => (show Calls Tryz.prog 20 #[v, .int .i64 9, .string ⟨#[104, 111, 115, 116]⟩, .string s2] W (fun e w' => e = .returned (.bool true) ∧ Below W.heap.size W w') from toldE_any (HHd.out.below (hbW.trans (hb.mono hbW.size))) he (by decide)))
            go_upto_region 17 with fail
            go_cut [155] (fun v wc => TstS w1 B0 w1.heap.size g (makes l) (.slice A1 l.length c1) (.slice A2 l.length c2) b7 Tp (32 + i * 100) v wc)
            case first =>
              as_aux_lemma =>
                have hdr : Below wz.heap.size wz wz.drew := (Below.refl _ _).drew
                have hE := HE.out.below hdr
                have hpc := Hpc.out
                clear HE Hpc
                go_region_held3 (fun W => W.cell? ⟨w.heap.size + 1, i * 2, none⟩ = some (.string alg) ∧ W.cell? ⟨w.heap.size + 1, i * 2 + 1, none⟩ = some (.int .i64 who))
                  (exact ⟨K0.out _ hE.fr.bel, K1.out _ hE.fr.bel⟩)
                  (first
                    | (go_at_call 21; (with_reducible refine (HC.out _ _ _ hE.fr.use hpc (by omega)).mono ?_); (rintro e x3 ⟨T7, S7, v7, rfl, hp7, hl7, hA7, hG7, he7⟩); (have hE2 := hE.grown hG7 hA7 hp7 (by omega)); clear hE; (have hE := hE2); clear hE2)
                    | (go_at_call 22; (with_reducible refine (HR.out _).mono ?_); (rintro e x4 ⟨rfl, hb4⟩); (have hE2 := hE.below hb4); clear hE; (have hE := hE2); clear hE2; (try ((have he8 := he7.below hb4); clear he7; (have he7 := he8); clear he8)))
                    | (go_at_call 20; (with_reducible refine (HTo.out _ _ _ hE.fr.bel he7).mono ?_); (rintro e x5 ⟨rfl, hb5⟩); (have hE2 := hE.below hb5); clear hE; (have hE := hE2); clear hE2)
                    | fail)
                all_goals go_wp2_with fail
                all_goals go_meet
                all_goals exact ⟨rfl, _, _, hE, hpc.trans hp7, by omega⟩
            case rest =>
              obtain ⟨wt, rfl⟩ : ∃ wt : World, wt = wc := ⟨wc, rfl⟩
              obtain ⟨rfl, Tb, Sb, hE, hpd, hlb⟩ := hcut
              clear HC HR HTo HE Hpc
              have HE := hide hE
              have Hpc := hide hpd
              clear hE hpd
              go_wp2_with fail
              exact ⟨⟨i + 1, Tb, Sb, by go_num, by omega, HE.out, Hqq.out.trans Hpc.out, by omega⟩, by simp [intOf]; omega⟩
      · obtain rfl : i = 2 := by omega
        have HAW := hide (fun (W : World) (hb : Below w1.heap.size w1 W) => awake22_any (HT.out.below (hbW.trans (hb.mono hbW.size))) (HHd.out.below (hbW.trans (hb.mono hbW.size))))
        have hbw := hE.fr.bel
        clear hE HE9
        go_wp2_with fail
        refine (HAW.out _ hbw).mono ?_
        rintro e w12 ⟨rfl, hb12⟩
        go_wp2_with fail
        go_ret
        exact ⟨rfl, hbW.trans ((hbw.trans (hb12.mono hbw.size)).mono hbW.size)⟩
end
end Go.Proofs.YtephdodkijanmaaGreatDoor
