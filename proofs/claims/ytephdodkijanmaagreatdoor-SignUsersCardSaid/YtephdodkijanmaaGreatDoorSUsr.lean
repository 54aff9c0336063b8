/-
  SignUsers' walk. Conditions: few makes, few bytes; the library's table and handle are as they were laid.
-/
import Derived.Test.YtephdodkijanmaaGreatDoorSignC
import Derived.Test.YtephdodkijanmaaGreatDoorSApt
set_option linter.unusedVariables false
set_option linter.unusedSimpArgs false
namespace Go.Proofs.YtephdodkijanmaaGreatDoor
open Go.RowKit Go.ChangeShapes Go.WideShapes Go.Sort
theorem ask14 {w : World} {b : Nat} {t : TypeId} {x y : AskP} (h : Blk w b t #[.int .i64 x.ses, .string x.user, .string x.svc, .string x.alg, .int .i64 x.who, .int .i64 y.ses, .string y.user, .string y.svc, .string y.alg, .int .i64 y.who]) : w.cell? ⟨b, 1, none⟩ = some (.string x.user) ∧ w.cell? ⟨b, 2, none⟩ = some (.string x.svc) ∧ w.cell? ⟨b, 3, none⟩ = some (.string x.alg) ∧ w.cell? ⟨b, 4, none⟩ = some (.int .i64 x.who) := ⟨h.cell 1, h.cell 2, h.cell 3, h.cell 4⟩
theorem in2 {w : World} {b : Nat} {t : TypeId} {x0 x1 : Int} (h : Blk w b t #[.int .i64 x0, .int .i64 x1]) : w.cell? ⟨b, 0, none⟩ = some (.int .i64 x0) ∧ w.cell? ⟨b, 1, none⟩ = some (.int .i64 x1) := ⟨h.cell 0, h.cell 1⟩
/-- A term of the arena beside its text. -/
def OwnU (w : World) (B0 B g : Nat) (ms : List (Option Tm)) (v1 v2 : Value) (b7 : Nat) (T0 : List Tm) (m : Nat) (o : Option Tm) (vi vs : Value) (W : World) : Prop :=
  ∃ T S n, vi = .int .i64 n ∧ vs = .string (bs (txt o)) ∧ ApS w B0 B g T S ms v1 v2 b7 W ∧ Idn T o n ∧ T0 <+: T ∧ T.length ≤ m
/-- A test that was passed. -/
def TstU (w : World) (B0 B g : Nat) (ms : List (Option Tm)) (v1 v2 : Value) (b7 : Nat) (T0 : List Tm) (m : Nat) (v : Value) (W : World) : Prop :=
  v = .bool false ∧ ∃ T S, ApS w B0 B g T S ms v1 v2 b7 W ∧ T0 <+: T ∧ T.length ≤ m
/-- An Ask's cells. -/
def askC (z : AskP) : Array Value := #[.int .i64 z.ses, .string z.user, .string z.svc, .string z.alg, .int .i64 z.who]
/-- A block of the call's own beside an arena and what was made. -/
structure ApZ (w : World) (B0 B g : Nat) (T : List Tm) (S : Nat → Prop) (ms : List (Option Tm)) (v1 v2 : Value) (b7 bz : Nat) (z : AskP) (W : World) : Prop where
  aps : ApS w B0 B g T S ms v1 v2 b7 W
  zb : Blk W bz 24 (askC z)
  zn : ¬ S bz
section
variable {B0 B g b7 bz : Nat} {w W W' : World} {T T' : List Tm} {S S' : Nat → Prop} {ms : List (Option Tm)} {v1 v2 : Value} {z : AskP}
theorem ApZ.below (h : ApZ w B0 B g T S ms v1 v2 b7 bz z W) (hb : Below W.heap.size W W') : ApZ w B0 B g T S ms v1 v2 b7 bz z W' := ⟨h.aps.below hb, h.zb.below hb h.zb.lt, h.zn⟩
theorem ApZ.grown (h : ApZ w B0 B g T S ms v1 v2 b7 bz z W) (hG : Grown S W S' W') (hA : Ar B W' g T' S') (hp : T <+: T') (hf : T'.length ≤ 1000000000) : ApZ w B0 B g T' S' ms v1 v2 b7 bz z W' :=
  ⟨h.aps.grown hG hA hp hf, hG.outs.blk h.zb h.zn, hG.notin2 h.zn h.zb.lt⟩
theorem ApZ.cell4 (h : ApZ w B0 B g T S ms v1 v2 b7 bz z W) : W.cell? ⟨bz, 4, none⟩ = some (.int .i64 z.who) := h.zb.cell 4
theorem ApZ.cell0 (h : ApZ w B0 B g T S ms v1 v2 b7 bz z W) : W.cell? ⟨bz, 0, none⟩ = some (.int .i64 z.ses) := h.zb.cell 0
theorem ApZ.cell3 (h : ApZ w B0 B g T S ms v1 v2 b7 bz z W) : W.cell? ⟨bz, 1, none⟩ = some (.string z.user) ∧ W.cell? ⟨bz, 2, none⟩ = some (.string z.svc) ∧ W.cell? ⟨bz, 3, none⟩ = some (.string z.alg) := ⟨h.zb.cell 1, h.zb.cell 2, h.zb.cell 3⟩
theorem apz_new (h : ApS w B0 B g T S ms v1 v2 b7 W) (z : AskP) : ApZ w B0 B g T S ms v1 v2 b7 W.heap.size z (W.alloc (.cells (askC z) 24)) :=
  ⟨h.below (bel_new _), Blk.new _ _ _, fun hc => by have := h.fr.use.ar.sL _ hc; omega⟩
end
/-- A term of the arena beside its text, and a block of the call's own. -/
def OwnZ (w : World) (B0 B g : Nat) (ms : List (Option Tm)) (v1 v2 : Value) (b7 bz : Nat) (z : AskP) (T0 : List Tm) (m : Nat) (o : Option Tm) (vi vs : Value) (W : World) : Prop :=
  ∃ T S n, vi = .int .i64 n ∧ vs = .string (bs (txt o)) ∧ ApZ w B0 B g T S ms v1 v2 b7 bz z W ∧ Idn T o n ∧ T0 <+: T ∧ T.length ≤ m
def TstZ (w : World) (B0 B g : Nat) (ms : List (Option Tm)) (v1 v2 : Value) (b7 bz : Nat) (z : AskP) (T0 : List Tm) (m : Nat) (v : Value) (W : World) : Prop :=
  v = .bool false ∧ ∃ T S, ApZ w B0 B g T S ms v1 v2 b7 bz z W ∧ T0 <+: T ∧ T.length ≤ m
section
variable {w : World}
set_option maxHeartbeats 16000000 in
set_option maxRecDepth 100000 in
theorem susr_any (hT : Tab w) (hH : Hand w) {A : Option Addr} {c : Nat} {l : List Mk} (hl : Mks w.heap.size w A l) (hf : fewB l 20 = true) (hll : l.length ≤ 20) (hls : ∀ x ∈ l, x.s.size ≤ 1000000) (x0 x1 : Int) (x y : AskP) (hx : fewA x = true) (hy : fewA y = true) :
    Calls Tryz.prog 5 #[.slice A l.length c, .agg #[.int .i64 x0, .int .i64 x1], ask2V x y] w (fun e w' => e = .returned (.bool true) ∧ Below w.heap.size w w') := by
  unfold ask2V
  obtain ⟨W0, hW0⟩ : ∃ W0, W0 = (w.alloc (.cells #[.int .i64 x0, .int .i64 x1] 58)).alloc (.cells #[.int .i64 x.ses, .string x.user, .string x.svc, .string x.alg, .int .i64 x.who, .int .i64 y.ses, .string y.user, .string y.svc, .string y.alg, .int .i64 y.who] 25) := ⟨_, rfl⟩
  have hbW : Below w.heap.size w W0 := by rw [hW0]; (repeat (first | exact Below.refl _ _ | refine below_drewN ?_ _ | refine Below.drew ?_ | refine Below.alloc ?_ (by first | omega | (simp; done) | (simp; omega)) _ | refine Below.setCell ?_ (by first | omega | (simp; done) | (simp; omega)) _ | refine bel_alloc ?_ _ | refine bel_trans ?_ (by assumption) | refine Below.trans ?_ (Below.mono (by assumption) (by first | omega | (simp; done) | (simp; omega)))))
  have hN : Blk W0 w.heap.size 58 #[.int .i64 x0, .int .i64 x1] := by rw [hW0]; exact (Blk.new w _ _).alloc _
  have hM : Blk W0 (w.heap.size + 1) 25 #[.int .i64 x.ses, .string x.user, .string x.svc, .string x.alg, .int .i64 x.who, .int .i64 y.ses, .string y.user, .string y.svc, .string y.alg, .int .i64 y.who] := by rw [hW0]; simpa using Blk.new (w.alloc (.cells #[.int .i64 x0, .int .i64 x1] 58)) 25 #[.int .i64 x.ses, .string x.user, .string x.svc, .string x.alg, .int .i64 x.who, .int .i64 y.ses, .string y.user, .string y.svc, .string y.alg, .int .i64 y.who]
  have HF := hide (few_any (c := c) (hl.outs (Outs.of_below (R := fun _ => False) hbW) (fun i h => h.elim)) (by omega) 20)
  rw [hf] at HF
  have hx2 := hx
  have hy2 := hy
  simp only [fewA, Bool.and_eq_true, decide_eq_true_eq] at hx2 hy2
  have HX := hide (fun W => few22_any x W (by omega) (by omega) (by omega))
  have HY := hide (fun W => few22_any y W (by omega) (by omega) (by omega))
  rw [hx] at HX
  rw [hy] at HY
  have HT := hide hT
  have HHd := hide hH
  have HL := hide hl
  have Hls := hide hls
  have HN0 := hide hN
  have HM := hide hM
  have HS2 := hide (And.intro hx2 hy2)
  have hml := makes_len l
  have Hfine := hide (makes_fine hls)
  clear hT hH hl hls hf hx hy hx2 hy2 hM hN
  go_enter Tryz.func5, Tryz.ntmps5
  go_upto_region 1 with fail
  rw [← hW0]
  clear hW0
  obtain ⟨q0, q1, q2, q3, q4, q5, q6, q7, q8, q9⟩ := ask10 HM.out
  go_wp2_with (first
    | (go_at_call 6; refine HF.out.mono ?_; rintro e w1 ⟨rfl, rfl⟩)
    | fail)
  refine (HX.out w1).mono ?_
  rintro e w2 ⟨rfl, hb2⟩
  have hM2 := HM.out.below hb2 HM.out.lt
  have hbw2 := hbW.trans (hb2.mono hbW.size)
  have HN2 := hide (HN0.out.below hb2 HN0.out.lt)
  clear q0 q1 q2 q3 q4 q5 q6 q7 q8 q9
  obtain ⟨q0, q1, q2, q3, q4, q5, q6, q7, q8, q9⟩ := ask10 hM2
  go_wp2_with fail
  refine (HY.out w2).mono ?_
  rintro e w3 ⟨rfl, hb3⟩
  have hM3 := hM2.below hb3 hM2.lt
  have hbw3 := hbw2.trans (hb3.mono hbw2.size)
  have HN := hide (HN2.out.below hb3 HN2.out.lt)
  clear q0 q1 q2 q3 q4 q5 q6 q7 q8 q9 hM2 HX HY HF HM HN2 HN0
  obtain ⟨q0, q1, q2, q3, q4, q5, q6, q7, q8, q9⟩ := ask10 hM3
  go_wp2_with fail
  clear q0 q1 q2 q3 q4 q5 q6 q7 q8 q9
  refine (new_any w3).mono ?_
  rintro e w4 ⟨g, S, rfl, hA1, hb4⟩
  have hU : Use w3.heap.size w4 g [] S := use_new2 (HT.out.below hbw3) (Below.refl _ _) hA1 hb4
  have hMk := hide (makes_any (c := c) hU ((HL.out.outs (Outs.of_below (R := fun _ => False) (hbw3.trans (hb4.mono hbw3.size))) (fun i h => h.elim)).mono hbw3.size) (by omega) Hls.out (by simp; omega))
  have HU := hide hU
  have HM3 := hide hM3
  clear hU hA1 HL hM3
  go_wp2_with fail
  refine hMk.out.mono ?_
  rintro e w5 ⟨T4, S4, v1, v2, rfl, hmd, hpre4, hT4, hA4, hG4⟩
  obtain ⟨A1, c1, hv1⟩ := own_sl hmd.ids.choose_spec.1
  obtain ⟨A2, c2, hv2⟩ := own_sl hmd.txs
  rw [hml] at hv1 hv2
  subst hv1 hv2
  have hT5 : T4.length ≤ 20 := by simp at hT4; omega
  have HE := hide (aps_new HU.out hb4 hmd hA4 hG4 (by omega))
  clear hmd hpre4 hT4 hA4 hG4 hb4 hMk HU
  go_upto_region 5 with fail
  have hsz3 := HM3.out.lt
  generalize w5.alloc (.cells #[.slice A1 l.length c1, .slice A2 l.length c2] 34) = w6 at HE ⊢
  generalize w5.heap.size = b7 at HE ⊢
  generalize w4.heap.size = B0 at HE ⊢
  obtain ⟨q0, q1⟩ := in2 (HN.out.below HE.out.fr.bel HN.out.lt)
  have HP := hide (pick_any HE.out.mdo.md x0 (by omega))
  have hq := HE.out.blk
  have m0 : w6.cell? ⟨b7, 0, none⟩ = some (.slice A1 l.length c1) := hq.cell 0
  have m1 : w6.cell? ⟨b7, 1, none⟩ = some (.slice A2 l.length c2) := hq.cell 1
  clear hq
  go_wp2_with fail
  refine HP.out.mono ?_
  rintro e w7 ⟨nk, rfl, hid7, hb7⟩
  have Hk := hide hid7
  have HE7 := hide (HE.out.below hb7)
  clear q0 q1 m0 m1 HP HE hb7 hid7
  obtain ⟨q0, q1⟩ := in2 (HN.out.below HE7.out.fr.bel HN.out.lt)
  have HP := hide (pick_any HE7.out.mdo.md x1 (by omega))
  have hq := HE7.out.blk
  have m0 : w7.cell? ⟨b7, 0, none⟩ = some (.slice A1 l.length c1) := hq.cell 0
  have m1 : w7.cell? ⟨b7, 1, none⟩ = some (.slice A2 l.length c2) := hq.cell 1
  clear hq
  go_wp2_with fail
  refine HP.out.mono ?_
  rintro e w8 ⟨ns, rfl, hid8, hb8⟩
  have Hs := hide hid8
  have HE8 := hide (HE7.out.below hb8)
  clear q0 q1 m0 m1 HP HE7 hb8 hid8
  obtain ⟨q0, q1, q2, q3, q4, q5, q6, q7, q8, q9⟩ := ask10 (HM3.out.below HE8.out.fr.bel HM3.out.lt)
  have HP := hide (pick_any HE8.out.mdo.md x.ses (by omega))
  have hq := HE8.out.blk
  have m0 : w8.cell? ⟨b7, 0, none⟩ = some (.slice A1 l.length c1) := hq.cell 0
  have m1 : w8.cell? ⟨b7, 1, none⟩ = some (.slice A2 l.length c2) := hq.cell 1
  clear hq
  go_wp2_with fail
  refine HP.out.mono ?_
  rintro e w9 ⟨nt, rfl, hid9, hb9⟩
  have Ht := hide hid9
  have HE9 := hide (HE8.out.below hb9)
  clear q0 q1 q2 q3 q4 q5 q6 q7 q8 q9 m0 m1 HP HE8 hb9 hid9
  have Fk := hide (pickO_fine Hfine.out x0)
  have Fs := hide (pickO_fine Hfine.out x1)
  have Ft := hide (pickO_fine Hfine.out x.ses)
  generalize pickO (makes l) x0 = ok at Hk Fk ⊢
  generalize pickO (makes l) x1 = os at Hs Fs ⊢
  generalize pickO (makes l) x.ses = ot at Ht Ft ⊢
  have hS := HS2.out
  have HHo := hide (fun (W : World) (T' : List Tm) (S' : Nat → Prop) (hU : Use w3.heap.size W g T' S') (hp : T4 <+: T') (hl' : T'.length ≤ 1000) => user_any hU (Ht.out.pre hp) (user := x.user) (service := x.svc) (alg := x.alg) (by omega) (by omega) (by omega) x.who (by omega))
  have HRo := hide (fun W => rUser_any Ft.out (user := x.user) (service := x.svc) (alg := x.alg) (by omega) (by omega) (by omega) x.who W)
  have Fo := hide (userO_fine Ft.out (user := x.user) (service := x.svc) (alg := x.alg) (by omega) (by omega) (by omega) x.who)
  have HRq := hide (fun (W : World) (T' : List Tm) (S' : Nat → Prop) (hU : Use w3.heap.size W g T' S') (hp : T4 <+: T') (hl' : T'.length ≤ 1000) => request_any hU (Ht.out.pre hp) (Hk.out.pre hp) (user := x.user) (service := x.svc) (alg := x.alg) (by omega) (by omega) (by omega) (by omega))
  have HRr := hide (fun W => rRequest_any Ft.out Fk.out (user := x.user) (service := x.svc) (alg := x.alg) (by omega) (by omega) (by omega) W)
  clear hS
  generalize userO ot x.user x.svc x.alg x.who = own at HHo HRo Fo
  generalize reqO ot x.user x.svc x.alg ok = req at HRq HRr
  go_upto_region 8 with fail
  go_cut [15, 16] (fun v15 v16 wc => OwnU w3 B0 w3.heap.size g (makes l) (.slice A1 l.length c1) (.slice A2 l.length c2) b7 T4 31 own v15 v16 wc)
  case first =>
    as_aux_lemma =>
      have hdr : Below w9.heap.size w9 w9.drew := (Below.refl _ _).drew
      have hE := HE9.out.below hdr
      have hpc : T4 <+: T4 := List.prefix_refl _
      clear HE9
      go_region_held3 (fun W => W.cell? ⟨w.heap.size + 1, 1, none⟩ = some (.string x.user) ∧ W.cell? ⟨w.heap.size + 1, 2, none⟩ = some (.string x.svc) ∧ W.cell? ⟨w.heap.size + 1, 3, none⟩ = some (.string x.alg) ∧ W.cell? ⟨w.heap.size + 1, 4, none⟩ = some (.int .i64 x.who))
        (exact ask14 (HM3.out.below hE.fr.bel HM3.out.lt))
        (first
          | (go_at_call 12; (with_reducible refine (HHo.out _ _ _ hE.fr.use hpc (by omega)).mono ?_); (rintro e x3 ⟨T7, n7, S7, rfl, hi7, hp7, hl7, hA7, hG7⟩); (have hE2 := hE.grown hG7 hA7 hp7 (by omega)); clear hE; (have hE := hE2); clear hE2)
          | (go_at_call 23; (with_reducible refine (HRo.out _).mono ?_); (rintro e x4 ⟨rfl, hb4⟩); (have hE2 := hE.below hb4); clear hE; (have hE := hE2); clear hE2)
          | fail)
      all_goals go_wp2_with fail
      all_goals go_meet
      all_goals exact ⟨_, _, _, rfl, rfl, hE, hi7, hp7, by omega⟩
  case rest =>
    obtain ⟨wx, rfl⟩ : ∃ wx : World, wx = wc := ⟨wc, rfl⟩
    obtain ⟨T5, S5, no, rfl, rfl, hE, hio, hp5, hl5⟩ := hcut
    clear HHo HRo HE9
    have HE := hide hE
    have Ho := hide hio
    have Hp5 := hide hp5
    have HEn := hide (fun (W : World) (T' : List Tm) (S' : Nat → Prop) (o : Option Tm) (n : Int) (hU : Use w3.heap.size W g T' S') (hi : Idn T' o n) => (show Calls Tryz.prog 16 #[.pointer (some ⟨g, 0, none⟩), .int .i64 n] W (Says (txt o) W) from hi.1 ▸ encode_any hU.ar n))
    have hsn : ((bs (txt own)).toList != (bs (txt own)).toList) = false := bne_self_eq_false _
    have hsr : ((bs (txt req)).toList != (bs (txt req)).toList) = false := bne_self_eq_false _
    clear hE hio hp5
    go_upto_region 9 with fail
    go_cut [128] (fun v wc => TstU w3 B0 w3.heap.size g (makes l) (.slice A1 l.length c1) (.slice A2 l.length c2) b7 T5 39 v wc)
    case first =>
      as_aux_lemma =>
        have hdr : Below wx.heap.size wx wx.drew := (Below.refl _ _).drew
        have hE := HE.out.below hdr
        have hpc : T4 <+: T5 := Hp5.out
        have hio := Ho.out
        clear HE
        go_region_held3 (fun W => W.cell? ⟨w.heap.size + 1, 1, none⟩ = some (.string x.user) ∧ W.cell? ⟨w.heap.size + 1, 2, none⟩ = some (.string x.svc) ∧ W.cell? ⟨w.heap.size + 1, 3, none⟩ = some (.string x.alg) ∧ W.cell? ⟨w.heap.size + 1, 4, none⟩ = some (.int .i64 x.who))
          (exact ask14 (HM3.out.below hE.fr.bel HM3.out.lt))
          (first
            | (go_at_call 16; (with_reducible refine (HEn.out _ _ _ _ _ hE.fr.use hio).mono ?_); (rintro e x3 ⟨rfl, hb3⟩); (have hE2 := hE.below hb3); clear hE; (have hE := hE2); clear hE2)
            | (go_at_call 24; (with_reducible refine (HRq.out _ _ _ hE.fr.use hpc (by omega)).mono ?_); (rintro e x5 ⟨T7, n7, S7, rfl, hi7, hp7, hl7, hA7, hG7⟩); (have hE2 := hE.grown hG7 hA7 hp7 (by omega)); clear hE; (have hE := hE2); clear hE2)
            | (go_at_call 16; (with_reducible refine (HEn.out _ _ _ _ _ hE.fr.use hi7).mono ?_); (rintro e x6 ⟨rfl, hb6⟩); (have hE2 := hE.below hb6); clear hE; (have hE := hE2); clear hE2)
            | (go_at_call 25; (with_reducible refine (HRr.out _).mono ?_); (rintro e x4 ⟨rfl, hb4⟩); (have hE2 := hE.below hb4); clear hE; (have hE := hE2); clear hE2)
            | fail)
        all_goals go_wp2_with fail
        all_goals go_meet
        all_goals exact ⟨rfl, _, _, hE, hp7, by omega⟩
    case rest =>
      obtain ⟨wu, rfl⟩ : ∃ wu : World, wu = wc := ⟨wc, rfl⟩
      obtain ⟨rfl, T6, S6, hE, hp6, hl6⟩ := hcut
      clear HRq HRr HEn HE
      have HE9 := hide hE
      have Hp6 := hide (Hp5.out.trans hp6)
      have Ho6 := hide (Ho.out.pre hp6)
      clear hE hp6 hsn hsr
      go_wp2_with fail
      go_loopw [17] (fun vi wr => ∃ (i : Nat) (T : List Tm) (S : Nat → Prop), vi = .int .i64 i ∧ i ≤ 2 ∧ ApS w3 B0 w3.heap.size g T S (makes l) (.slice A1 l.length c1) (.slice A2 l.length c2) b7 wr ∧ T6 <+: T ∧ T.length ≤ 40 + i * 100) (fun vi _ => 2 - (intOf vi).toNat)
      case atStart => exact ⟨0, T6, S6, rfl, by omega, HE9.out, List.prefix_refl _, by omega⟩
      case round =>
        obtain ⟨i, T, S, rfl, hi, hE, hpre, hlen⟩ := hrel
        by_cases h2 : i < 2
        · have hii : (i : Int) < 2 := by omega
          have hS := HS2.out
          obtain ⟨z, C0, C1, C2, C3, C4, hz1, hz2, hz3⟩ : ∃ z : AskP, w3.cell? ⟨w.heap.size + 1, i * 5, none⟩ = some (.int .i64 z.ses) ∧ w3.cell? ⟨w.heap.size + 1, i * 5 + 1, none⟩ = some (.string z.user) ∧ w3.cell? ⟨w.heap.size + 1, i * 5 + 2, none⟩ = some (.string z.svc) ∧ w3.cell? ⟨w.heap.size + 1, i * 5 + 3, none⟩ = some (.string z.alg) ∧ w3.cell? ⟨w.heap.size + 1, i * 5 + 4, none⟩ = some (.int .i64 z.who) ∧ z.user.size ≤ 1000000 ∧ z.svc.size ≤ 1000000 ∧ z.alg.size ≤ 1000000 := by
            obtain ⟨q0, q1, q2, q3, q4, q5, q6, q7, q8, q9⟩ := ask10 HM3.out
            obtain rfl | rfl : i = 0 ∨ i = 1 := by omega
            · exact ⟨x, q0, q1, q2, q3, q4, by omega, by omega, by omega⟩
            · exact ⟨y, q5, q6, q7, q8, q9, by omega, by omega, by omega⟩
          have hbE := hE.fr.bel
          have c0 := (hbE.cell (p := ⟨w.heap.size + 1, i * 5, none⟩) hsz3).trans C0
          have c1' := (hbE.cell (p := ⟨w.heap.size + 1, i * 5 + 1, none⟩) hsz3).trans C1
          have c2' := (hbE.cell (p := ⟨w.heap.size + 1, i * 5 + 2, none⟩) hsz3).trans C2
          have c3' := (hbE.cell (p := ⟨w.heap.size + 1, i * 5 + 3, none⟩) hsz3).trans C3
          have c4' := (hbE.cell (p := ⟨w.heap.size + 1, i * 5 + 4, none⟩) hsz3).trans C4
          have HZ := hide (apz_new hE z)
          have Hpre := hide hpre
          unfold askC at HZ
          clear C0 C1 C2 C3 C4 hE hpre HE9 hS hbE
          go_upto_region 15 with fail
          clear c0 c1' c2' c3' c4'
          generalize wr.alloc (.cells #[.int .i64 z.ses, .string z.user, .string z.svc, .string z.alg, .int .i64 z.who] 24) = wz at HZ ⊢
          generalize wr.heap.size = bz at HZ ⊢
          have HP := hide (pick_any HZ.out.aps.mdo.md z.ses (by omega))
          have hq := HZ.out.aps.blk
          have m0 : wz.cell? ⟨b7, 0, none⟩ = some (.slice A1 l.length c1) := hq.cell 0
          have m1 : wz.cell? ⟨b7, 1, none⟩ = some (.slice A2 l.length c2) := hq.cell 1
          have z0 := HZ.out.cell0
          clear hq
          go_upto_region 16 with (first
            | (refine HP.out.mono ?_; rintro e w14 ⟨nz, rfl, hidz, hbz⟩)
            | fail)
          have Hz := hide hidz
          have HZ4 := hide (HZ.out.below hbz)
          clear m0 m1 z0 HP HZ hbz hidz
          have Fz := hide (pickO_fine Hfine.out z.ses)
          generalize pickO (makes l) z.ses = oz at Hz Fz ⊢
          have HKe := hide (fun (W : World) (T' : List Tm) (S' : Nat → Prop) (hU : Use w3.heap.size W g T' S') => aKey_any hU z.who)
          have HPu := hide (fun (W : World) (T' : List Tm) (S' : Nat → Prop) (n : Int) (hU : Use w3.heap.size W g T' S') (hi : Idn T' (tKey z.who) n) => (show Calls Tryz.prog 17 #[.pointer (some ⟨g, 0, none⟩), .int .i64 n] W (Done w3.heap.size W g T' S' (tPub (tKey z.who))) from hi.1 ▸ aPub_any hU n))
          have HRP := hide (fun W => rPub22_any z.who W)
          have Fp := hide (tPub_fine (tKey_fine z.who))
          go_cut [21, 22] (fun v18 v19 wc => OwnZ w3 B0 w3.heap.size g (makes l) (.slice A1 l.length c1) (.slice A2 l.length c2) b7 bz z T (42 + i * 100) (tPub (tKey z.who)) v18 v19 wc)
          case first =>
            as_aux_lemma =>
              have hdr : Below w14.heap.size w14 w14.drew := (Below.refl _ _).drew
              have hE := HZ4.out.below hdr
              have hpc : T <+: T := List.prefix_refl _
              clear HZ4
              go_region_held3 (fun W => W.cell? ⟨bz, 4, none⟩ = some (.int .i64 z.who))
                (exact hE.cell4)
                (first
                  | (go_at_call 18; (with_reducible refine (HKe.out _ _ _ hE.aps.fr.use).mono ?_); (rintro e x3 ⟨T7, n7, S7, rfl, hp7, hA7, hG7⟩); (have hE2 := hE.grown hG7 hA7 hp7.pre (by have := hp7.len; omega)); clear hE; (have hE := hE2); clear hE2)
                  | (go_at_call 17; (with_reducible refine (HPu.out _ _ _ _ hE.aps.fr.use hp7.idn).mono ?_); (rintro e x5 ⟨T8, n8, S8, rfl, hp8, hA8, hG8⟩); (have hE2 := hE.grown hG8 hA8 hp8.pre (by have := hp7.len; have := hp8.len; omega)); clear hE; (have hE := hE2); clear hE2)
                  | (go_at_call 19; (with_reducible refine (HRP.out _).mono ?_); (rintro e x4 ⟨rfl, hb4⟩); (have hE2 := hE.below hb4); clear hE; (have hE := hE2); clear hE2)
                  | fail)
              all_goals go_wp2_with fail
              all_goals go_meet
              all_goals exact ⟨_, _, _, rfl, rfl, hE, hp8.idn, hp7.pre.trans hp8.pre, by have := hp7.len; have := hp8.len; omega⟩
          case rest =>
            obtain ⟨wy, rfl⟩ : ∃ wy : World, wy = wc := ⟨wc, rfl⟩
            obtain ⟨Tp, Sp, np, rfl, rfl, hE, hip, hpp, hlp⟩ := hcut
            clear HKe HPu HRP HZ4
            have hq0 := Hp6.out.trans (Hpre.out.trans hpp)
            have Jk := hide (Hk.out.pre hq0)
            have Js := hide (Hs.out.pre hq0)
            have Jz := hide (Hz.out.pre hpp)
            have Jo := hide (Ho6.out.pre (Hpre.out.trans hpp))
            have Jp := hide hip
            have HE := hide hE
            have Hpc := hide (List.prefix_refl Tp)
            have Hqq := hide (Hpre.out.trans hpp)
            clear hq0 hip hE hpp
            have HC := hide (fun (W : World) (T' : List Tm) (S' : Nat → Prop) (hU : Use w3.heap.size W g T' S') (hp : Tp <+: T') (hl' : T'.length ≤ 1000) => checkUser_any hU (Jz.out.pre hp) (Jk.out.pre hp) (Js.out.pre hp) hz1 hz2 hz3 (by omega))
            have HR := hide (fun W => rCheckUser_e Fz.out Fk.out Fs.out hz1 hz2 hz3 W)
            generalize chkS (isPb ok = false) (os = none ∨ os ≠ userO oz z.user z.svc z.alg (whoO ok)) = s2 at HC HR
            have HTo := hide (fun (W : World) (S' : Nat → Prop) (v : Value) (hb : Below w3.heap.size w3 W) (he : ErrIs S' W usrB 12 s2 v) => (show Calls Tryz.prog 20 #[v, .int .i64 12, .string ⟨#[117, 115, 101, 114]⟩, .string s2] W (fun e w' => e = .returned (.bool true) ∧ Below W.heap.size W w') from toldE_any (HHd.out.below (hbw3.trans (hb.mono hbw3.size))) he (by decide)))
            go_upto_region 17 with fail
            go_cut [174] (fun v wc => TstZ w3 B0 w3.heap.size g (makes l) (.slice A1 l.length c1) (.slice A2 l.length c2) b7 bz z Tp (60 + i * 100) v wc)
            case first =>
              as_aux_lemma =>
                have hdr : Below wy.heap.size wy wy.drew := (Below.refl _ _).drew
                have hE := HE.out.below hdr
                have hpc := Hpc.out
                clear HE Hpc
                go_region_held3 (fun W => W.cell? ⟨bz, 1, none⟩ = some (.string z.user) ∧ W.cell? ⟨bz, 2, none⟩ = some (.string z.svc) ∧ W.cell? ⟨bz, 3, none⟩ = some (.string z.alg))
                  (exact hE.cell3)
                  (first
                    | (go_at_call 26; (with_reducible refine (HC.out _ _ _ hE.aps.fr.use hpc (by omega)).mono ?_); (rintro e x3 ⟨T7, S7, v7, rfl, hp7, hl7, hA7, hG7, he7⟩); (have hE2 := hE.grown hG7 hA7 hp7 (by omega)); clear hE; (have hE := hE2); clear hE2)
                    | (go_at_call 27; (with_reducible refine (HR.out _).mono ?_); (rintro e x4 ⟨rfl, hb4⟩); (have hE2 := hE.below hb4); clear hE; (have hE := hE2); clear hE2; (try ((have he8 := he7.below hb4); clear he7; (have he7 := he8); clear he8)))
                    | (go_at_call 20; (with_reducible refine (HTo.out _ _ _ hE.aps.fr.bel he7).mono ?_); (rintro e x5 ⟨rfl, hb5⟩); (have hE2 := hE.below hb5); clear hE; (have hE := hE2); clear hE2)
                    | fail)
                all_goals go_wp2_with fail
                all_goals go_meet
                all_goals exact ⟨rfl, _, _, hE, hpc.trans hp7, by omega⟩
            case rest =>
              obtain ⟨wv, rfl⟩ : ∃ wv : World, wv = wc := ⟨wc, rfl⟩
              obtain ⟨rfl, Ta, Sa, hE, hpd, hla⟩ := hcut
              clear HC HR HTo HE Hpc
              have HE := hide hE
              have Hpc := hide hpd
              clear hE hpd
              have HC := hide (fun (W : World) (T' : List Tm) (S' : Nat → Prop) (hU : Use w3.heap.size W g T' S') (hp : Tp <+: T') (hl' : T'.length ≤ 1000) => checkUser_any hU (Jz.out.pre hp) (Jp.out.pre hp) (Jo.out.pre hp) hz1 hz2 hz3 (by omega))
              have HR := hide (fun W => rCheckUser_e Fz.out Fp.out Fo.out hz1 hz2 hz3 W)
              generalize chkS (isPb (tPub (tKey z.who)) = false) (own = none ∨ own ≠ userO oz z.user z.svc z.alg (whoO (tPub (tKey z.who)))) = s2 at HC HR
              have HTo := hide (fun (W : World) (S' : Nat → Prop) (v : Value) (hb : Below w3.heap.size w3 W) (he : ErrIs S' W usrB 12 s2 v) => (show Calls Tryz.prog 20 #[v, .int .i64 12, .string ⟨#[117, 115, 101, 114]⟩, .string s2] W (fun e w' => e = .returned (.bool true) ∧ Below W.heap.size W w') from toldE_any (HHd.out.below (hbw3.trans (hb.mono hbw3.size))) he (by decide)))
              go_upto_region 19 with fail
              go_cut [197] (fun v wc => TstZ w3 B0 w3.heap.size g (makes l) (.slice A1 l.length c1) (.slice A2 l.length c2) b7 bz z Tp (80 + i * 100) v wc)
              case first =>
                as_aux_lemma =>
                  have hdr : Below wv.heap.size wv wv.drew := (Below.refl _ _).drew
                  have hE := HE.out.below hdr
                  have hpc := Hpc.out
                  clear HE Hpc
                  go_region_held3 (fun W => W.cell? ⟨bz, 1, none⟩ = some (.string z.user) ∧ W.cell? ⟨bz, 2, none⟩ = some (.string z.svc) ∧ W.cell? ⟨bz, 3, none⟩ = some (.string z.alg))
                    (exact hE.cell3)
                    (first
                      | (go_at_call 26; (with_reducible refine (HC.out _ _ _ hE.aps.fr.use hpc (by omega)).mono ?_); (rintro e x3 ⟨T7, S7, v7, rfl, hp7, hl7, hA7, hG7, he7⟩); (have hE2 := hE.grown hG7 hA7 hp7 (by omega)); clear hE; (have hE := hE2); clear hE2)
                      | (go_at_call 27; (with_reducible refine (HR.out _).mono ?_); (rintro e x4 ⟨rfl, hb4⟩); (have hE2 := hE.below hb4); clear hE; (have hE := hE2); clear hE2; (try ((have he8 := he7.below hb4); clear he7; (have he7 := he8); clear he8)))
                      | (go_at_call 20; (with_reducible refine (HTo.out _ _ _ hE.aps.fr.bel he7).mono ?_); (rintro e x5 ⟨rfl, hb5⟩); (have hE2 := hE.below hb5); clear hE; (have hE := hE2); clear hE2)
                      | fail)
                  all_goals go_wp2_with fail
                  all_goals go_meet
                  all_goals exact ⟨rfl, _, _, hE, hpc.trans hp7, by omega⟩
              case rest =>
                obtain ⟨wt, rfl⟩ : ∃ wt : World, wt = wc := ⟨wc, rfl⟩
                obtain ⟨rfl, Tb, Sb, hE, hpd, hlb⟩ := hcut
                clear HC HR HTo HE Hpc
                have HE := hide hE.aps
                have Hpc := hide hpd
                clear hE hpd
                go_wp2_with fail
                exact ⟨⟨i + 1, Tb, Sb, by go_num, by omega, HE.out, Hqq.out.trans Hpc.out, by omega⟩, by simp [intOf]; omega⟩
        · obtain rfl : i = 2 := by omega
          have HAW := hide (fun (W : World) (hb : Below w3.heap.size w3 W) => awake22_any (HT.out.below (hbw3.trans (hb.mono hbw3.size))) (HHd.out.below (hbw3.trans (hb.mono hbw3.size))))
          have hbw := hE.fr.bel
          clear hE HE9
          go_wp2_with fail
          refine (HAW.out _ hbw).mono ?_
          rintro e w12 ⟨rfl, hb12⟩
          go_wp2_with fail
          go_ret
          exact ⟨rfl, hbw3.trans ((hbw.trans (hb12.mono hbw.size)).mono hbw3.size)⟩
end
end Go.Proofs.YtephdodkijanmaaGreatDoor
