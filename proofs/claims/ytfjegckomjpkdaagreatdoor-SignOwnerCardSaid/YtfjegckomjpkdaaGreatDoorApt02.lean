/-
  CodeApart's walk. Conditions: few makes, fitting numbers and texts.
-/
import Derived.Test.YtfjegckomjpkdaaGreatDoorEnc02
set_option linter.unusedVariables false
set_option linter.unusedSimpArgs false
namespace Go.Proofs.YtfjegckomjpkdaaGreatDoor
open Go.RowKit Go.ChangeShapes Go.WideShapes Go.Sort
/-- Bytes with others behind them are no term's. -/
theorem enc_more {t : Tm} (ht : good t) {r : List UInt8} (hr : r ≠ []) : ∀ u, good u → enc t ++ r ≠ enc u := fun u hu e => by
  have := (enc_inj t u r [] ht hu (by rw [e, List.append_nil])).2
  exact hr this
theorem enc_less {t : Tm} (ht : good t) : ∀ u, good u → (enc t).dropLast ≠ enc u := fun u hu e => by
  have h1 : enc t = enc u ++ [(enc t).getLast (enc_ne t)] := by
    rw [← e, List.dropLast_concat_getLast]
  have := (enc_inj u t [(enc t).getLast (enc_ne t)] [] hu ht (by rw [← h1, List.append_nil])).2
  cases this
theorem enc_pre {t u : Tm} (ht : good t) (hu : good u) (hlt : (enc t).length < (enc u).length) : (enc u).take (enc t).length ≠ enc t := fun e => by
  have h1 : enc u = enc t ++ (enc u).drop (enc t).length := by
    have h2 := List.take_append_drop (enc t).length (enc u)
    rw [e] at h2
    exact h2.symm
  have h3 := congrArg List.length (enc_inj t u _ [] ht hu (by rw [← h1, List.append_nil])).2
  rw [List.length_drop] at h3
  simp at h3
  omega
section
variable {w : World}
/-- Opaque, of bytes that are no term's. -/
theorem opaque_no (hT : Tab w) {l : List UInt8} (hn : ∀ t, good t → l ≠ enc t) (hl0 : 0 < l.length) (hl : l.length ≤ 1000000) : Calls Tryz.prog 19 #[.string (bs l)] w (fun e w' => e = .returned (.bool false) ∧ Below w.heap.size w w') := by
  have HN := hide (new_any w)
  have HT := hide hT
  have hsz : (bs l).size = l.length := rfl
  have hx1 : ((bs l).toList == []) = false := by
    rw [bs_toList]
    cases l with
    | nil => simp at hl0
    | cons => rfl
  have hi : (0 : Int) < (bs l).size := by omega
  have Hn := hide hn
  have Hx := hide (fun (W : World) (g : Nat) (hlong : 131072 < l.length) => decode_long g (s := bs l) (by rw [hsz]; exact hlong) W)
  have Hy := hide (fun (W : World) (B g : Nat) (S : Nat → Prop) (hU : Use B W g [] S) (hsm : l.length ≤ 131072) => decode_not hU (l := l) hn hsm (by simp))
  clear hn hT
  generalize bs l = x at hsz hx1 hi Hx Hy ⊢
  have hxs : x.size ≤ 1000000 := by omega
  go_enter Tryz.func19, Tryz.ntmps19
  go_wp2_with fail
  · go_ret
    exact ⟨rfl, Below.refl _ _⟩
  · refine HN.out.mono ?_
    rintro e w1 ⟨g, S, rfl, hA, hb1⟩
    by_cases hl2 : 131072 < l.length
    · go_wp2_with fail
      refine (Hx.out w1 g hl2).mono ?_
      rintro e w2 ⟨rfl, rfl⟩
      go_wp2_with fail
      go_ret
      exact ⟨rfl, hb1⟩
    · have hU : Use w.heap.size w1 g [] S := use_new2 HT.out (Below.refl _ _) hA hb1
      have hD := hide (Hy.out w1 w.heap.size g S hU (by omega))
      clear hU hA
      go_wp2_with fail
      refine hD.out.mono ?_
      rintro e w2 ⟨T', S', rfl, hA2, hG2, _, _⟩
      have hsB := hA2.sB
      have hb2 := hG2.below hb1.size (fun i hi => hsB i (hG2.sub i hi))
      go_wp2_with fail
      go_ret
      exact ⟨rfl, hb1.trans hb2⟩
end
theorem bs_more (l : List UInt8) (s : ByteArray) : bs l ++ s = bs (l ++ s.data.toList) := by
  apply toList_inj
  rw [bs_data, ByteArray.data_append, Array.toList_append, bs_data]
section
variable {B g : Nat} {T : List Tm} {S : Nat → Prop} {w : World}
/-- Bytes that are no term's, however many, decoded. -/
theorem decode_bad (h : Use B w g T S) {l : List UInt8} (hn : ∀ t, good t → l ≠ enc t) (hT : T.length ≤ 800000000) : Calls Tryz.prog 16 #[.pointer (some ⟨g, 0, none⟩), .string (bs l)] w
    (fun e w' => ∃ T' S' k, e = .returned (.tuple #[.int .i64 (-1), .int .i64 k]) ∧ (k = 3 ∨ k = 2) ∧ Ar B w' g T' S' ∧ Grown S w S' w' ∧ T <+: T' ∧ T'.length ≤ T.length + 262144) := by
  by_cases hl : l.length ≤ 131072
  · refine (decode_not h hn hl hT).mono ?_
    rintro e w' ⟨T', S', rfl, h2⟩
    exact ⟨T', S', 3, rfl, .inl rfl, h2⟩
  · refine (decode_long g (s := bs l) (by show 131072 < l.length; omega) w).mono ?_
    rintro e w' ⟨rfl, rfl⟩
    exact ⟨T, S, 2, rfl, .inr rfl, h.ar, Grown.refl _ _, List.prefix_refl _, by omega⟩
end
/-- An arena, what was made, and its box. -/
structure ApS (w : World) (B0 B g : Nat) (T : List Tm) (S : Nat → Prop) (ms : List (Option Tm)) (v1 v2 : Value) (b7 : Nat) (W : World) : Prop where
  fr : Fr B g w T S [(b7, 31, #[v1, v2])] W
  mdo : MdO B0 W T ms v1 v2 S
section
variable {B0 B g b7 : Nat} {w W W' : World} {T T' : List Tm} {S S' : Nat → Prop} {ms : List (Option Tm)} {v1 v2 : Value}
theorem ApS.below (h : ApS w B0 B g T S ms v1 v2 b7 W) (hb : Below W.heap.size W W') : ApS w B0 B g T S ms v1 v2 b7 W' :=
  ⟨h.fr.below hb, h.mdo.grown (Grown.of_below hb) (List.prefix_refl _)⟩
theorem ApS.grown (h : ApS w B0 B g T S ms v1 v2 b7 W) (hG : Grown S W S' W') (hA : Ar B W' g T' S') (hp : T <+: T') (hf : T'.length ≤ 1000000000) : ApS w B0 B g T' S' ms v1 v2 b7 W' :=
  ⟨h.fr.grown hG hA hf, h.mdo.grown hG hp⟩
theorem ApS.nb (h : ApS w B0 B g T S ms v1 v2 b7 W) : ¬ S b7 := (h.fr.blks (b7, 31, #[v1, v2]) List.mem_cons_self).2
theorem ApS.blk (h : ApS w B0 B g T S ms v1 v2 b7 W) : Blk W b7 31 #[v1, v2] := h.fr.blk (by simp)
end
theorem aps_new {w w3 w4 : World} {g : Nat} {S S4 : Nat → Prop} {T4 : List Tm} {l : List Mk} {v1 v2 : Value} (hU : Use w.heap.size w3 g [] S) (hb3 : Below w.heap.size w w3) (hmd : MdO w3.heap.size w4 T4 (makes l) v1 v2 S4) (hA4 : Ar w.heap.size w4 g T4 S4) (hG4 : Grown S w3 S4 w4) (hf : T4.length ≤ 1000000000) :
    ApS w w3.heap.size w.heap.size g T4 S4 (makes l) v1 v2 w4.heap.size (w4.alloc (.cells #[v1, v2] 31)) := by
  have h0 : Fr w.heap.size g w [] S [] w3 := ⟨hb3, hU, Nat.le_refl _, fun x hx => by simp at hx⟩
  exact ⟨(h0.grown hG4 hA4 hf).new _ _, hmd.grown (Grown.of_below (bel_new _)) (List.prefix_refl _)⟩
section
variable {w : World}
set_option maxHeartbeats 8000000 in
set_option maxRecDepth 100000 in
theorem aparts_any (hT : Tab w) {A : Option Addr} {c : Nat} {l : List Mk} (hl : Mks w.heap.size w A l) (hf : fewB l 20 = true) (hll : l.length ≤ 20) (hls : ∀ x ∈ l, x.s.size ≤ 1000000) (kk : Nat) (hkl : kk < l.length) (more : ByteArray) (h1 : 1 ≤ more.size) (h2 : more.size ≤ 100) :
    Calls Tryz.prog 4 #[.slice A l.length c, .int .i64 kk, .string more] w (fun e w' => e = .returned (.bool true) ∧ Below w.heap.size w w') := by
  have HF := hide (few_any (c := c) (hl.outs (Outs.of_below (R := fun _ => False) (Below.refl _ _)) (fun i h => h.elim)) (by omega) 20)
  rw [hf] at HF
  have HT := hide hT
  have HL := hide hl
  have Hls := hide hls
  have hml := makes_len l
  have Hfine := hide (makes_fine hls)
  have i1 : ¬ (more.size : Int) < 1 := by omega
  have i2 : ¬ (100 : Int) < more.size := by omega
  have i3 : ¬ (kk : Int) < 0 := by omega
  have i4 : ¬ (l.length : Int) ≤ kk := by omega
  have i5 : (kk : Int) < l.length := by omega
  have hmd0 : more.data.toList ≠ [] := fun e => by
    have := size_len more
    rw [e] at this
    simp at this
    omega
  have hmls : more.data.toList.length = more.size := size_len more
  clear hT hl hls hf
  go_enter Tryz.func4, Tryz.ntmps4
  go_wp2_with (first
    | (go_at_call 11; refine HF.out.mono ?_; rintro e w1 ⟨rfl, rfl⟩)
    | fail)
  refine (new_any w1).mono ?_
  rintro e w3 ⟨g, S, rfl, hA1, hb3⟩
  have hU : Use w1.heap.size w3 g [] S := use_new2 HT.out (Below.refl _ _) hA1 hb3
  have HM := hide (makes_any (c := c) hU (HL.out.outs (Outs.of_below (R := fun _ => False) hb3) (fun i h => h.elim)) (by omega) Hls.out (by simp; omega))
  have HU := hide hU
  clear hU hA1 HF HL
  go_wp2_with fail
  refine HM.out.mono ?_
  rintro e w4 ⟨T4, S4, v1, v2, rfl, hmd, hpre4, hT4, hA4, hG4⟩
  obtain ⟨A1, c1, hv1⟩ := own_sl hmd.ids.choose_spec.1
  obtain ⟨A2, c2, hv2⟩ := own_sl hmd.txs
  rw [hml] at hv1 hv2
  subst hv1 hv2
  have hT5 : T4.length ≤ 20 := by simp at hT4; omega
  have HE := hide (aps_new HU.out hb3 hmd hA4 hG4 (by omega))
  clear hmd hpre4 hT4 hA4 hG4 hb3 HM HU
  go_upto_region 5 with fail
  generalize w4.alloc (.cells #[.slice A1 l.length c1, .slice A2 l.length c2] 31) = w5 at HE ⊢
  generalize w4.heap.size = b7 at HE ⊢
  generalize w3.heap.size = B0 at HE ⊢
  have HAW := hide (fun (W : World) (hb : Below w1.heap.size w1 W) => awake02_any (HT.out.below hb))
  obtain ⟨o, ho⟩ : ∃ o, (makes l)[kk]? = some o := ⟨_, List.getElem?_eq_getElem (by omega)⟩
  obtain ⟨g1, g2, m, rfl, rfl, n1, n2, l1, l2, k1, k2, hid⟩ := mdo_at HE.out.mdo hml ho
  have m1 : w5.cell? ⟨b7, 1, none⟩ = some (.slice (some ⟨g2, 0, none⟩) l.length c2) := HE.out.blk.cell 1
  have hbw := HE.out.fr.bel
  clear k1 hid
  cases o with
  | none =>
    rw [show bs (txt none) = ⟨#[]⟩ from rfl] at k2
    go_wp2_with (first
      | (go_at_call 12; refine (HAW.out _ hbw).mono ?_; rintro e w6 ⟨rfl, hb6⟩)
      | fail)
    go_ret
    exact ⟨rfl, hbw.trans (hb6.mono hbw.size)⟩
  | some t =>
    have hfn : good t ∧ (enc t).length ≤ 131072 := Hfine.out (some t) (List.mem_of_getElem? ho) t rfl
    obtain ⟨hf1, hf2⟩ := hfn
    have hx1 := enc_toList_ne t
    have HD1 := hide (decode_bad HE.out.fr.use (enc_more hf1 hmd0) (by omega))
    have HOp := hide (fun (W : World) (hb : Below w1.heap.size w1 W) => opaque_no (HT.out.below hb) (enc_more hf1 hmd0) (by simp; omega) (by simp; omega))
    rw [← bs_more] at HD1
    have HO2 := hide (fun W hb => bs_more (enc t) more ▸ HOp.out W hb)
    have Hf2 := hide hf2
    have Ho := hide ho
    clear ho hf2 HOp
    rw [show txt (some t) = enc t from rfl] at k2
    have hxs : (bs (enc t)).size = (enc t).length := rfl
    have HXt := hide (show bs (enc t) = bs (enc t) from rfl)
    have Hls2 := hide (fun (W : World) (T' : List Tm) (S' : Nat → Prop) (hU : Use w1.heap.size W g T' S') (hT' : T'.length ≤ 800000000) => decode_not hU (enc_less hf1) (by rw [List.length_dropLast]; have := Hf2.out; omega) hT')
    have hdl : bs (enc t).dropLast = (bs (enc t)).extract 0 ((enc t).length - 1) := by
      rw [ext_bs, bs_data, List.drop_zero, List.dropLast_eq_take, Nat.sub_zero]
    rw [hdl] at Hls2
    clear hdl
    have Hpre := hide (fun (u : Tm) (hu : good u) (hlt : (enc t).length < (enc u).length) => enc_pre hf1 hu hlt)
    have htl := List.length_pos_iff.2 (enc_ne t)
    have Hnl := hide hxs
    generalize hx : bs (enc t) = x at k2 hx1 HD1 HO2 hxs Hls2 ⊢
    have Hx := hide hx
    have hxm : x.size ≤ 131072 := by rw [hxs]; exact Hf2.out
    have hadd : ∀ W, (Op.stringOp .add x more).run Tryz.prog W = .ok (.string (x ++ more)) W := fun W => run_string_add_sum W x more (by omega)
    have Hxs := hide hxs
    obtain ⟨z, hz⟩ : ∃ z, (enc t).length = z + 1 := ⟨(enc t).length - 1, by omega⟩
    rw [hz, Nat.add_sub_cancel] at Hls2
    have hxz : (x.size : Int) - 1 = z := by omega
    have hz0 : (0 : Int) ≤ z := by omega
    have hz1 : (z : Int) ≤ x.size := by omega
    have wz : IntKind.i64.wrap ((x.size : Int) - 1) = z := by rw [hxz, IntKind.wrap_i64]; omega
    have Hwz := hide wz
    clear hx HXt hxs hz htl Hnl hxz wz
    go_wp2_with fail
    refine HD1.out.mono ?_
    rintro e w6 ⟨T6, S6, k6, rfl, hk6, hA6, hG6, hp6, hl6⟩
    have HI6 := hide (HE.out.grown hG6 hA6 hp6 (by omega))
    clear hA6 hG6 HD1 HE k2 m1 n1 n2 l1 l2
    go_wp2_with fail
    go_loopw [11] (fun vi wr => ∃ i : Nat, vi = .int .i64 i ∧ i ≤ l.length ∧ Hid (ApS w1 B0 w1.heap.size g T6 S6 (makes l) (.slice (some ⟨g1, 0, none⟩) l.length c1) (.slice (some ⟨g2, 0, none⟩) l.length c2) b7 wr)) (fun vi _ => l.length - (intOf vi).toNat)
    case atStart => exact ⟨0, rfl, Nat.zero_le _, HI6⟩
    case round =>
      obtain ⟨i, rfl, hi, hI⟩ := hrel
      have m1 : wr.cell? ⟨b7, 1, none⟩ = some (.slice (some ⟨g2, 0, none⟩) l.length c2) := hI.out.blk.cell 1
      obtain ⟨g1', g2', m', hg1, hg2, n1, n2, l1, l2, k1, k2, hid⟩ := mdo_at hI.out.mdo hml Ho.out
      obtain rfl : g2 = g2' := by injection hg2 with hg2; injection hg2
      rw [show bs (txt (some t)) = x from Hx.out] at k2
      clear k1 hid hg1 hg2
      by_cases hlt : i < l.length
      · have hii : (i : Int) < l.length := by omega
        obtain ⟨oi, hoi⟩ : ∃ o, (makes l)[i]? = some o := ⟨_, List.getElem?_eq_getElem (by omega)⟩
        obtain ⟨g1', g2', m', hg1, hg2, _, _, _, _, k1, k3, hid⟩ := mdo_at hI.out.mdo hml hoi
        obtain rfl : g2 = g2' := by injection hg2 with hg2; injection hg2
        clear k1 hid hg1 hg2
        obtain ⟨y, hy, hyl, hyn⟩ : ∃ y, bs (txt oi) = y ∧ y.size ≤ 1000000 ∧ ((x.size : Int) < y.size → ((y.extract 0 x.size).toList == x.toList) = false) := by
          refine ⟨_, rfl, ?_, fun hlt2 => ?_⟩
          · cases oi with
            | none => exact Nat.zero_le _
            | some u =>
              have hfu : good u ∧ (enc u).length ≤ 131072 := Hfine.out (some u) (List.mem_of_getElem? hoi) u rfl
              show (enc u).length ≤ 1000000
              omega
          · cases oi with
            | none =>
              have h3 : (bs (txt none)).size = 0 := rfl
              omega
            | some u =>
              have hfu : good u ∧ (enc u).length ≤ 131072 := Hfine.out (some u) (List.mem_of_getElem? hoi) u rfl
              have h3 : (bs (txt (some u))).size = (enc u).length := rfl
              have h5 := Hxs.out
              have h4 := Hpre.out u hfu.1 (by omega)
              rw [ext_bs, bs_toList, bs_data, List.drop_zero, Nat.sub_zero, h5, ← Hx.out, bs_toList, beq_eq_false_iff_ne]
              exact h4
        rw [hy] at k3
        clear hy hoi
        have hI' := hI
        by_cases hlt2 : (x.size : Int) < y.size
        · have hyn2 := hyn hlt2
          have hxi : (0 : Int) ≤ x.size := by omega
          have hxi2 : (x.size : Int) ≤ y.size := by omega
          clear hyn
          go_wp2_with fail
          go_quiet (fail)
          go_wp2
          exact ⟨⟨i + 1, by go_num, by omega, hide (hI.out.below (below_drewN (Below.refl _ _) _))⟩, by simp [intOf]; omega⟩
        · clear hyn
          go_wp2_with fail
          go_quiet (fail)
          go_wp2
          exact ⟨⟨i + 1, by go_num, by omega, hide (hI.out.below (below_drewN (Below.refl _ _) _))⟩, by simp [intOf]; omega⟩
      · obtain rfl : i = l.length := by omega
        have hii : ¬ (l.length : Int) < l.length := by omega
        have hbr := hI.out.fr.bel
        have hls := Hls2.out
        have HLs := hide (fun (W : World) (hb : Below wr.heap.size wr W) => Hls2.out W T6 S6 ((hI.out.below hb).fr.use) (by omega))
        have HI := hide hI.out
        have n7 : ¬ S6 b7 := hI.out.nb
        have wz := Hwz.out
        clear Hls2 hls hI HI6 n1 l1
        go_upto_region 14 with fail
        go_region_held3 (fun W => W.cell? ⟨b7, 1, none⟩ = some (.slice (some ⟨g2, 0, none⟩) l.length c2) ∧ W.cell? ⟨g2, kk, none⟩ = some (.string x))
          (exact ⟨m1, k2⟩)
          (first
            | (go_at_call 16; refine (HLs.out _ (by (repeat (first | exact Below.refl _ _ | refine below_drewN ?_ _ | refine Below.drew ?_ | refine Below.alloc ?_ (by first | omega | (simp; done) | (simp; omega)) _ | refine Below.setCell ?_ (by first | omega | (simp; done) | (simp; omega)) _ | refine bel_alloc ?_ _ | refine bel_trans ?_ (by assumption) | refine Below.trans ?_ (Below.mono (by assumption) (by first | omega | (simp; done) | (simp; omega))))))).mono ?_; rintro e w8 ⟨T8, S8, rfl, hA8, hG8, hp8, hl8⟩; replace m1 := hG8.outs.cell m1 n7; replace k2 := hG8.outs.cell k2 n2)
            | fail)
        have hI8 := (HI.out.below (below_drewN (Below.refl _ _) 1)).grown hG8 hA8 hp8 (by omega)
        have hb8 := hI8.fr.bel
        have hz1 := hI8.blk.lt
        have hz2 := Nat.lt_of_lt_of_le l2 hG8.size
        clear hA8 hG8 HI
        go_wp2_with fail
        refine (HAW.out _ hb8).mono ?_
        rintro e w9 ⟨rfl, hb9⟩
        have m9 := (hb9.cell (p := ⟨b7, 1, none⟩) hz1).trans m1
        have k9 := (hb9.cell (p := ⟨g2, kk, none⟩) hz2).trans k2
        have hb89 := hb8.trans (hb9.mono hb8.size)
        clear m1 k2
        rcases hk6 with rfl | rfl
        · go_wp2_with fail
          refine (HO2.out _ hb89).mono ?_
          rintro e w10 ⟨rfl, hb10⟩
          go_wp2_with fail
          go_ret
          exact ⟨rfl, hb89.trans (hb10.mono hb89.size)⟩
        · go_wp2_with fail
          refine (HO2.out _ hb89).mono ?_
          rintro e w10 ⟨rfl, hb10⟩
          go_wp2_with fail
          go_ret
          exact ⟨rfl, hb89.trans (hb10.mono hb89.size)⟩
end
end Go.Proofs.YtfjegckomjpkdaaGreatDoor
