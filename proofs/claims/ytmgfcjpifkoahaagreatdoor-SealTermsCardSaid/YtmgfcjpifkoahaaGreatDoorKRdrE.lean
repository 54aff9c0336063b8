/-
  The contract of code's share: a group, and exponents in order. Conditions: at most MaxTerm bytes.
-/
import Derived.Test.YtmgfcjpifkoahaaGreatDoorKRdrD
import Derived.Test.YtmgfcjpifkoahaaGreatDoorKEncA
set_option linter.unusedVariables false
set_option linter.unusedSimpArgs false
namespace Go.Proofs.YtmgfcjpifkoahaaGreatDoor
open Go.RowKit Go.ChangeShapes Go.WideShapes Go.Sort
theorem expsO_is {x : ByteArray} {l : List Tm} {t : Tm} (h : expsO x l = some t) : t = .mk 5 0 0 x l := by
 unfold expsO at h
 split at h
 ·injection h with h
  exact h.symm
 ·cases h
theorem exps_next {x : ByteArray} {l : List Tm} {i : Nat} (hi : i < l.length) (h8 : l.length ≤ 8) (h : i = 0 ∨ expsO x (l.take i) = some (.mk 5 0 0 x (l.take i))) :
  (tExp (expsO x (l.take i)) (some l[i]) = none ∧ expsO x l = none) ∨ ∃ r, tExp (expsO x (l.take i)) (some l[i]) = some (.mk 5 0 0 x r) ∧ r.length = i + 1 ∧ ((r[i]? = some l[i] ∧ expsO x (l.take (i + 1)) = some (.mk 5 0 0 x (l.take (i + 1))) ∧ r = l.take (i + 1)) ∨ (r[i]? ≠ some l[i] ∧ expsO x l = none)) := by
 have hlen : (l.take i).length = i := by rw [List.length_take]; omega
 have hsn : l.take (i + 1) = l.take i ++ [l[i]] := List.take_succ_eq_append_getElem hi
 cases e : expsO x (l.take i) with
 | none =>
  rcases h with rfl | h
  ·rw [List.take_zero, expsO_base] at e
   exact .inl ⟨rfl, expsO_group e⟩
  ·rw [e] at h
   cases h
 | some t =>
  obtain rfl := expsO_is e
  by_cases hk : l[i].k = 2
  ·obtain ⟨s1, s2, s3⟩ := expsO_step e hk (by omega)
   rw [hlen] at s2 s3
   refine .inr ⟨ins l[i] (l.take i), s1, by rw [ins_len, hlen], ?_⟩
   by_cases hr : (ins l[i] (l.take i))[i]? = some l[i]
   ·obtain ⟨h1, h2⟩ := s2 hr
    exact .inl ⟨hr, by rw [hsn]; exact h2, by rw [hsn]; exact h1⟩
   ·refine .inr ⟨hr, ?_⟩
    have := s3 hr (l.drop (i + 1))
    rw [← hsn, List.take_append_drop] at this
    exact this
  ·refine .inl ⟨?_, expsO_kind (List.getElem_mem hi) hk⟩
   show (if _ then _ else _) = none
   rw [if_neg]
   rintro ⟨_, h2, _⟩
   exact hk h2
section
variable {B b g p p0 N : Nat} {s : ByteArray} {T : List Tm} {S : Nat → Prop} {w w1 w2 : World} {c : UInt8} {s1 : List UInt8}
structure ShI (B b g : Nat) (s : ByteArray) (p' : Nat) (x : ByteArray) (l : List Tm) (gb : Nat) (T : List Tm) (S : Nat → Prop) (w : World) (i : Nat) (T' : List Tm) (S' : Nat → Prop) (t : Int) (wr : World) : Prop where
 rd : Rd B b g s p' T' S' wr
 grown : Grown (SR b S) w (SR b S') wr
 pre : T <+: T'
 few : T'.length ≤ T.length + 1 + i
 id : Idn T' (expsO x (l.take i)) t
 ok : i = 0 ∨ expsO x (l.take i) = some (.mk 5 0 0 x (l.take i))
 cell : ∀ (k : Nat) (u : Tm), l[k]? = some u → ∃ m : Int, wr.cell? ⟨gb, k, none⟩ = some (.int .i64 m) ∧ Idn T' (some u) m
 out : 0 < l.length → ¬ SR b S' gb ∧ gb < wr.heap.size
theorem pos_at {l : List Tm} {k : Nat} {u : Tm} (h : l[k]? = some u) : 0 < l.length := by
 have := (List.getElem?_eq_some_iff.1 h).1
 omega
theorem ShI.step {p' : Nat} {x : ByteArray} {l : List Tm} {gb i : Nat} {T' T2 : List Tm} {S' S2 : Nat → Prop} {t m : Int} {wr : World} (h : ShI B b g s p' x l gb T S w i T' S' t wr) (hG : Grown S' wr S2 w1) (hA : Ar B w1 g T2 S2) (hp : T' <+: T2) (hl : T2.length ≤ T'.length + 1) (hf : T2.length + 2 * (s.size - p') ≤ 900000000) (hb : Below w1.heap.size w1 w2)
  {o : Option Tm} (hm : Idn T2 o m) (ho : o = expsO x (l.take (i + 1))) (hok : expsO x (l.take (i + 1)) = some (.mk 5 0 0 x (l.take (i + 1)))) : ShI B b g s p' x l gb T S w (i + 1) T2 S2 m w2 :=
 ⟨(h.rd.grown hG hA hf).below hb, (h.grown.trans (hG.sr b)).trans (Grown.of_below hb), h.pre.trans hp, by have := h.few; omega, ho ▸ hm, .inr hok, fun k u hk => by
  obtain ⟨m', h1, h2⟩ := h.cell k u hk
  obtain ⟨h3, h4⟩ := h.out (pos_at hk)
  exact ⟨m', (hb.cell (p := ⟨gb, k, none⟩) (Nat.lt_of_lt_of_le h4 hG.size)).trans (hG.outs.cell h1 (fun h9 => h3 (.inl h9))), h2.pre hp⟩, fun h0 => by
  obtain ⟨h3, h4⟩ := h.out h0
  exact ⟨(hG.sr b).notin2 h3 h4, Nat.lt_of_lt_of_le (Nat.lt_of_lt_of_le h4 hG.size) hb.size⟩⟩
theorem view_cells {T : List Tm} {n : Int} {w w' : World} {e : Ending} {t : Tm} {i : Nat} (h : arg T n = some t) (hi : i < t.l.length) (hv : Viewed T n w e w') :
  ∃ gv cv m x0 x1 x2 x3, e = .returned (.tuple #[.agg #[.int .i64 x0, .int .i64 x1, .int .i64 x2, .string x3, .slice (some ⟨gv, 0, none⟩) t.l.length cv], .bool true]) ∧ w'.cell? ⟨gv, i, none⟩ = some (.int .i64 m) ∧ Idn T (t.l[i]?) m ∧ gv < w'.heap.size ∧ Below w.heap.size w w' := by
 obtain ⟨js, A, c, ha, rfl, hown, hb⟩ := view_some h hv
 have hjl := ha.len
 obtain ⟨gv, cap, hv2, _, hlt⟩ := hown.form (by omega)
 have hA : A = some ⟨gv, 0, none⟩ := by injection hv2
 subst hA
 obtain ⟨c1, hc1, hT⟩ := ha.at_ (p := i) (by omega)
 have hc := hown.cells (g := gv) rfl i (.int .i64 (js[i]'(by omega) : Nat)) (by rw [List.getElem?_map, List.getElem?_map, List.getElem?_eq_getElem (by omega)]; rfl)
 rw [add_zero_] at hc
 refine ⟨gv, c, (js[i]'(by omega) : Nat), t.k, t.a, t.b, t.s, rfl, hc, ⟨by rw [arg_at, hT, hc1], fun h0 => by rw [hc1] at h0; cases h0⟩, hlt, hb⟩
set_option maxHeartbeats 4000000 in
set_option maxRecDepth 100000 in
theorem share_any (IH : TermIH B b g s N) (h : Rd B b g s (p0 + 1) T S w) (hN : s.size - (p0 + 1) < N) (h1 : s.data.toList.drop p0 = c :: s.data.toList.drop (p0 + 1)) (hc : c.toNat = 245) (hK : T.length + 2 * (s.size - p0) ≤ 900000000) :
  Calls Tryz.prog 184 #[.pointer (some ⟨b, 0, none⟩)] w (Got B b g s p0 (p0 + 1) T S w) := by
 have HX := hide (text_all h)
 have H1 := hide h1
 have HIH := hide IH
 have hlen := h.len
 have hsz := h.hs
 clear h h1 IH
 go_enter Tryz.func184, Tryz.ntmps184
 go_wp2_with fail
 refine HX.out.mono ?_
 rintro e w1 (⟨p1, rfl, hno, hR, hG, hle⟩ | ⟨n, hn, h5, rfl, hR, hG⟩)
 ·go_wp2_with fail
  go_ret
  refine got_none ?_ hR hG hle
  rw [H1.out]
  exact no5 hc (by omega)
 ·have e1 : p0 + 1 + 4 + n = p0 + 1 + (4 + n) := by omega
  have hnl : (bs ((s.data.toList.drop (p0 + 1 + 4)).take n)).size ≤ 131072 := by
   show ((s.data.toList.drop (p0 + 1 + 4)).take n).length ≤ 131072
   rw [List.length_take, List.length_drop, size_len]
   omega
  by_cases h4 : s.size < p0 + 1 + 4 + n + 4
  ·have HC := hide (counted_no1 hR 8 h4)
   go_wp2_with fail
   refine HC.out.mono ?_
   rintro e w2 ⟨p2, rfl, hR2, hG2, hle2⟩
   go_wp2_with fail
   go_ret
   refine got_none ?_ hR2 (hG.trans hG2) (by omega)
   rw [H1.out]
   exact no5b hc (by omega) (by omega)
  ·obtain ⟨m, hm⟩ : ∃ m, m = n4 (s.data.toList.drop (p0 + 1 + 4 + n)) := ⟨_, rfl⟩
   have hH : Hed 5 0 0 (bs ((s.data.toList.drop (p0 + 1 + 4)).take n)) m (s.data.toList.drop (p0 + 1)) (s.data.toList.drop (p0 + 1 + 4 + n + 4)) := by
    have := hed5 (s1 := s.data.toList.drop (p0 + 1)) (by omega) (by omega)
    rw [List.drop_drop, List.drop_drop, List.drop_drop, ← hn, ← e1, ← hm] at this
    rw [show p0 + 1 + 4 + n + 4 = p0 + 1 + (8 + n) by omega]
    exact this
   by_cases hm8 : (8 : Int) < (m : Int)
   ·have HC := hide (counted_no2 hR 8 (by omega) hm hm8)
    go_wp2_with fail
    refine HC.out.mono ?_
    rintro e w2 ⟨p2, rfl, hR2, hG2, hle2⟩
    go_wp2_with fail
    go_ret
    refine got_none ?_ hR2 (hG.trans hG2) (by omega)
    rw [H1.out]
    exact hH.nohd hc (fun hh => by simp only [hd] at hh; omega)
   ·have HC := hide (counted_yes HIH.out hR (by omega) 8 (by omega) hm (by omega) (by omega))
    have HH := hide hH
    clear hH hm hn e1
    generalize hx : bs ((s.data.toList.drop (p0 + 1 + 4)).take n) = x at HH hnl ⊢
    clear hx
    go_wp2_with fail
    refine HC.out.mono ?_
    rintro e w2 (⟨T1, S1, p1, rfl, hNo, hR2, hG2, hpre, hl, hle⟩ | ⟨T1, S1, p1, l, A, cz, rfl, hg, hml, he, hI, hR2, hG2, hpre, hl, hle⟩)
    ·go_wp2_with fail
     go_ret
     exact ⟨T1, -1, S1, p1, none, rfl, idn_none _, readT_few H1.out hc HH.out hNo, hR2, hG.trans hG2, hpre, by omega, by omega⟩
    ·obtain ⟨gb, hgb, hcell⟩ : ∃ gb, (0 < m → A = some ⟨gb, 0, none⟩ ∧ gb < w2.heap.size ∧ ¬ SR b S1 gb) ∧ (∀ (k : Nat) (u : Tm), l[k]? = some u → ∃ q : Int, w2.cell? ⟨gb, k, none⟩ = some (.int .i64 q) ∧ Idn T1 (some u) q) := by
      rcases Nat.eq_zero_or_pos m with h0 | h0
      ·subst h0
       obtain rfl : l = [] := List.eq_nil_of_length_eq_zero hml
       exact ⟨0, fun h => absurd h (by omega), fun k u hk => by simp at hk⟩
      ·obtain ⟨gb, rfl, hgl, hc⟩ := ido_cells hI hml h0
       exact ⟨gb, fun _ => ⟨rfl, hgl, hI.out gb rfl⟩, hc⟩
     have hb2 := rd_cells hR2
     have HB := hide (aBase_any hR2.use (s := x) (by omega))
     have hR2h := hide hR2
     have hG2h := hide (hG.trans hG2)
     have hgbh := hide hgb
     have hcellh := hide hcell
     have hfw := hR2.few
     have hpw := hR2.hp
     clear hR2 hG2 hI hG hR hgb hcell HC HX
     go_wp2_with fail
     refine HB.out.mono ?_
     rintro e w3 ⟨T2, t0, S2, rfl, hP, hA2, hG3⟩
     have hlP := hP.len
     have HI0 : Hid (ShI B b g s p1 x l gb T1 S1 w2 0 T2 S2 t0 w3) := hide ⟨hR2h.out.grown hG3 hA2 (by omega), hG3.sr b, hP.pre, by omega, by rw [List.take_zero, expsO_base]; exact hP.idn, .inl rfl, fun k u hk => by
      obtain ⟨q, h1, h2⟩ := hcellh.out k u hk
      obtain ⟨h3, h4, h5⟩ := hgbh.out (by have := pos_at hk; omega)
      exact ⟨q, hG3.outs.cell h1 (fun h9 => h5 (.inl h9)), h2.pre hP.pre⟩, fun h0 => by
      obtain ⟨h3, h4, h5⟩ := hgbh.out (by omega)
      exact ⟨(hG3.sr b).notin2 h5 h4, Nat.lt_of_lt_of_le h4 hG3.size⟩⟩
     have hA0 : 0 < m → A = some ⟨gb, 0, none⟩ := fun h => (hgbh.out h).1
     clear hb2 HB hP hA2 hG3 hlP hgbh hcellh
     have H2 := hide he
     clear he
     go_wp2_with fail
     go_loopw [33, 6] (fun vi vt wr => ∃ (i : Nat) (T' : List Tm) (S' : Nat → Prop) (t : Int), vi = .int .i64 i ∧ vt = .int .i64 t ∧ i ≤ m ∧ ShI B b g s p1 x l gb T1 S1 w2 i T' S' t wr) (fun vi _ _ => m - (intOf vi).toNat)
     case atStart => exact ⟨0, T2, S2, t0, rfl, rfl, Nat.zero_le _, HI0.out⟩
     case round =>
      obtain ⟨i, T', S', t, rfl, rfl, hi, hI⟩ := hrel
      by_cases hlt : i < m
      ·have hii : (i : Int) < m := by omega
       obtain rfl := hA0 (by omega)
       obtain ⟨q, hcq, hq⟩ := hI.cell i l[i] (List.getElem?_eq_getElem (by omega))
       have HE := hide (aExp_any hI.rd.use t q)
       rw [hI.id.1, hq.1] at HE
       have hbr := rd_cells hI.rd
       have Hn := hide (exps_next (x := x) (i := i) (l := l) (by omega) (by omega) hI.ok)
       have HI := hide hI
       have hfwI := hI.few
       have Hq := hide hq
       clear hI hq
       go_wp2_with fail
       refine HE.out.mono ?_
       rintro e w4 ⟨T3, t3, S3, rfl, hP, hA3, hG3⟩
       have hlP := hP.len
       have hR4 := HI.out.rd.grown hG3 hA3 (by omega)
       have hb4 := rd_cells hR4
       have HV := hide (aview_any hA3 t3)
       rcases Hn.out with ⟨hno, hfin⟩ | ⟨r, hso, hrl, hrest⟩
       ·have Hid3 := hide (hno ▸ hP.idn)
        have Hfin := hide (show Got B b g s p0 (p0 + 1) T S w (.returned (.int .i64 (-1))) w4 from ⟨T3, -1, S3, p1, none, rfl, idn_none _, hfin ▸ readT_fin hR4.hs H1.out hc (by omega) HH.out hg hml H2.out (madeOf_exps x l (by omega)), hR4, hG2h.out.trans (HI.out.grown.trans (hG3.sr b)), hpre.trans (HI.out.pre.trans hP.pre), by omega, by omega⟩)
        clear hP hA3 hG3 hR4 hno hfin
        go_wp2_with fail
        refine HV.out.mono ?_
        intro e w5 hv
        obtain ⟨rfl, hb5⟩ := view_none Hid3.out.1 hv
        clear hv
        go_wp2_with fail
        go_ret
        obtain ⟨T', n', S', p', o, he', h2, h3, h4, h5, h6⟩ := Hfin.out
        cases he'
        have hb6 := hb5.alloc hb5.size (.cells #[.int .i64 0, .int .i64 0, .int .i64 0, .string ⟨#[]⟩, .slice none 0 0] 70)
        exact ⟨T', -1, S', p', o, rfl, h2, h3, h4.below hb6, h5.trans (Grown.of_below hb6), h6⟩
       ·have hid3 := hso ▸ hP.idn
        have hX := hP.pre
        clear hP
        go_wp2_with fail
        refine HV.out.mono ?_
        intro e w5 hv
        obtain ⟨gv, cv, q', x0, x1, x2, x3, rfl, hc5, hq5, hgv, hb5⟩ := view_cells (i := i) hid3.1 (by show i < r.length; omega) hv
        clear hv
        have hii2 : (i : Int) < r.length := by omega
        have hqi : q' = q ↔ r[i]? = some l[i] := hq5.eq_iff hA3.ok (Hq.out.pre hX)
        have hsm : (Tm.mk 5 0 0 x r).l.length = r.length := rfl
        rw [hsm]
        rcases hrest with ⟨hr1, hr2, hr3⟩ | ⟨hr1, hr2⟩
        ·obtain rfl := hqi.2 hr1
         have HS := hide (fun w6 (hb6 : Below w4.heap.size w4 w6) => HI.out.step hG3 hA3 hX (by omega) (by omega) hb6 hid3 (by rw [hr3] at *; exact hr2.symm) hr2)
         clear hA3 hG3 hR4 hso hid3 hr1 hr2 hr3 hqi hq5 hX
         go_wp2
         exact ⟨⟨i + 1, T3, S3, t3, by go_num, rfl, by omega, HS.out _ (hb5.alloc hb5.size _)⟩, by simp [intOf]; omega⟩
        ·have hne : ¬ q' = q := fun h => hr1 (hqi.1 h)
         have Hfin := hide (show Got B b g s p0 (p0 + 1) T S w (.returned (.int .i64 (-1))) w4 from ⟨T3, -1, S3, p1, none, rfl, idn_none _, hr2 ▸ readT_fin hR4.hs H1.out hc (by omega) HH.out hg hml H2.out (madeOf_exps x l (by omega)), hR4, hG2h.out.trans (HI.out.grown.trans (hG3.sr b)), hpre.trans (HI.out.pre.trans hX), by omega, by omega⟩)
         clear hA3 hG3 hR4 hso hid3 hr1 hr2 hqi hq5 hX
         go_wp2
         go_ret
         obtain ⟨T', n', S', p', o, he', h2, h3, h4, h5, h6⟩ := Hfin.out
         cases he'
         have hb6 := hb5.alloc hb5.size (.cells #[.int .i64 x0, .int .i64 x1, .int .i64 x2, .string x3, .slice (some ⟨gv, 0, none⟩) (i + 1) cv] 70)
         exact ⟨T', -1, S', p', o, rfl, h2, h3, h4.below hb6, h5.trans (Grown.of_below hb6), h6⟩
      ·obtain rfl : i = m := by omega
       have hii : ¬ (i : Int) < i := by omega
       have HI := hide hI
       have hrd := hI.rd.hs
       have hle1 := hI.few
       have hRT := hide (readT_fin hrd H1.out hc (by omega) HH.out hg hml H2.out (madeOf_exps x l (by omega)))
       clear hI
       go_wp2
       go_ret
       have hI := HI.out
       have hid := hI.id
       rw [← hml, List.take_length] at hid
       exact ⟨T', t, S', p1, expsO x l, rfl, hid, hRT.out, hI.rd, hG2h.out.trans hI.grown, hpre.trans hI.pre, by omega, by omega⟩
end
end Go.Proofs.YtmgfcjpifkoahaaGreatDoor
