/-
  CodeEncodes' walk. Conditions: few makes, fitting numbers.
-/
import Derived.Test.YtfjegckomjpkdaaGreatDoorTwo
set_option linter.unusedVariables false
set_option linter.unusedSimpArgs false
namespace Go.Proofs.YtfjegckomjpkdaaGreatDoor
open Go.RowKit Go.ChangeShapes Go.WideShapes Go.Sort
theorem few02_open {l : List Mk} {n : Int} (h : fewB l n = true) : (l.length : Int) ≤ n ∧ ∀ x ∈ l, x.s.size ≤ 200 := by
  unfold fewB at h
  simp only [Bool.and_eq_true, decide_eq_true_eq, List.all_eq_true] at h
  exact ⟨h.1, fun x hx => h.2 x hx⟩
section
variable {B0 n c1 c2 : Nat} {w w' : World} {T T' : List Tm} {ms : List (Option Tm)} {A1 A2 : Option Addr} {S S' : Nat → Prop}
/-- What stands at a place of what was made. -/
theorem mdo_at (h : MdO B0 w T ms (.slice A1 n c1) (.slice A2 n c2) S) (hn : ms.length = n) {i : Nat} {o : Option Tm} (hi : ms[i]? = some o) :
    ∃ g1 g2 m, A1 = some ⟨g1, 0, none⟩ ∧ A2 = some ⟨g2, 0, none⟩ ∧ ¬ S g1 ∧ ¬ S g2 ∧ g1 < w.heap.size ∧ g2 < w.heap.size ∧ w.cell? ⟨g1, i, none⟩ = some (.int .i64 m) ∧ w.cell? ⟨g2, i, none⟩ = some (.string (bs (txt o))) ∧ Idn T o m := by
  obtain ⟨⟨ns, h1, h2⟩, h3, h4, h5⟩ := h
  have hlt := (List.getElem?_eq_some_iff.1 hi).1
  obtain ⟨g1, cap1, hv1, _, hl1⟩ := h1.form (by omega)
  obtain ⟨g2, cap2, hv2, _, hl2⟩ := h3.form (by omega)
  have e1 : A1 = some ⟨g1, 0, none⟩ := by injection hv1
  have e2 : A2 = some ⟨g2, 0, none⟩ := by injection hv2
  subst e1 e2
  have hns : i < ns.length := by rw [h2.1]; exact hlt
  have k1 := h1.cells (g := g1) rfl i (.int .i64 ns[i]) (by rw [List.getElem?_map, List.getElem?_eq_getElem hns]; rfl)
  have k2 := h3.cells (g := g2) rfl i (.string (bs (txt o))) (by rw [List.getElem?_map, List.getElem?_map, List.getElem?_map, hi]; rfl)
  rw [add_zero_] at k1 k2
  exact ⟨g1, g2, ns[i], rfl, rfl, h4 g1 rfl, h5 g2 rfl, hl1, hl2, k1, k2, h2.2 i o _ hi (List.getElem?_eq_getElem hns)⟩
end
/-- Two arenas, and what was made. -/
structure EnS (w : World) (B0 Ba ga : Nat) (Ta : List Tm) (Sa : Nat → Prop) (Bb gb : Nat) (Tb : List Tm) (Sb : Nat → Prop) (ms : List (Option Tm)) (v1 v2 : Value) (b7 : Nat) (W : World) : Prop where
  two : Duo w Ba ga Ta Sa Bb gb Tb Sb W
  mdo : MdO B0 W Ta ms v1 v2 (SU Sa Sb)
  blk : Blk W b7 31 #[v1, v2]
  nb : ¬ SU Sa Sb b7
section
variable {B0 Ba ga Bb gb b7 : Nat} {w W W' : World} {Ta Ta' Tb Tb' : List Tm} {Sa Sa' Sb Sb' : Nat → Prop} {ms : List (Option Tm)} {v1 v2 : Value}
theorem EnS.below (h : EnS w B0 Ba ga Ta Sa Bb gb Tb Sb ms v1 v2 b7 W) (hb : Below W.heap.size W W') : EnS w B0 Ba ga Ta Sa Bb gb Tb Sb ms v1 v2 b7 W' :=
  ⟨h.two.below hb, h.mdo.grown (Grown.of_below hb) (List.prefix_refl _), h.blk.below hb h.blk.lt, h.nb⟩
theorem EnS.grown1 (h : EnS w B0 Ba ga Ta Sa Bb gb Tb Sb ms v1 v2 b7 W) (hG : Grown Sa W Sa' W') (hA : Ar Ba W' ga Ta' Sa') (hp : Ta <+: Ta') (hf : Ta'.length ≤ 1000000000) : EnS w B0 Ba ga Ta' Sa' Bb gb Tb Sb ms v1 v2 b7 W' :=
  ⟨h.two.grown1 hG hA hf, h.mdo.grown (hG.su1 Sb) hp, (hG.su1 Sb).outs.blk h.blk h.nb, (hG.su1 Sb).notin2 h.nb h.blk.lt⟩
theorem EnS.grown2 (h : EnS w B0 Ba ga Ta Sa Bb gb Tb Sb ms v1 v2 b7 W) (hG : Grown Sb W Sb' W') (hA : Ar Bb W' gb Tb' Sb') (hf : Tb'.length ≤ 1000000000) : EnS w B0 Ba ga Ta Sa Bb gb Tb' Sb' ms v1 v2 b7 W' :=
  ⟨h.two.grown2 hG hA hf, h.mdo.grown (hG.su2 Sa) (List.prefix_refl _), (hG.su2 Sa).outs.blk h.blk h.nb, (hG.su2 Sa).notin2 h.nb h.blk.lt⟩
end
/-- How many terms there may be behind i rounds. -/
def capE (i : Nat) : Nat := 30 + 262144 * i
theorem capE_succ (i : Nat) : capE (i + 1) = capE i + 262144 := by unfold capE; omega
theorem capE_lim {i : Nat} (h : i ≤ 30) : capE i ≤ 8000000 := by unfold capE; omega
theorem enc_toList_ne (t : Tm) : ((bs (enc t)).toList == []) = false := by
  rw [bs_toList]
  simp [enc_ne]
section
variable {w : World}
set_option maxHeartbeats 4000000 in
set_option maxRecDepth 100000 in
theorem encodes_any (hT : Tab w) {A : Option Addr} {c : Nat} {l : List Mk} (hl : Mks w.heap.size w A l) (hf : fewB l 30 = true) (hll : l.length ≤ 30) (hls : ∀ x ∈ l, x.s.size ≤ 1000000) (k : Nat) (hk : k < 4294967296) :
    Calls Tryz.prog 3 #[.slice A l.length c, .int .u32 k] w (fun e w' => e = .returned (.bool true) ∧ Below w.heap.size w w') := by
  have HF := hide (few_any (c := c) (hl.outs (Outs.of_below (R := fun _ => False) (Below.refl _ _)) (fun i h => h.elim)) (by omega) 30)
  rw [hf] at HF
  have HT := hide hT
  have HL := hide hl
  have Hls := hide hls
  have hml := makes_len l
  have Hfine := hide (makes_fine hls)
  clear hT hl hls hf
  go_enter Tryz.func3, Tryz.ntmps3
  go_wp2_with (first
    | (go_at_call 11; refine HF.out.mono ?_; rintro e w1 ⟨rfl, rfl⟩)
    | fail)
  refine (new_any w1).mono ?_
  rintro e w2 ⟨ga, Sa, rfl, hA1, hb2⟩
  have HN := hide (new_any w2)
  go_wp2_with fail
  refine HN.out.mono ?_
  rintro e w3 ⟨gb, Sb, rfl, hA2, hb3⟩
  have hD : Duo w1 w1.heap.size ga [] Sa w2.heap.size gb [] Sb w3 :=
    ⟨HT.out, hb2.trans (hb3.mono hb2.size), hA1.below hb3, hA2, Nat.le_refl _, hb2.size, Nat.le_trans hb2.size hb3.size, hb3.size, fun i h1 h2 => by
      have := hA1.sL i h1
      have := hA2.sB i h2
      omega, Nat.zero_le _, Nat.zero_le _⟩
  have HM := hide (makes_any (c := c) hD.use1 (HL.out.outs (Outs.of_below (R := fun _ => False) hD.bel) (fun i h => h.elim)) (by omega) Hls.out (by simp; omega))
  have HD := hide hD
  clear hA1 hA2 hb2 hb3 hD HN HF
  go_wp2_with fail
  refine HM.out.mono ?_
  rintro e w4 ⟨T4, S4, v1, v2, rfl, hmd, hpre4, hT4, hA4, hG4⟩
  obtain ⟨A1, c1, hv1⟩ := own_sl hmd.ids.choose_spec.1
  obtain ⟨A2, c2, hv2⟩ := own_sl hmd.txs
  rw [hml] at hv1 hv2
  subst hv1 hv2
  have hb5 := bel_new (w := w4) (.cells #[.slice A1 l.length c1, .slice A2 l.length c2] 31)
  have hE : EnS w1 w3.heap.size w1.heap.size ga T4 S4 w2.heap.size gb [] Sb (makes l) (.slice A1 l.length c1) (.slice A2 l.length c2) w4.heap.size (w4.alloc (.cells #[.slice A1 l.length c1, .slice A2 l.length c2] 31)) := by
    have h2 := HD.out.grown1 hG4 hA4 (by simp at hT4; omega)
    have hSb := HD.out.a2.sL
    refine ⟨h2.below hb5, ?_, Blk.new _ _ _, ?_⟩
    · refine MdO.grown (S := SU S4 Sb) (w := w4) ⟨hmd.ids, hmd.txs, fun i hi hs => ?_, fun i hi hs => ?_⟩ (Grown.of_below hb5) (List.prefix_refl _)
      · rcases hs with hs | hs
        · exact hmd.o1 i hi hs
        · have := (hmd.ids.choose_spec.1.lt i hi).1
          have := hSb i hs
          omega
      · rcases hs with hs | hs
        · exact hmd.o2 i hi hs
        · have := (hmd.txs.lt i hi).1
          have := hSb i hs
          omega
    · rintro (hs | hs)
      · have := hA4.sL _ hs
        omega
      · have := hSb _ hs
        have := hG4.size
        omega
  have HE := hide hE
  have hT5 : T4.length ≤ 30 := by simp at hT4; omega
  clear hmd hpre4 hT4 hA4 hG4 hb5 hE HD HM
  go_upto_region 5 with fail
  generalize w4.alloc (.cells #[.slice A1 l.length c1, .slice A2 l.length c2] 31) = w5 at HE ⊢
  generalize w4.heap.size = b7 at HE ⊢
  generalize w3.heap.size = B0 at HE ⊢
  have HAW := hide (fun (W : World) (hb : Below w1.heap.size w1 W) => awake02_any (HT.out.below hb))
  go_wp2_with fail
  go_loopw [8] (fun vi wr => ∃ (i : Nat) (Ta : List Tm) (Sa : Nat → Prop) (Tb : List Tm) (Sb : Nat → Prop), vi = .int .i64 i ∧ i ≤ l.length ∧ Hid (EnS w1 B0 w1.heap.size ga Ta Sa w2.heap.size gb Tb Sb (makes l) (.slice A1 l.length c1) (.slice A2 l.length c2) b7 wr) ∧ Ta.length ≤ capE i ∧ Tb.length ≤ capE i) (fun vi _ => l.length - (intOf vi).toNat)
  case atStart => exact ⟨0, T4, S4, [], Sb, rfl, Nat.zero_le _, HE, by unfold capE; omega, Nat.zero_le _⟩
  case round =>
    obtain ⟨i, Ta, Sa', Tb, Sb', rfl, hi, hI, hla, hlb⟩ := hrel
    have hcs := capE_succ i
    have hcl := capE_lim (i := i) (by omega)
    by_cases hlt : i < l.length
    · have hii : (i : Int) < l.length := by omega
      obtain ⟨o, ho⟩ : ∃ o, (makes l)[i]? = some o := ⟨_, List.getElem?_eq_getElem (by omega)⟩
      obtain ⟨g1, g2, m, rfl, rfl, n1, n2, l1, l2, k1, k2, hid⟩ := mdo_at hI.out.mdo hml ho
      have m0 : wr.cell? ⟨b7, 0, none⟩ = some (.slice (some ⟨g1, 0, none⟩) l.length c1) := hI.out.blk.cell 0
      have m1 : wr.cell? ⟨b7, 1, none⟩ = some (.slice (some ⟨g2, 0, none⟩) l.length c2) := hI.out.blk.cell 1
      have lb := hI.out.blk.lt
      have HEn := hide (encode_any hI.out.two.a1 m)
      rw [hid.1] at HEn
      have Hid1 := hide hid
      clear hid HE HL
      cases o with
      | none =>
        clear ho
        rw [show txt none = ([] : List UInt8) from rfl] at HEn k2
        rw [show bs [] = ⟨#[]⟩ from rfl] at k2
        go_wp2_with fail
        refine HEn.out.mono ?_
        rintro e w6 ⟨rfl, hb6⟩
        rw [show bs [] = ⟨#[]⟩ from rfl]
        have m1' := (hb6.cell (p := ⟨b7, 1, none⟩) lb).trans m1
        have k2' := (hb6.cell (p := ⟨g2, i, none⟩) l2).trans k2
        clear m0 m1 k1 k2
        go_wp2
        exact ⟨⟨i + 1, Ta, Sa', Tb, Sb', by go_num, by omega, hide (hI.out.below hb6), by omega, by omega⟩, by simp [intOf]; omega⟩
      | some t =>
        have hfn : good t ∧ (enc t).length ≤ 131072 := Hfine.out (some t) (List.mem_of_getElem? ho) t rfl
        obtain ⟨hf1, hf2⟩ := hfn
        have hfn : good t ∧ (enc t).length ≤ 131072 := ⟨hf1, hf2⟩
        have hx1 := enc_toList_ne t
        have HD1 := hide (fun W (hb : Below wr.heap.size wr W) => decode_enc (hI.out.two.below hb).use1 hf1 hf2 (by omega))
        have Hf2 := hide hf2
        clear ho hfn hf2
        rw [show txt (some t) = enc t from rfl] at HEn k2
        have HXt := hide (show bs (enc t) = bs (txt (some t)) from rfl)
        generalize hx : bs (enc t) = x at HEn k2 hx1 HD1 HXt ⊢
        have Hx := hide hx
        clear hx
        have hxx : (x.toList != x.toList) = false := bne_self_eq_false _
        go_wp2_with fail
        refine HEn.out.mono ?_
        rintro e w6 ⟨rfl, hb6⟩
        rw [Hx.out]
        have m1' := (hb6.cell (p := ⟨b7, 1, none⟩) lb).trans m1
        have k2' := (hb6.cell (p := ⟨g2, i, none⟩) l2).trans k2
        have hI6 := hide (hI.out.below hb6)
        have HD6 := hide (HD1.out w6 hb6)
        have k1' := (hb6.cell (p := ⟨g1, i, none⟩) l1).trans k1
        have l1' := Nat.lt_of_lt_of_le l1 hb6.size
        clear m0 m1 k1 k2 HD1
        go_wp2_with fail
        refine HD6.out.mono ?_
        rintro e w7 ⟨T7, S7, m7, rfl, hid7, hA7, hG7, hp7, hl7⟩
        have hI7 := hI6.out.grown1 hG7 hA7 hp7 (by omega)
        have hm7 : m7 = m := arg_inj hA7.ok hid7.1 (Hid1.out.pre hp7).1
        subst hm7
        have HD7 := hide (decode_enc hI7.two.use2 hf1 Hf2.out (by omega))
        rw [Hx.out] at HD7
        have k1 := (hG7.su1 Sb').outs.cell k1' n1
        have n1' := (hG7.su1 Sb').notin2 n1 l1'
        clear k1' k2' m1' hG7 hA7
        go_wp2_with fail
        refine HD7.out.mono ?_
        rintro e w8 ⟨T8, S8, m8, rfl, hid8, hA8, hG8, hp8, hl8⟩
        have hI8 := hI7.grown2 hG8 hA8 (by omega)
        have k1' := (hG8.su2 S7).outs.cell k1 n1'
        have m0 : w8.cell? ⟨b7, 0, none⟩ = some (.slice (some ⟨g1, 0, none⟩) l.length c1) := hI8.blk.cell 0
        have HE8 := hide (encode_any hA8 m8)
        rw [hid8.1] at HE8
        have HI8 := hide hI8
        clear hG8 hA8 hI7 hI8 k1
        go_wp2_with fail
        refine HE8.out.mono ?_
        rintro e w9 ⟨rfl, hb9⟩
        rw [← HXt.out]
        go_wp2
        exact ⟨⟨i + 1, T7, S7, T8, S8, by go_num, by omega, hide (HI8.out.below hb9), by omega, by omega⟩, by simp [intOf]; omega⟩
    · obtain rfl : i = l.length := by omega
      have hii : ¬ (l.length : Int) < l.length := by omega
      have HI := hide hI.out
      have HEa := hide (fun W (hb : Below wr.heap.size wr W) => encode_any ((hI.out.below hb).two.a1) (-1))
      have HU1 := hide (fun W => wNum_any k W hk)
      have HU2 := hide (fun W => rU32_any k W hk)
      have wk : wrap64 (k : Int) = k := by unfold wrap64; omega
      have hwb := hI.out.two.bel
      clear hI HE HL
      go_wp2_with fail
      refine (HAW.out _ hwb).mono ?_
      rintro e w6 ⟨rfl, hb6⟩
      go_wp2_with fail
      refine (HU1.out _).mono ?_
      rintro e w7 ⟨rfl, hb7⟩
      go_wp2_with fail
      refine (HU2.out _).mono ?_
      rintro e w8 ⟨rfl, hb8⟩
      have hb68 : Below wr.heap.size wr w8 := hb6.trans ((hb7.trans (hb8.mono hb7.size)).mono hb6.size)
      have HEb := hide (HEa.out _ hb68)
      rw [show arg Ta (-1) = none from rfl, show txt none = ([] : List UInt8) from rfl] at HEb
      go_wp2_with fail
      refine HEb.out.mono ?_
      rintro e w9 ⟨rfl, hb9⟩
      rw [show bs [] = ⟨#[]⟩ from rfl]
      go_wp2_with fail
      refine (encode_nil 0 w9).mono ?_
      rintro e w10 ⟨rfl, hb10⟩
      rw [show bs [] = ⟨#[]⟩ from rfl]
      go_wp2_with fail
      go_ret
      exact ⟨by simp, hwb.trans ((hb68.trans ((hb9.trans (hb10.mono hb9.size)).mono hb68.size)).mono hwb.size)⟩
end
end Go.Proofs.YtfjegckomjpkdaaGreatDoor
