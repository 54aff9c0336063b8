/-
  Contracts of a conf's parts: prefs.Check, the reference's Checks of prefs and of a gate. Conditions: lists of at most 1,000,000 texts; the listed variables are there.
-/
import Derived.Test.YtjaipdenahlheaaDoorKCfE
set_option linter.unusedVariables false
set_option linter.unusedSimpArgs false
namespace Go.Proofs.YtjaipdenahlheaaDoor
open Go.RowKit Go.ChangeShapes Go.WideShapes Go.Sort
/-- The first thing that is wrong with lists, from the i-th on. -/
def prF : Nat → List (List (List UInt8)) → Option (Nat × Int)
  | _, [] => none
  | i, l :: r => if listW l (i == 0) ≠ 0 then some (i, listW l (i == 0)) else prF (i + 1) r
def prW (ls : List (List (List UInt8))) : Option (Nat × Int) := prF 0 ls
def prR (o : Option (Nat × Int)) : Option (List (List UInt8) × Int) := o.map fun x => ([[112, 114, 101, 102, 115], wordL x.1], x.2)
theorem prF_no {ls : List (List (List UInt8))} {k : Nat} (hk : k < ls.length) (h : listW ls[k] (k == 0) ≠ 0) : prF k (ls.drop k) = some (k, listW ls[k] (k == 0)) := by
  rw [List.drop_eq_getElem_cons hk]
  unfold prF
  rw [if_pos h]
theorem prF_go {ls : List (List (List UInt8))} {k : Nat} (hk : k < ls.length) (h : listW ls[k] (k == 0) = 0) : prF k (ls.drop k) = prF (k + 1) (ls.drop (k + 1)) := by
  rw [List.drop_eq_getElem_cons hk]
  conv => lhs; unfold prF
  rw [if_neg (by rw [h]; decide)]
theorem prF_end {ls : List (List (List UInt8))} {k : Nat} (hk : ls.length ≤ k) : prF k (ls.drop k) = none := by
  rw [List.drop_of_length_le hk]
  rfl
/-- Eight lists in a row, each in a slice that has room for it. -/
def RowC (w : World) (g : Nat) (ls : List (List (List UInt8))) : Prop := ls.length = 8 ∧ g < w.heap.size ∧ ∀ i, (hi : i < ls.length) → ∃ A c, w.cell? ⟨g, i, none⟩ = some (.slice A ls[i].length c) ∧ Txs w (.slice A ls[i].length c) ls[i] ∧ ls[i].length ≤ c
theorem RowC.below {w w' : World} {g : Nat} {ls : List (List (List UInt8))} (h : RowC w g ls) (hb : Below w.heap.size w w') : RowC w' g ls :=
  ⟨h.1, Nat.lt_of_lt_of_le h.2.1 hb.size, fun i hi => let ⟨A, c, h1, h2, h3⟩ := h.2.2 i hi; ⟨A, c, (hb.cell (p := ⟨g, i, none⟩) h.2.1).trans h1, h2.below hb, h3⟩⟩
/-- Eight values, each a list in a slice that has room for it. -/
def All8 (w : World) (vs : List Value) (ls : List (List (List UInt8))) : Prop := vs.length = 8 ∧ ls.length = 8 ∧ ∀ (i : Nat) v l, vs[i]? = some v → ls[i]? = some l → Txc w v l ∧ l.length ≤ 1000000 ∧ ∀ y ∈ l, y.length ≤ 1000000
theorem All8.below {w w' : World} {vs : List Value} {ls : List (List (List UInt8))} (h : All8 w vs ls) (hb : Below w.heap.size w w') : All8 w' vs ls :=
  ⟨h.1, h.2.1, fun i v l h1 h2 => ⟨(h.2.2 i v l h1 h2).1.below hb, (h.2.2 i v l h1 h2).2⟩⟩
theorem All8.allS {w : World} {vs : List Value} {ls : List (List (List UInt8))} (h : All8 w vs ls) : AllS 0 w vs (ls.map bss) := by
  refine ⟨by rw [List.length_map, h.1, h.2.1], fun i v s h1 h2 => ?_⟩
  rw [List.getElem?_map, Option.map_eq_some_iff] at h2
  obtain ⟨l, hl, rfl⟩ := h2
  have := h.2.2 i v l h1 hl
  exact ⟨this.1.1, by rw [bss, List.length_map]; omega⟩
theorem All8.small {w : World} {vs : List Value} {ls : List (List (List UInt8))} (h : All8 w vs ls) : ∀ l ∈ ls, l.length ≤ 1000000 ∧ ∀ y ∈ l, y.length ≤ 1000000 := by
  intro l hl
  obtain ⟨i, hi, rfl⟩ := List.mem_iff_getElem.1 hl
  have hv : i < vs.length := by have := h.1; have := h.2.1; omega
  exact (h.2.2 i _ _ (List.getElem?_eq_getElem hv) (List.getElem?_eq_getElem hi)).2
theorem PL8.rowc {w w' : World} {g : Nat} {ls : List (List (List UInt8))} (h : PL8 w g ls 8 w') (hl : ls.length = 8) : RowC w' g ls := by
  obtain ⟨vs, hB, hA, h0⟩ := h.row
  obtain ⟨v0, l0, mid, e0, e1, ho, hlt, hgm, hmz, hre⟩ := h0 (by decide)
  refine ⟨hl, hB.lt, fun i hi => ?_⟩
  have hv : i < vs.length := by have := hA.1; rw [List.length_map] at this; omega
  have hN : NewC 0 w' vs[i] ls[i] := by
    by_cases hi0 : i = 0
    · subst hi0
      have e3 : vs[0] = v0 := by rw [List.getElem?_eq_getElem hv] at e0; exact Option.some.inj e0
      have e4 : ls[0] = l0 := by rw [List.getElem?_eq_getElem hi] at e1; exact Option.some.inj e1
      rw [e3, e4]
      obtain ⟨A', c', rfl⟩ := own_slN ho
      exact (newC_own ho rfl).mono (Nat.zero_le _)
    · exact (hre i vs[i] ls[i] (by omega) (by omega) (List.getElem?_eq_getElem hv) (List.getElem?_eq_getElem hi)).mono (Nat.zero_le _)
  obtain ⟨A, c, e, hc, hS⟩ := id hN
  have ht := hN.txc.1
  rw [e] at ht
  refine ⟨A, c, ?_, ht, hc⟩
  rw [hB.cell i, ← e]
  simp
section
variable {w : World}
theorem plc_any {v0 v1 v2 v3 v4 v5 v6 v7 : Value} {ls : List (List (List UInt8))} (h : All8 w [v0, v1, v2, v3, v4, v5, v6, v7] ls) :
    Calls Tryd.prog 17 #[.agg #[v0, v1, v2, v3, v4, v5, v6, v7]] w fun e w' => ∃ g, e = .returned (.slice (some ⟨g, 0, none⟩) 8 8) ∧ RowC w' g ls ∧ Below w.heap.size w w' :=
  (plown_any h.allS (fun l hl => (h.small l hl).1)).mono fun _ _ h2 => let ⟨g, e, _, hP⟩ := h2; ⟨g, e, hP.rowc h.2.1, hP.bel⟩
theorem kx_eq {k : Nat} : ((k : Int) == 0) = (k == 0) := by
  rw [Bool.eq_iff_iff, beq_iff_eq, beq_iff_eq]
  omega
set_option maxHeartbeats 4000000 in
theorem pcheck_any {v0 v1 v2 v3 v4 v5 v6 v7 : Value} {ls : List (List (List UInt8))} (hM : MethV w) (hW : WordV w) (h : All8 w [v0, v1, v2, v3, v4, v5, v6, v7] ls) :
    Calls Tryd.prog 38 #[.agg #[v0, v1, v2, v3, v4, v5, v6, v7]] w (ErrR (prR (prW ls)) w) := by
  obtain ⟨⟨A0, n0, c0, e0⟩, ⟨A1, n1, c1, e1⟩, ⟨A2, n2, c2, e2⟩, ⟨A3, n3, c3, e3⟩, ⟨A4, n4, c4, e4⟩, ⟨A5, n5, c5, e5⟩, ⟨A6, n6, c6, e6⟩, ⟨A7, n7, c7, e7⟩⟩ := h.allS.sl8
  subst e0 e1 e2 e3 e4 e5 e6 e7
  obtain ⟨W0, hW0⟩ : ∃ W0, W0 = w.alloc (.cells #[.slice A0 n0 c0, .slice A1 n1 c1, .slice A2 n2 c2, .slice A3 n3 c3, .slice A4 n4 c4, .slice A5 n5 c5, .slice A6 n6 c6, .slice A7 n7 c7] 24) := ⟨_, rfl⟩
  have hb0 : Below w.heap.size w W0 := by rw [hW0]; (repeat (first | exact Below.refl _ _ | refine below_drewN ?_ _ | refine Below.drew ?_ | refine Below.alloc ?_ (by first | omega | (simp; done) | (simp; omega)) _ | refine Below.setCell ?_ (by first | omega | (simp; done) | (simp; omega)) _ | refine bel_alloc ?_ _ | refine bel_trans ?_ (by assumption) | refine Below.trans ?_ (Below.mono (by assumption) (by first | omega | (simp; done) | (simp; omega)))))
  have hB0 : Blk W0 w.heap.size 24 #[.slice A0 n0 c0, .slice A1 n1 c1, .slice A2 n2 c2, .slice A3 n3 c3, .slice A4 n4 c4, .slice A5 n5 c5, .slice A6 n6 c6, .slice A7 n7 c7] := by rw [hW0]; exact Blk.new w _ _
  have h8 := h.2.1
  have HL := hide (plc_any (h.below hb0))
  have HS := hide h.small
  have HV := hide (fun (W : World) (hb : Below w.heap.size w W) => And.intro (hM.below hb) (hW.below hb))
  have z0 := hB0.cell 0
  have z1 := hB0.cell 1
  have z2 := hB0.cell 2
  have z3 := hB0.cell 3
  have z4 := hB0.cell 4
  have z5 := hB0.cell 5
  have z6 := hB0.cell 6
  have z7 := hB0.cell 7
  simp at z0 z1 z2 z3 z4 z5 z6 z7
  have HB0 := hide hb0
  clear h hM hW hb0 hB0
  go_enter Tryd.func38, Tryd.ntmps38
  go_upto_region 1 with fail
  rw [← hW0]
  clear hW0
  go_wp2_with (first | (go_at_call 17; refine HL.out.mono ?_; rintro e w1 ⟨g, rfl, hR, hb1⟩) | fail)
  have HB1 := hide (HB0.out.trans (hb1.mono HB0.out.size))
  have HR := hide hR
  clear HL HB0 hb1 hR z0 z1 z2 z3 z4 z5 z6 z7
  go_loopw [9] (fun i wr => (∃ k : Nat, k ≤ 8 ∧ i = .int .i64 k ∧ Hid (prW ls = prF k (ls.drop k))) ∧ Hid (Below w.heap.size w wr ∧ RowC wr g ls)) (fun i _ => 8 - (intOf i).toNat)
  case atStart => exact ⟨⟨0, Nat.zero_le _, rfl, hide rfl⟩, hide ⟨HB1.out, HR.out⟩⟩
  case round =>
    obtain ⟨⟨k, hk, rfl, H⟩, HB⟩ := hrel
    by_cases hlt : k < 8
    · have hltI : (k : Int) < 8 := by omega
      have hkl : k < ls.length := by omega
      obtain ⟨A, c, hc0, ht, hcc⟩ := HB.out.2.2.2 k hkl
      have hg := HB.out.2.2.1
      have hs := HS.out _ (List.getElem_mem hkl)
      have HG0 := hide (plist_any (HV.out _ HB.out.1).2 k hlt)
      have HWr := hide (pwrong_any (HV.out _ HB.out.1).1 ht hcc hs.1 hs.2 (k == 0))
      have hkx := kx_eq (k := k)
      have Hno := hide (fun h => prF_no hkl h)
      have Hgo := hide (fun h => prF_go hkl h)
      clear ht hcc hs
      generalize ls[k] = l at HWr hc0 Hno Hgo
      generalize l.length = nl at HWr hc0
      generalize hbw : bs (wordL k) = wd at HG0
      by_cases hz : listW l (k == 0) = 0
      · rw [hz] at HWr
        have H2 := hide (H.out.trans (Hgo.out hz))
        have HN := hide (fun (W : World) => fof_nil wd W)
        clear hz Hno Hgo H hbw
        generalize (k == 0) = kx at HWr hkx
        go_wp2_with (first | (go_at_call 55; refine HG0.out.mono ?_; rintro e w2 ⟨rfl, rfl⟩) | (go_at_call 56; refine HWr.out.mono ?_; rintro e w3 ⟨rfl, hb3⟩) | (go_at_call 53; refine (HN.out _).mono ?_; rintro e w4 ⟨rfl, rfl⟩) | fail)
        have HB3 := hide (And.intro (HB.out.1.trans (hb3.mono HB.out.1.size)) (HB.out.2.below hb3))
        go_roundw
        case rel => exact ⟨⟨k + 1, hlt, by go_num, H2⟩, HB3⟩
        case measure => simp [intOf]; omega
      · have hz1 : (listW l (k == 0) == 0) = false := by rw [beq_eq_false_iff_ne]; exact hz
        have HO := hide (fun (W : World) => fof_any wd (listW l (k == 0)) hz1 W)
        have E := hide (show prR (prW ls) = some ([[112, 114, 101, 102, 115], wd.data.toList], listW l (k == 0)) from by rw [H.out, Hno.out hz, ← hbw]; rfl)
        have HT := hide (fun (W : World) (s : ByteArray) (b : Nat) (ps : List (List UInt8)) (k : Int) (h : IsErr W (errV b) ps k) => fat_any s b h)
        clear hz Hno Hgo H hbw
        generalize (k == 0) = kx at HWr hkx HO E hz1
        generalize listW l kx = z at HWr HO E hz1
        go_wp2_with (first | (go_at_call 55; refine HG0.out.mono ?_; rintro e w2 ⟨rfl, rfl⟩) | (go_at_call 56; refine HWr.out.mono ?_; rintro e w3 ⟨rfl, hb3⟩) | (go_at_call 53; refine (HO.out _).mono ?_; rintro e w4 ⟨b, rfl, hi, hb4⟩; have HT2 := hide (HT.out _ ⟨#[112, 114, 101, 102, 115]⟩ b _ _ hi); unfold errV at HT2; try unfold errV) | (go_at_call 29; refine HT2.out.mono ?_; rintro e w5 ⟨b2, rfl, hi2, hb5⟩) | fail)
        go_ret
        have hb45 := hb4.trans (hb5.mono hb4.size)
        have hb35 := hb3.trans (hb45.mono hb3.size)
        exact errR_s E.out (HB.out.1.trans (hb35.mono HB.out.1.size)) rfl hi2
    · have hltI : ¬ (k : Int) < 8 := by omega
      have E := hide (show prR (prW ls) = none from by rw [H.out, prF_end (by omega)]; rfl)
      clear H
      go_wp2_with fail
      go_ret
      exact errR_n E.out HB.out.1 rfl
end
end Go.Proofs.YtjaipdenahlheaaDoor
