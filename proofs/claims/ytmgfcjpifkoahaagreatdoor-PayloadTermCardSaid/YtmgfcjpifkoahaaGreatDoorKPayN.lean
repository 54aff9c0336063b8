/-
  payload.Term of no arena: none. Conditions: payloads of at most 32,768 bytes.
-/
import Derived.Test.YtmgfcjpifkoahaaGreatDoorKPayRG
set_option linter.unusedVariables false
set_option linter.unusedSimpArgs false
namespace Go.Proofs.YtmgfcjpifkoahaaGreatDoor
open Go.RowKit Go.ChangeShapes Go.WideShapes Go.Sort
structure RowN (W0 wr : World) (n : Nat) (v : Value) : Prop where
 bel : Below W0.heap.size W0 wr
 own : ∃ xs : List Value, xs.length = n ∧ wr.ownsRow W0.heap.size 25 1 v n xs
section
variable {W0 wr wz : World} {n : Nat} {v : Value}
theorem RowN.below (h : RowN W0 wr n v) (hb : Below wr.heap.size wr wz) : RowN W0 wz n v := by
 obtain ⟨xs, h1, h2⟩ := h.own
 exact ⟨h.bel.trans (hb.mono h.bel.size), xs, h1, h2.kept (only_of_below hb none) (by cases v.ownBlock <;> simp)⟩
theorem RowN.sl (h : RowN W0 wr n v) : ∃ A c, v = .slice A n c := by
 obtain ⟨xs, h1, h2⟩ := h.own
 exact own_sl h2
theorem wp_rowN {ops : Array Oper} {rest : List Oper} {o : Oper} {a : Act} {Q : Exit → Act → World → Prop} (x : Int) (m : Nat) (hm : m = n + 1) (hgd : o.guard = none) (s y : Operand)
  (ho : o.op = .call { callee := .builtin .append, args := #[s, y], argTypes := #[34, 34] }) (hR : RowN W0 wr n v) (hs : a.eval s = v) (hy : a.eval y = .slice (some ⟨wr.heap.size, 0, none⟩) 1 1) (hl : n ≤ 1000000)
  (h : ∀ A c w', RowN W0 w' m (.slice A m c) → wpList Tryz.prog ops Q rest (a.put o.dst (.slice A m c)) w') : wpList Tryz.prog ops Q (o :: rest) a (wr.alloc (.cells #[.int .i64 x] 25)) := by
 obtain ⟨iS, hiS, hS0, hS1, hS2⟩ := info_parts infoIDr
 have hsz := hR.bel.size
 obtain ⟨xs, hxl, hown⟩ := hR.own
 subst hm
 refine wpList_append_any _ hgd s y 34 ho W0.heap.size 25 iS (.int .i64 0) 1 8 Tryz.underlying34 hiS hS0 hS1 hS2 rfl (by decide) v n _ hs (hown.alloc _) _ (some ⟨_, 0, none⟩) 1 1 [.int .i64 x] hy (reads_blk (Blk.new _ _ _) rfl) (by simp [Value.oneCell']) (by unfold maxLen; omega) (by omega) (by simp; omega) ?_
 intro v' w' hown2 hgr _
 have hlo := fun i hi => (hown.lt i hi).1
 have hb : Below W0.heap.size W0 w' := (hR.bel.alloc hR.bel.size _).grown hgr (by simp; omega) hlo
 obtain ⟨A, c, rfl⟩ := own_sl hown2
 exact h A c w' ⟨hb, _, by simp [hxl], hown2⟩
end
section
variable {w : World}
theorem pvalue_nil (hT : Tab w) (hM : MaxL w) {x : Fld} (hx : FldK x) {A : Option Addr} {c : Nat} (ht : Txs w (.slice A x.l.length c) x.l) (hc : x.l.length ≤ c) :
  Calls Tryz.prog 26 #[.pointer none, .agg #[.int .u8 x.k, .int .i64 x.n, .string (bs x.s), .slice A x.l.length c]] w (fun e w' => e = .returned (.int .i64 (-1)) ∧ Below w.heap.size w w') := by
 obtain ⟨W0, hW0⟩ : ∃ W0, W0 = w.alloc (.cells #[.int .u8 x.k, .int .i64 x.n, .string (bs x.s), .slice A x.l.length c] 67) := ⟨_, rfl⟩
 have hb0 : Below w.heap.size w W0 := by rw [hW0]; exact bel_by
 have hX0 : Blk W0 w.heap.size 67 #[.int .u8 x.k, .int .i64 x.n, .string (bs x.s), .slice A x.l.length c] := by rw [hW0]; exact Blk.new w _ _
 have y0 := hX0.cell 0
 have y1 := hX0.cell 1
 have y2 := hX0.cell 2
 have y3 := hX0.cell 3
 simp only [List.getElem?_toArray, List.getElem?_cons_zero, List.getElem?_cons_succ] at y0 y1 y2 y3
 have Hb0 := hide hb0
 by_cases hk : x.k = 116
 ·have hk1 : ((x.k : Int) == 116) = true := by rw [hk]; rfl
  have HO := hide (fldOf_nil (hT.below hb0) (bs x.s) (by show x.s.length ≤ _; have := hx.sl; omega))
  clear hx ht hc hM hT hb0 hX0 hk
  go_enter Tryz.func26, Tryz.ntmps26
  go_upto_region 1 with fail
  rw [← hW0]
  clear hW0
  go_wp2_with fail
  refine HO.out.mono ?_
  rintro e w1 ⟨rfl, hb1⟩
  go_wp2_with fail
  go_ret
  exact ⟨rfl, Hb0.out.trans (hb1.mono Hb0.out.size)⟩
 ·have hk1 : ((x.k : Int) == 116) = false := by rw [beq_eq_false_iff_ne]; omega
  have HV := hide (value07_any (hM.below hb0) x hx.sz hx.lt (ht.below hb0) hc)
  have HE := hide (valF_ok hx.ok hx.le)
  have HD := hide (fun (W : World) => adata_nil (bs (putF x).2) W)
  unfold fldV at HV
  clear hx ht hc hM hT hb0 hX0 hk
  go_enter Tryz.func26, Tryz.ntmps26
  go_upto_region 1 with fail
  rw [← hW0]
  clear hW0
  go_wp2_with fail
  refine HV.out.mono ?_
  rintro e w1 ⟨rfl, hb1⟩
  rw [HE.out]
  clear HE HV
  go_wp2_with fail
  refine (HD.out _).mono ?_
  rintro e w2 ⟨rfl, hb2⟩
  go_wp2_with fail
  go_ret
  exact ⟨rfl, Hb0.out.trans ((hb1.trans (hb2.mono hb1.size)).mono Hb0.out.size)⟩
set_option maxHeartbeats 4000000 in
set_option maxRecDepth 100000 in
theorem pterm_nil (hT : Tab w) (hM : MaxL w) (pl : ByteArray) (hpl : pl.size ≤ 32768) : Calls Tryz.prog 9 #[.pointer none, .string pl] w (fun e w' => e = .returned (.int .i64 (-1)) ∧ Below w.heap.size w w') := by
  have HDc := hide (decode_anyN pl (by omega) hM)
  have HT := hide hT
  have HM := hide hM
  have HN := hide (fun (s : ByteArray) (W : World) => adata_nil s W)
  clear hT hM
  go_enter Tryz.func9, Tryz.ntmps9
  go_wp2_with fail
  refine HDc.out.mono ?_
  rintro e w1 ⟨hb1, ⟨num, l, A, c, hd, rfl, hF⟩ | ⟨q, ps, k, hk, rfl, _⟩⟩
  · obtain ⟨hK, hll, hnum⟩ := dec_flds hd
    have HK := hide hK
    clear hd hK
    go_upto_region 2 with fail
    obtain ⟨w2, hw2⟩ : ∃ W, W = w1.alloc (.cells #[.int .i64 (num : Nat), .slice A l.length c] 60) := ⟨_, rfl⟩
    have hbx : Below w1.heap.size w1 w2 := by rw [hw2]; exact bel_newN _
    have hXm : Blk w2 w1.heap.size 60 #[.int .i64 (num : Nat), .slice A l.length c] := by rw [hw2]; exact Blk.new w1 _ _
    rw [← hw2]
    clear hw2
    have hb12 := hb1.trans (hbx.mono hb1.size)
    have HFl := hide (hF.below hbx)
    have HXm := hide hXm
    have Hb12 := hide hb12
    have m0 := hXm.cell 0
    have m1 := hXm.cell 1
    simp only [List.getElem?_toArray, List.getElem?_cons_zero, List.getElem?_cons_succ] at m0 m1
    have hn8 : (num : Int) % 256 = num := by omega
    have hn9 : IntKind.u8.wrap (num : Int) = num := by rw [IntKind.wrap_u8]; omega
    have HB := hide (fun (W : World) => wByte_any num W hnum)
    have hsz2 := hXm.lt
    clear hXm hF hb1 hbx
    go_upto_region 4 with fail
    go_wp2_with fail
    refine (HB.out _).mono ?_
    rintro e w3 ⟨rfl, hb3⟩
    go_wp2_with fail
    refine (HN.out _ _).mono ?_
    rintro e w4 ⟨rfl, hb4⟩
    have hb24 := hb3.trans (hb4.mono hb3.size)
    go_upto_region 5 with fail
    obtain ⟨w5, hw5⟩ : ∃ W, W = w4.alloc (.cells #[.int .i64 (-1)] 25) := ⟨_, rfl⟩
    have hbz : Below w4.heap.size w4 w5 := by rw [hw5]; exact bel_newN _
    have hrow : w5.ownsRow w2.heap.size 25 1 (.slice (some ⟨w4.heap.size, 0, none⟩) 1 1) 1 [.int .i64 (-1)] := by rw [hw5]; exact own_row1 hb24.size
    rw [← hw5]
    clear hw5
    generalize w4.heap.size = b4 at hrow ⊢
    have HI0 := hide (show RowN w2 w5 1 (.slice (some ⟨b4, 0, none⟩) 1 1) from ⟨hb24.trans (hbz.mono hb24.size), ⟨[.int .i64 (-1)], rfl, hrow⟩⟩)
    clear hrow hbz hb24 hb3 hb4 m0 m1 HB
    have Hmc := hide (HXm.out.below HI0.out.bel HXm.out.lt)
    have y1 := Hmc.out.cell 1
    simp only [List.getElem?_toArray, List.getElem?_cons_zero, List.getElem?_cons_succ] at y1
    clear Hmc
    go_wp2_with fail
    go_loopw [30, 7] (fun vi v wr => ∃ (i : Nat), vi = .int .i64 i ∧ i ≤ l.length ∧ RowN w2 wr (i + 1) v) (fun vi _ _ => l.length - (intOf vi).toNat)
    case atStart => exact ⟨0, rfl, Nat.zero_le _, HI0.out⟩
    case round =>
      obtain ⟨i, rfl, hi, hI⟩ := hrel
      have HI := hide hI
      clear HI0
      obtain ⟨A1, c1, hv⟩ := hI.sl
      subst hv
      by_cases hlt : i < l.length
      · have hii : (i : Int) < l.length := by omega
        obtain ⟨x, hx⟩ : ∃ x, l[i]? = some x := ⟨_, List.getElem?_eq_getElem hlt⟩
        obtain ⟨ad, lv, rfl, hab, c0, c1', c2, c3, ⟨ht, B3, d3, rfl, hc3⟩, hk256⟩ := (HFl.out.below hI.bel).flds.at_ i x hx
        have hbwr := Hb12.out.trans (hI.bel.mono Hb12.out.size)
        have HFx := hide (HK.out x (List.mem_of_getElem? hx))
        have hTr := HT.out.below hbwr
        have hMr := HM.out.below hbwr
        have HV := hide (fun (W : World) (hb : Below wr.heap.size wr W) => pvalue_nil (hTr.below hb) (hMr.below hb) HFx.out (ht.below hb) hc3)
        clear hTr hMr hI ht hx hk256
        generalize hkx : (x.k : Int) = xk at c0 HV
        generalize bs x.s = xs' at c2 HV
        generalize x.n = xn at c1' HV
        generalize x.l.length = xl at c3 HV hc3
        clear hkx hc3
        go_wp2_with (first
          | (go_at_call 26; refine (HV.out _ (by exact bel_by)).mono ?_; rintro e wx ⟨rfl, hbx⟩;
             have hIy := HI.out.below ((bel_newN (w := wr) (.cells #[.int .u8 xk, .int .i64 xn, .string xs', .slice B3 xl d3] 67)).trans (hbx.mono (by simp))))
          | (at_builtin; refine wp_rowN (W0 := w2) (-1) (i + 2) rfl rfl (.tmp 34) (.tmp 38) rfl hIy rfl rfl (by omega) ?_; intro A6 c6 w6 hR6)
          | fail)
        exact ⟨⟨i + 1, by go_num, by omega, hR6⟩, by simp [intOf]; omega⟩
      · obtain rfl : i = l.length := by omega
        have hii : ¬ (l.length : Int) < l.length := by omega
        have HL := hide (alist_nil A1 (l.length + 1) c1 wr (by omega))
        have hbf := Hb12.out.trans (HI.out.bel.mono Hb12.out.size)
        clear hI
        go_wp2_with fail
        refine HL.out.mono ?_
        rintro e w8 ⟨rfl, hb8⟩
        go_wp2_with fail
        go_ret
        exact ⟨rfl, hbf.trans (hb8.mono hbf.size)⟩
  · have Hb1 := hide hb1
    clear hk hb1
    unfold errV
    go_wp2_with fail
    refine (HN.out _ _).mono ?_
    rintro e w2 ⟨rfl, hb2⟩
    have hbm := bel_newN (w := w1) (.cells #[.int .i64 0, .slice none 0 0] 60)
    have hbf := Hb1.out.trans (hbm.mono Hb1.out.size)
    go_wp2_with fail
    go_ret
    exact ⟨rfl, hbf.trans (hb2.mono hbf.size)⟩
end
end Go.Proofs.YtmgfcjpifkoahaaGreatDoor
