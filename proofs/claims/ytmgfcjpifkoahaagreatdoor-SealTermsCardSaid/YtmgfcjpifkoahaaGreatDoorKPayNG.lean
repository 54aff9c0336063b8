/-
  Several of my texts in one: PayW, PayR, PayN.
-/
import Derived.Test.YtmgfcjpifkoahaaGreatDoorKFld
import Derived.Test.YtmgfcjpifkoahaaGreatDoorKGetsG
import Derived.Test.YtmgfcjpifkoahaaGreatDoorKDecW
import Derived.Test.YtmgfcjpifkoahaaGreatDoorKMsgYG
import Derived.Test.YtmgfcjpifkoahaaGreatDoorKFrG
set_option linter.unusedVariables false
set_option linter.unusedSimpArgs false
namespace Go.Proofs.YtmgfcjpifkoahaaGreatDoor
open Go.RowKit Go.ChangeShapes Go.WideShapes Go.Sort
theorem forms_let {n : Int} {f : ByteArray} (h : f ∈ forms n) : ∀ c ∈ f.data.toList, isLet c.toNat = true := by
 have key : ∀ g ∈ forms n, ∀ c ∈ g.data.toList, isLet c.toNat = true := by
  unfold forms
  repeat' refine ite_ok (P := fun l : List ByteArray => ∀ g ∈ l, ∀ c ∈ g.data.toList, isLet c.toNat = true) ?_ ?_
  all_goals decide +kernel
 exact key f h
theorem valF_ok {x : Fld} (ho : okF x) (hl : isLet x.k = true) : valF x = ((putF x).2, true) := by
 have hr : rputF x = putF x := by unfold rputF; rw [if_pos ho.1]
 unfold valF
 rw [hr, if_pos ⟨hl, ho.2⟩]
structure FldK (x : Fld) : Prop where
 ok : okF x
 lt : x.k < 256
 le : isLet x.k = true
 sz : SzF x
 len : (putF x).2.length ≤ 32768
 sl : x.s.length ≤ 40000
theorem dec_flds {p : List UInt8} {n : Nat} {l : List Fld} (h : decS p = .ok n l) : (∀ x ∈ l, FldK x) ∧ l.length ≤ 13 ∧ n < 256 := by
 obtain ⟨he, hp⟩ := enc_dec h
 obtain ⟨c, r, _, hn, _⟩ := decS_get h
 unfold encS at he
 split at he
 ·rename_i hf
  obtain ⟨f1, f2⟩ := fit_get hf
  have hfl : l.length = (fit (n : Int) l.length).1.data.toList.length := f2.symm.trans (size_len _)
  obtain ⟨e1, e2, e3, _⟩ := encGo_get hfl he
  have hpl : ([UInt8.ofNat (n : Int).toNat] ++ putFs l).length = p.length := by rw [e3]
  rw [List.length_append, List.length_singleton] at hpl
  refine ⟨fun x hx => ?_, ?_, ?_⟩
  ·have hm : x.k ∈ l.map (·.k) := List.mem_map.2 ⟨x, hx, rfl⟩
   rw [e1] at hm
   obtain ⟨c, hc, hck⟩ := List.mem_map.1 hm
   have h0 := putFs_mem hx
   obtain ⟨h1, h2, h3⟩ := putF_big (e2 x hx)
   exact ⟨e2 x hx, by rw [← hck]; exact c.toNat_lt, by rw [← hck]; exact forms_let f1 c hc, ⟨by omega, by omega, fun y hy => by have := h3 y hy; omega⟩, by omega, by omega⟩
  ·have := form_le f1
   omega
  ·rw [hn]
   exact c.toNat_lt
 ·cases he
theorem payT_data {p : List UInt8} (h : ∀ n l, decS p ≠ .ok n l) : payT p = tData (bs p) := by
 unfold payT
 split
 ·rename_i n l hd
  exact absurd hd (h n l)
 ·rfl
theorem payT_list {p : List UInt8} {n : Nat} {l : List Fld} (h : decS p = .ok n l) : payT p = tList (tData (bs [UInt8.ofNat n]) :: l.map fldT) := by
 unfold payT
 rw [h]
def MaxB (B : Nat) (w : World) : Prop := ∃ w0 : World, MaxL w0 ∧ w0.heap.size ≤ B ∧ Below w0.heap.size w0 w
theorem MaxB.maxL {B : Nat} {w : World} (h : MaxB B w) : MaxL w := by
 obtain ⟨w0, h1, _, h3⟩ := h
 exact h1.below h3
theorem MaxB.below {B : Nat} {w w' : World} (h : MaxB B w) (hb : Below w.heap.size w w') : MaxB B w' := by
 obtain ⟨w0, h1, h2, h3⟩ := h
 exact ⟨w0, h1, h2, h3.trans (hb.mono h3.size)⟩
theorem MaxB.grown {B g : Nat} {w w' : World} {T : List Tm} {S S' : Nat → Prop} (h : MaxB B w) (hU : Use B w g T S) (hG : Grown S w S' w') : MaxB B w' := by
 obtain ⟨w0, h1, h2, h3⟩ := h
 exact ⟨w0, h1, h2, h3.trans ((hG.below hU.base hU.ar.sB).mono h2)⟩
section
variable {B g : Nat} {w : World} {T : List Tm} {S : Nat → Prop}
theorem DoneF.from {w0 : World} {o : Option Tm} {m : Nat} {e : Ending} {w' : World} (hb : Below w0.heap.size w0 w) (h : DoneF B w g T S o m e w') : DoneF B w0 g T S o m e w' := by
 obtain ⟨T1, n1, S1, e1, h1, h2, h3, h4, h5⟩ := h
 exact ⟨T1, n1, S1, e1, h1, h2, h3, h4, (Grown.of_below hb).trans h5⟩
set_option maxHeartbeats 1000000 in
theorem pvalue_any (h : Use B w g T S) (hM : MaxL w) {x : Fld} (hx : FldK x) {A : Option Addr} {c : Nat} (ht : Txs w (.slice A x.l.length c) x.l) (hc : x.l.length ≤ c) (hT : T.length ≤ 800000000) :
  Calls Tryz.prog 26 #[.pointer (some ⟨g, 0, none⟩), .agg #[.int .u8 x.k, .int .i64 x.n, .string (bs x.s), .slice A x.l.length c]] w (DoneF B w g T S (fldT x) 100000) := by
 obtain ⟨W0, hW0⟩ : ∃ W0, W0 = w.alloc (.cells #[.int .u8 x.k, .int .i64 x.n, .string (bs x.s), .slice A x.l.length c] 67) := ⟨_, rfl⟩
 have hb0 : Below w.heap.size w W0 := by rw [hW0]; exact bel_by
 have hX0 : Blk W0 w.heap.size 67 #[.int .u8 x.k, .int .i64 x.n, .string (bs x.s), .slice A x.l.length c] := by rw [hW0]; exact Blk.new w _ _
 have hU := h.below hb0
 have y0 := hX0.cell 0
 have y1 := hX0.cell 1
 have y2 := hX0.cell 2
 have y3 := hX0.cell 3
 simp only [List.getElem?_toArray, List.getElem?_cons_zero, List.getElem?_cons_succ] at y0 y1 y2 y3
 have Hb0 := hide hb0
 by_cases hk : x.k = 116
 ·have hk1 : ((x.k : Int) == 116) = true := by rw [hk]; rfl
  have HO := hide (fldOf_any hU (bs x.s) (by show x.s.length ≤ _; have := hx.sl; omega) hT)
  have E := hide (show fldT x = ofT (bs x.s).data.toList from by unfold fldT; rw [if_pos hk]; rfl)
  have Hsl := hide hx.sl
  rw [E.out]
  clear hx ht hc hM h hU hb0 hX0 hk E
  go_enter Tryz.func26, Tryz.ntmps26
  go_upto_region 1 with fail
  rw [← hW0]
  clear hW0
  go_wp2_with fail
  refine HO.out.mono ?_
  intro e w1 hD
  obtain ⟨T1, n1, S1, rfl, h1, h2, h3, h4, h5⟩ := hD.from Hb0.out
  have Hf := hide (show DoneF B w g T S (ofT (bs x.s).data.toList) 100000 (.returned (.int .i64 n1)) w1 from ⟨T1, n1, S1, rfl, h1, h2, by have e9 : (bs x.s).size = x.s.length := rfl; rw [e9] at h3; have := Hsl.out; omega, h4, h5⟩)
  clear h1 h2 h3 h4 h5 hD
  go_wp2_with fail
  go_ret
  exact Hf.out
 ·have hk1 : ((x.k : Int) == 116) = false := by rw [beq_eq_false_iff_ne]; omega
  have HV := hide (value07_any (hM.below hb0) x hx.sz hx.lt (ht.below hb0) hc)
  have HE := hide (valF_ok hx.ok hx.le)
  have HD := hide (fun (W : World) (hb : Below W0.heap.size W0 W) => aData_any (hU.below hb) (s := bs (putF x).2) (by show (putF x).2.length ≤ _; have := hx.len; omega))
  have E := hide (show fldT x = tData (bs (putF x).2) from by unfold fldT; rw [if_neg hk])
  rw [E.out]
  unfold fldV at HV
  clear hx ht hc hM h hU hb0 hX0 hk E
  go_enter Tryz.func26, Tryz.ntmps26
  go_upto_region 1 with fail
  rw [← hW0]
  clear hW0
  go_wp2_with fail
  refine HV.out.mono ?_
  rintro e w1 ⟨rfl, hb1⟩
  rw [HE.out]
  clear HE HV
  go_wp2_with fail
  refine (HD.out _ hb1).mono ?_
  intro e w2 hD
  obtain ⟨T1, n1, S1, rfl, h1, h2, h3, h4, h5⟩ := (hD.f.mono (m' := 100000) (by decide)).from (Hb0.out.trans (hb1.mono Hb0.out.size))
  have Hf := hide (show DoneF B w g T S (tData (bs (putF x).2)) 100000 (.returned (.int .i64 n1)) w2 from ⟨T1, n1, S1, rfl, h1, h2, h3, h4, h5⟩)
  clear h1 h2 h3 h4 h5 hD
  go_wp2_with fail
  go_ret
  exact Hf.out
theorem own_row1 {w : World} {b : Nat} {t : TypeId} {x : Value} (hb : b ≤ w.heap.size) : (w.alloc (.cells #[x] t)).ownsRow b t 1 (.slice (some ⟨w.heap.size, 0, none⟩) 1 1) 1 [x] :=
 ⟨rfl, .inr ⟨_, 1, #[x], rfl, hb, Blk.new w t #[x], Nat.le_refl _, by unfold maxLen; omega, rfl, rfl⟩⟩
structure PayI (B : Nat) (w : World) (g : Nat) (T : List Tm) (S : Nat → Prop) (os : List (Option Tm)) (i : Nat) (wr : World) (T' : List Tm) (S' : Nat → Prop) (v : Value) : Prop where
 ar : Ar B wr g T' S'
 grown : Grown S w S' wr
 pre : T <+: T'
 few : T'.length ≤ T.length + 1 + i * 100000
 ids : IdO w.heap.size wr T' (os.take (i + 1)) v S'
theorem flds_keep {lo : Nat} {w w' : World} {A : Option Addr} {l : List Fld} {S S' : Nat → Prop} (h : FldsN lo w A l) (hG : Grown S w S' w') (hS : ∀ i, S i → i < lo) : Flds w' A l :=
 h w' hG.size fun p h1 h2 => World.cell?_of_block (hG.block p.block h2 (fun h3 => by have := hS _ h3; omega))
set_option maxHeartbeats 4000000 in
set_option maxRecDepth 100000 in
theorem pterm_any (h : Use B w g T S) (hM : MaxB B w) (pl : ByteArray) (hpl : pl.size ≤ 32768) (hT : T.length ≤ 700000000) : Calls Tryz.prog 9 #[.pointer (some ⟨g, 0, none⟩), .string pl] w (DoneF B w g T S (payT pl.data.toList) 2000000) := by
  have HDc := hide (decode_anyN pl (by omega) hM.maxL)
  have HTl := hide hT
  have HU := hide h
  have HM := hide hM
  have hSl := h.ar.sL
  have HSl := hide hSl
  clear h hM hSl
  go_enter Tryz.func9, Tryz.ntmps9
  go_wp2_with fail
  refine HDc.out.mono ?_
  rintro e w1 ⟨hb1, ⟨num, l, A, c, hd, rfl, hN⟩ | ⟨q, ps, k, hk, rfl, _⟩⟩
  · have Hd := hide hd
    have E := hide (payT_list hd)
    obtain ⟨hF, hll, hnum⟩ := dec_flds hd
    have HF := hide hF
    clear hd hF
    generalize hosd : tData (bs [UInt8.ofNat num]) :: l.map fldT = os at E
    have hol : os.length = l.length + 1 := by rw [← hosd]; simp
    have Hos := hide hosd
    clear hosd
    go_upto_region 2 with fail
    obtain ⟨w2, hw2⟩ : ∃ W, W = w1.alloc (.cells #[.int .i64 (num : Nat), .slice A l.length c] 60) := ⟨_, rfl⟩
    have hbx : Below w1.heap.size w1 w2 := by rw [hw2]; exact bel_newN _
    have hXm : Blk w2 w1.heap.size 60 #[.int .i64 (num : Nat), .slice A l.length c] := by rw [hw2]; exact Blk.new w1 _ _
    rw [← hw2]
    clear hw2
    have hb12 := hb1.trans (hbx.mono hb1.size)
    have hU2 := HU.out.below hb12
    have HN := hide (hN.below hbx)
    have HXm := hide hXm
    have Hb12 := hide hb12
    have HU2 := hide hU2
    have hsz2 := hb1.size
    have hsz3 := hbx.size
    clear hN hb1 hbx
    have m0 := hXm.cell 0
    have m1 := hXm.cell 1
    simp only [List.getElem?_toArray, List.getElem?_cons_zero, List.getElem?_cons_succ] at m0 m1
    have hn8 : (num : Int) % 256 = num := by omega
    have hn9 : IntKind.u8.wrap (num : Int) = num := by rw [IntKind.wrap_u8]; omega
    have HB := hide (fun (W : World) => wByte_any num W hnum)
    have HD := hide (fun (W : World) (hb : Below w2.heap.size w2 W) => aData_any (hU2.below hb) (s := bs [UInt8.ofNat num]) (by show (1 : Nat) ≤ _; decide))
    clear hU2 hXm hb12
    go_upto_region 4 with fail
    go_wp2_with fail
    refine (HB.out _).mono ?_
    rintro e w3 ⟨rfl, hb3⟩
    go_wp2_with fail
    refine (HD.out _ hb3).mono ?_
    intro e w4 hD
    obtain ⟨T1, n1, S1, rfl, hp1, hA1, hG1⟩ := hD
    have hG14 := (Grown.of_below (S := S) hb3).trans hG1
    have HD1 := hide (And.intro hp1 (And.intro hA1 hG14))
    have hsz4 := hG14.size
    clear hG1 hb3 hp1 hA1 HD HB
    go_upto_region 5 with fail
    obtain ⟨w5, hw5⟩ : ∃ W, W = w4.alloc (.cells #[.int .i64 n1] 25) := ⟨_, rfl⟩
    have hbz : Below w4.heap.size w4 w5 := by rw [hw5]; exact bel_newN _
    have hrow : w5.ownsRow w2.heap.size 25 1 (.slice (some ⟨w4.heap.size, 0, none⟩) 1 1) 1 [.int .i64 n1] := by rw [hw5]; exact own_row1 hsz4
    rw [← hw5]
    clear hw5
    obtain ⟨b4, hb4⟩ : ∃ b, b = w4.heap.size := ⟨_, rfl⟩
    rw [← hb4] at hrow ⊢
    have HI0 := hide (show PayI B w2 g T S os 0 w5 T1 S1 (.slice (some ⟨b4, 0, none⟩) 1 1) from by
      obtain ⟨hp1, hA1, hG14⟩ := HD1.out
      refine ⟨hA1.below hbz, hG14.trans (Grown.of_below hbz), hp1.pre, by have := hp1.len; omega, ⟨⟨[n1], ?_, ?_⟩, ?_⟩⟩
      · rw [← Hos.out]; exact hrow
      · rw [← Hos.out]
        have := (idns_nil T1).snoc hp1.idn
        simpa using this
      · intro i hi hs
        have h1 := hA1.sL i hs
        simp only [Value.ownBlock, Option.some.injEq] at hi
        omega)
    have hm5 := hG14.trans (Grown.of_below hbz)
    have Hmc := hide (hm5.outs.blk HXm.out (fun h => by have := HSl.out _ h; omega))
    have y1 := Hmc.out.cell 1
    simp only [List.getElem?_toArray, List.getElem?_cons_zero, List.getElem?_cons_succ] at y1
    clear hm5 hG14 hrow hbz HD1 m0 m1 Hmc hb4
    go_wp2_with fail
    go_loopw [30, 7] (fun vi v wr => ∃ (i : Nat) (T' : List Tm) (S' : Nat → Prop), vi = .int .i64 i ∧ i ≤ l.length ∧ PayI B w2 g T S os i wr T' S' v) (fun vi _ _ => l.length - (intOf vi).toNat)
    case atStart => exact ⟨0, T1, S1, rfl, Nat.zero_le _, HI0.out⟩
    case round =>
      obtain ⟨i, T', S', rfl, hi, hI⟩ := hrel
      have HI := hide hI
      clear HI0
      obtain ⟨A1, c1, hv⟩ := hI.ids.sl
      have hml : (os.take (i + 1)).length = i + 1 := by rw [List.length_take]; omega
      rw [hml] at hv
      subst hv
      have hwz := hI.grown.size
      have hfew := hI.few
      have hT9 := HTl.out
      by_cases hlt : i < l.length
      · have hii : (i : Int) < l.length := by omega
        obtain ⟨x, hx⟩ : ∃ x, l[i]? = some x := ⟨_, List.getElem?_eq_getElem hlt⟩
        have hFl := flds_keep HN.out hI.grown (fun j hj => by have := HSl.out j hj; omega)
        obtain ⟨ad, lv, rfl, hab, c0, c1', c2, c3, ⟨ht, B3, d3, rfl, hc3⟩, hk256⟩ := hFl.at_ i x hx
        have hUr := HU2.out.grown hI.grown hI.ar (by omega)
        have hMr : MaxL wr := ((HM.out.below Hb12.out).grown HU2.out hI.grown).maxL
        have HFx := hide (HF.out x (List.mem_of_getElem? hx))
        have HV := hide (fun (W : World) (hb : Below wr.heap.size wr W) => pvalue_any (hUr.below hb) (hMr.below hb) HFx.out (ht.below hb) hc3 (by omega))
        have Hsn := hide (show os.take (i + 2) = os.take (i + 1) ++ [fldT x] from by
          rw [List.take_succ_eq_append_getElem (by omega)]
          congr 2
          have h9 : os[i + 1]? = some (fldT x) := by
            rw [← Hos.out, List.getElem?_cons_succ, List.getElem?_map, hx]
            rfl
          rw [List.getElem?_eq_getElem (by omega)] at h9
          exact Option.some.inj h9)
        obtain ⟨iI, hiI, hI0, hI1, hI2⟩ := info_parts infoIDr
        have HIds := hide hI.ids
        clear hFl hUr hMr hI ht hx hk256
        generalize hkx : (x.k : Int) = xk at c0 HV
        generalize bs x.s = xs at c2 HV
        generalize x.n = xn at c1' HV
        generalize x.l.length = xl at c3 HV hc3
        clear hkx hc3
        go_wp2_with (first
          | (go_at_call 26; refine (HV.out _ (by exact bel_by)).mono ?_; rintro e wx ⟨T2, n2, S2, rfl, hidn2, hpre2, hlen2, hA2, hG⟩;
             have hGa := (Grown.of_below (S := S') (bel_newN (w := wr) (.cells #[.int .u8 xk, .int .i64 xn, .string xs, .slice B3 xl d3] 67))).trans hG
             have hX := HIds.out.grown hGa hpre2; obtain ⟨ns, ho1, hidn⟩ := hX.ids; rw [hml] at ho1; have hbx := hGa.size)
          | (at_builtin; refine wpList_append_any _ rfl (.tmp 34) (.tmp 38) _ rfl w2.heap.size 25 iI (.int .i64 0) 1 8 Tryz.underlying34 hiI hI0 hI1 hI2 rfl (by decide) _ _ _ rfl (ho1.alloc _) _ (some ⟨_, 0, none⟩) 1 1 [.int .i64 n2] rfl (reads_blk (Blk.new _ _ _) rfl) (by simp [Value.oneCell']) (by unfold maxLen; omega) (by omega) (by simp; omega) ?_; intro v6 w6 hown6 hgr6 hor6)
          | fail)
        have hIo := HI.out
        have k0 : Kp B w2 g T2 S S2 wx := ⟨hA2, hIo.grown.trans hGa⟩
        have k1 := k0.step (only_alloc (only_refl wx none) (.cells #[.int .i64 n2] 25)) (fun b e => by cases e)
        have k2 := k1.step hgr6 (fun b e => ⟨(ho1.lt b e).1, hX.out b e⟩)
        have hsl : (os.take (i + 2)).length = i + 2 := by rw [Hsn.out, List.length_append, hml]; rfl
        have hidn3 := hidn.snoc hidn2
        have hSx := hA2.sL
        refine ⟨⟨i + 1, T2, S2, by go_num, by omega, k2.ar, k2.grown, hIo.pre.trans hpre2, by have := hIo.few; omega, ⟨ns ++ [n2], ?_, ?_⟩, ?_⟩, by simp [intOf]; omega⟩
        · rw [hsl]; simpa using hown6
        · rw [Hsn.out]; exact hidn3
        · exact at_new hor6 hX.out (fun i hi => by have := hSx i hi; simp; omega)
      · obtain rfl : i = l.length := by omega
        have hii : ¬ (l.length : Int) < l.length := by omega
        have hX := HI.out.ids
        rw [List.take_of_length_le (by omega)] at hX
        obtain ⟨ns, hids, hidn⟩ := hX.ids_
        have hUr := HU2.out.grown HI.out.grown HI.out.ar (by omega)
        have HLs := hide (aList_any hUr hids (by rw [hidn.1]; omega))
        rw [hidn.args] at HLs
        have hGf := (Grown.of_below (S := S) Hb12.out).trans HI.out.grown
        have hpf := HI.out.pre
        clear hX hids hidn hUr
        go_wp2_with fail
        refine HLs.out.mono ?_
        intro e w8 hD
        obtain ⟨T9, n9, S9, rfl, h1, h2, h3, h4, h5⟩ := hD.f
        have Hf := hide (show DoneF B w g T S (payT pl.data.toList) 2000000 (.returned (.int .i64 n9)) w8 from by rw [E.out]; exact ⟨T9, n9, S9, rfl, h1, hpf.trans h2, by omega, h4, hGf.trans h5⟩)
        clear h1 h2 h3 h4 h5 hD hGf hpf
        go_wp2_with fail
        go_ret
        exact Hf.out
  · have hno : ∀ n l, decS pl.data.toList ≠ .ok n l := fun n l e => by rw [e] at hk; cases hk
    have E := hide (payT_data hno)
    have HD := hide (fun (W : World) (hb : Below w1.heap.size w1 W) => aData_any (HU.out.below (hb1.trans (hb.mono hb1.size))) (s := pl) (by omega))
    have Hb1 := hide hb1
    clear hno hk hb1
    unfold errV
    go_wp2_with fail
    refine (HD.out _ (by exact bel_by)).mono ?_
    intro e w2 hD
    have hbm := bel_newN (w := w1) (.cells #[.int .i64 0, .slice none 0 0] 60)
    obtain ⟨T1, n1, S1, rfl, h1, h2, h3, h4, h5⟩ := (hD.f.mono (m' := 2000000) (by decide)).from (Hb1.out.trans (hbm.mono Hb1.out.size))
    have Hf := hide (show DoneF B w g T S (payT pl.data.toList) 2000000 (.returned (.int .i64 n1)) w2 from by rw [E.out]; exact ⟨T1, n1, S1, rfl, h1, h2, h3, h4, h5⟩)
    clear h1 h2 h3 h4 h5 hD hbm
    go_wp2_with fail
    go_ret
    exact Hf.out
end
end Go.Proofs.YtmgfcjpifkoahaaGreatDoor
namespace Go.Proofs.YtmgfcjpifkoahaaGreatDoor
open Go.RowKit Go.ChangeShapes Go.WideShapes Go.Sort
structure RowX (W0 wr : World) (os : List (Option Tm)) (v : Value) : Prop where
 bel : Below W0.heap.size W0 wr
 own : wr.ownsRow W0.heap.size 9 1 v os.length (((os.map txt).map bs).map Value.string)
section
variable {W0 wr wz : World} {os : List (Option Tm)} {v : Value}
theorem RowX.below (h : RowX W0 wr os v) (hb : Below wr.heap.size wr wz) : RowX W0 wz os v :=
 ⟨h.bel.trans (hb.mono h.bel.size), h.own.kept (only_of_below hb none) (by cases v.ownBlock <;> simp)⟩
theorem RowX.txs (h : RowX W0 wr os v) : Txs wr v (os.map txt) := own_txs h.own (by simp)
end
end Go.Proofs.YtmgfcjpifkoahaaGreatDoor
namespace Go.Proofs.YtmgfcjpifkoahaaGreatDoor
open Go.RowKit Go.ChangeShapes Go.WideShapes Go.Sort
structure RowN (W0 wr : World) (n : Nat) (v : Value) : Prop where
 bel : Below W0.heap.size W0 wr
 own : ∃ xs : List Value, xs.length = n ∧ wr.ownsRow W0.heap.size 25 1 v n xs
section
variable {W0 wr wz : World} {n : Nat} {v : Value}
theorem RowN.below (h : RowN W0 wr n v) (hb : Below wr.heap.size wr wz) : RowN W0 wz n v := by
 obtain ⟨xs, h1, h2⟩ := h.own
 exact ⟨h.bel.trans (hb.mono h.bel.size), xs, h1, h2.kept (only_of_below hb none) (by cases v.ownBlock <;> simp)⟩
theorem RowN.sl (h : RowN W0 wr n v) : ∃ A c, v = .slice A n c := by
 obtain ⟨xs, h1, h2⟩ := h.own
 exact own_sl h2
end
end Go.Proofs.YtmgfcjpifkoahaaGreatDoor
