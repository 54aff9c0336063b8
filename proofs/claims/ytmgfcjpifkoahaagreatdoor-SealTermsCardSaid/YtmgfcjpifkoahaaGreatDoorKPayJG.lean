/-
  Several of my texts in one: PayB, PayJ.
-/
import Derived.Test.YtmgfcjpifkoahaaGreatDoorKPayNG
import Derived.Test.YtmgfcjpifkoahaaGreatDoorKGetsG
set_option linter.unusedVariables false
set_option linter.unusedSimpArgs false
namespace Go.Proofs.YtmgfcjpifkoahaaGreatDoor
open Go.RowKit Go.ChangeShapes Go.WideShapes Go.Sort
def PieP (o : Option (List UInt8)) (w : World) (e : Ending) (w' : World) : Prop :=
 Below w.heap.size w w' ∧ ((∃ s, o = some s ∧ e = .returned (.tuple #[.string (bs s), .bool true])) ∨ (o = none ∧ ∃ s : ByteArray, s.size ≤ 1000000 ∧ e = .returned (.tuple #[.string s, .bool false])))
noncomputable def datT (t : Tm) : Option (List UInt8) := if t.k = 1 then some t.s.data.toList else none
section
variable {B g : Nat} {w : World} {T : List Tm} {S : Nat → Prop}
set_option maxHeartbeats 1000000 in
set_option maxRecDepth 100000 in
theorem pdata_any (h : Ar B w g T S) (n : Int) : Calls Tryz.prog 56 #[.pointer (some ⟨g, 0, none⟩), .int .i64 n] w (PieP ((arg T n).bind datT) w) := by
 have HV := hide (aview_any h n)
 have HH := hide h.ok
 clear h
 go_enter Tryz.func56, Tryz.ntmps56
 go_wp2_with fail
 refine HV.out.mono ?_
 intro e w1 hV
 rcases hV with ⟨⟨hno, rfl⟩ | ⟨t, js, av, hat, _, rfl, hown⟩, hb1⟩
 ·have Hno := hide hno
  have Hb := hide hb1
  have hbx := bel_newN (w := w1) (.cells #[.int .i64 0, .int .i64 0, .int .i64 0, .string ⟨#[]⟩, .slice none 0 0] 70)
  have hXx := Blk.new w1 70 #[.int .i64 0, .int .i64 0, .int .i64 0, .string ⟨#[]⟩, .slice none 0 0]
  clear hno hb1
  go_upto_region 2 with fail
  generalize w1.alloc (.cells #[.int .i64 0, .int .i64 0, .int .i64 0, .string ⟨#[]⟩, .slice none 0 0] 70) = w2 at hbx hXx ⊢
  generalize w1.heap.size = b1 at hXx ⊢
  have Hb2 := hide (Hb.out.trans (hbx.mono Hb.out.size))
  have x0 := hXx.cell 0
  have x3 := hXx.cell 3
  simp only [List.getElem?_toArray, List.getElem?_cons_zero, List.getElem?_cons_succ] at x0 x3
  clear hbx hXx Hb
  go_quiet (fail)
  go_wp2_with fail
  go_ret2
  rw [Hno.out]
  exact ⟨below_drewN Hb2.out _, .inr ⟨rfl, _, by decide, rfl⟩⟩
 ·obtain ⟨A, c, rfl⟩ := own_sl hown
  have Hat := hide hat
  clear hown
  have hsz := s_le (HH.out.fine t (arg_mem hat))
  have Hb := hide hb1
  have hbx := bel_newN (w := w1) (.cells #[.int .i64 t.k, .int .i64 t.a, .int .i64 t.b, .string t.s, .slice A js.length c] 70)
  have hXx := Blk.new w1 70 #[.int .i64 t.k, .int .i64 t.a, .int .i64 t.b, .string t.s, .slice A js.length c]
  clear hat hb1
  go_upto_region 2 with fail
  generalize w1.alloc (.cells #[.int .i64 t.k, .int .i64 t.a, .int .i64 t.b, .string t.s, .slice A js.length c] 70) = w2 at hbx hXx ⊢
  generalize w1.heap.size = b1 at hXx ⊢
  have Hb2 := hide (Hb.out.trans (hbx.mono Hb.out.size))
  have x0 := hXx.cell 0
  have x3 := hXx.cell 3
  simp only [List.getElem?_toArray, List.getElem?_cons_zero, List.getElem?_cons_succ] at x0 x3
  clear hbx hXx Hb
  by_cases hk : t.k = 1
  ·have ek : ((t.k : Int) == 1) = true := by rw [hk]; rfl
   have E := hide (show ((some t).bind datT) = some t.s.data.toList from by show datT t = _; unfold datT; rw [if_pos hk])
   clear hk
   go_quiet (fail)
   go_wp2_with fail
   go_ret2
   rw [Hat.out, E.out]
   exact ⟨below_drewN Hb2.out _, .inl ⟨_, rfl, rfl⟩⟩
  ·have ek : ((t.k : Int) == 1) = false := by rw [beq_eq_false_iff_ne]; omega
   have E := hide (show ((some t).bind datT) = none from by show datT t = _; unfold datT; rw [if_neg hk])
   clear hk
   go_quiet (fail)
   go_wp2_with fail
   go_ret2
   rw [Hat.out, E.out]
   exact ⟨below_drewN Hb2.out _, .inr ⟨rfl, _, by omega, rfl⟩⟩
theorem pput_any (h : Ar B w g T S) (hT : Tab w) (n : Int) (c : UInt8) : Calls Tryz.prog 58 #[.pointer (some ⟨g, 0, none⟩), .int .i64 n, .int .i32 c.toNat] w (PieP ((arg T n).bind (pieceT c)) w) := by
 have HD := hide (pdata_any h n)
 have HF := hide (fbytes_any h hT n)
 have HW := hide (fun (l : List UInt8) (W : World) (hl : l.length < 4294967296) => wText_bs l W hl)
 have hfn : ∀ t, arg T n = some t → fine t := fun t ht => h.ok.fine t (arg_mem ht)
 have Hfn := hide hfn
 clear h hT hfn
 by_cases hc : c.toNat = 116
 ·have ec : ((c.toNat : Int) != 116) = false := by rw [hc]; rfl
  have hcc := hide hc
  have E : (arg T n).bind (pieceT c) = ((arg T n).bind bytF).map textL := by
   cases arg T n with
   | none => rfl
   | some t => show pieceT c t = (bytF t).map textL; unfold pieceT; rw [if_pos hcc.out]
  have hlen : ((((arg T n).bind bytF).getD []).length) ≤ 131072 := by
   cases ha : arg T n with
   | none => simp
   | some t =>
    have hf := Hfn.out t ha
    show ((bytF t).getD []).length ≤ _
    by_cases hk : t.k = 1
    ·rw [bytF_1 hk]
     unfold dataF
     split
     ·simp
     ·have := s_le hf
      show t.s.data.toList.length ≤ _
      rw [size_len]
      exact this
    ·rw [bytF_n hk]
     exact hf.2
  rw [E]
  generalize (arg T n).bind bytF = o at hlen HF ⊢
  clear E hc HD
  go_enter Tryz.func58, Tryz.ntmps58
  go_wp2_with fail
  refine HF.out.mono ?_
  rintro e w1 ⟨rfl, hb1⟩
  have Hb1 := hide hb1
  clear hb1 HF
  have HW1 := hide (HW.out (o.getD []) w1 (by omega))
  have hle := hide hlen
  clear hlen
  cases o with
  | none =>
   go_wp2_with fail
   refine HW1.out.mono ?_
   rintro e w2 ⟨rfl, hb2⟩
   go_wp2_with fail
   go_ret2
   exact ⟨Hb1.out.trans (hb2.mono Hb1.out.size), .inr ⟨rfl, _, by decide, rfl⟩⟩
  | some s =>
   simp only [Option.getD_some, Option.isSome_some] at HW1 ⊢
   go_wp2_with fail
   refine HW1.out.mono ?_
   rintro e w2 ⟨rfl, hb2⟩
   go_wp2_with fail
   go_ret2
   exact ⟨Hb1.out.trans (hb2.mono Hb1.out.size), .inl ⟨_, rfl, rfl⟩⟩
 ·have ec : ((c.toNat : Int) != 116) = true := by rw [bne_iff_ne]; omega
  have E := hide (show (arg T n).bind (pieceT c) = (arg T n).bind datT from by
   cases arg T n with
   | none => rfl
   | some t => show pieceT c t = datT t; unfold pieceT datT; rw [if_neg hc])
  rw [E.out]
  clear hc HF HW E
  go_enter Tryz.func58, Tryz.ntmps58
  go_wp2_with fail
  refine HD.out.mono ?_
  rintro e w1 ⟨hb1, ⟨s, ho, rfl⟩ | ⟨ho, s, hs, rfl⟩⟩
  ·have Ho := hide ho
   clear ho
   go_wp2_with fail
   go_ret2
   exact ⟨hb1, .inl ⟨_, Ho.out, rfl⟩⟩
  ·have Ho := hide (And.intro ho hs)
   clear ho hs
   go_wp2_with fail
   go_ret2
   exact ⟨hb1, .inr ⟨Ho.out.1, _, Ho.out.2, rfl⟩⟩
end
end Go.Proofs.YtmgfcjpifkoahaaGreatDoor
namespace Go.Proofs.YtmgfcjpifkoahaaGreatDoor
open Go.RowKit Go.ChangeShapes Go.WideShapes Go.Sort
theorem joinGo_len : ∀ (f : List UInt8) (l : List Tm) (out o : List UInt8), joinGo f l out = some o → out.length ≤ o.length
 | [], l, out, o, h => by
  have : o = out := by cases l <;> (simp only [joinGo] at h; injection h with h; exact h.symm)
  rw [this]
  exact Nat.le_refl _
 | c :: f, [], out, o, h => by
  simp only [joinGo] at h
  injection h with h
  rw [h]
  exact Nat.le_refl _
 | c :: f, t :: l, out, o, h => by
  simp only [joinGo] at h
  split at h
  ·have := joinGo_len f l _ o h
   rw [List.length_append] at this
   omega
  ·cases h
theorem joinGo_step {f : List UInt8} {l : List Tm} {i : Nat} (out : List UInt8) (hf : i < f.length) (hl : i < l.length) :
  joinGo (f.drop i) (l.drop i) out = match pieceT f[i] l[i] with | some s => joinGo (f.drop (i + 1)) (l.drop (i + 1)) (out ++ s) | none => none := by
 rw [List.drop_eq_getElem_cons hf, List.drop_eq_getElem_cons hl]
 rfl
def JoiP (l : List Tm) (w : World) (e : Ending) (w' : World) : Prop :=
 Below w.heap.size w w' ∧ ((∃ out, joinT l = some out ∧ out.length ≤ 32768 ∧ e = .returned (.tuple #[.string (bs out), .bool true])) ∨
  ((∀ out, joinT l = some out → 32768 < out.length) ∧ e = .returned (.tuple #[.string ⟨#[]⟩, .bool false])))
theorem ids_cell {w : World} {A : Option Addr} {c n : Nat} {ns : List Int} (h : Ids w (.slice A n c) ns) : n = ns.length ∧ ∀ k, (hk : k < ns.length) → ∃ ad, A = some ad ∧ ad.block < w.heap.size ∧ w.cell? (ad.add k) = some (.int .i64 ns[k]) := by
 obtain ⟨A', c', e, hS⟩ := h
 injection e with e1 e2 e3
 subst e1
 refine ⟨e2, fun k hk => ?_⟩
 obtain ⟨ad, u, h1, _, h3, h4, h5⟩ := hS.at_ hk
 refine ⟨ad, h1, h3, ?_⟩
 rw [List.getElem?_map, List.getElem?_eq_getElem hk] at h4
 cases h4
 exact h5
theorem args_arg {T l : List Tm} {js : List Nat} (h : Args T l js) {k : Nat} (hk : k < l.length) : ∃ hj : k < js.length, arg T ((js.map Int.ofNat)[k]'(by rw [List.length_map]; exact hj)) = some l[k] := by
 have hj : k < js.length := by rw [h.len]; exact hk
 refine ⟨hj, ?_⟩
 have h1 := congrArg (fun z : List (Option Tm) => z[k]?) h
 simp only [List.getElem?_map, List.getElem?_eq_getElem hj, List.getElem?_eq_getElem hk, Option.map_some, Option.some.injEq] at h1
 rw [List.getElem_map]
 unfold arg
 show (if (0 : Int) ≤ ((js[k] : Nat) : Int) then T[(((js[k] : Nat) : Int)).toNat]? else none) = _
 rw [if_pos (by omega), Int.toNat_natCast]
 exact h1
structure JoiI (w : World) (r : List Tm) (f : ByteArray) (Bi : Nat) (R : Option (List UInt8)) (i : Nat) (out : List UInt8) (wr : World) : Prop where
 bel : Below w.heap.size w wr
 it : wr.heap[Bi]? = some (.stringIter f i)
 go : joinGo (f.data.toList.drop i) (r.drop i) out = R
 len : out.length ≤ 32768
section
variable {B g : Nat} {w : World} {T : List Tm} {S : Nat → Prop}
set_option maxHeartbeats 4000000 in
set_option maxRecDepth 100000 in
theorem pjoin_any (h : Ar B w g T S) (hT : Tab w) {A : Option Addr} {c n : Nat} {js : List Nat} {l : List Tm} (hI : Ids w (.slice A n c) (js.map Int.ofNat)) (ha : Args T l js) (hl32 : l.length ≤ 1000) : Calls Tryz.prog 28 #[.pointer (some ⟨g, 0, none⟩), .slice A n c] w (JoiP l w) := by
 obtain ⟨hn, hcs⟩ := ids_cell hI
 rw [List.length_map, ha.len] at hn
 subst hn
 have HP := hide (fun (m : Int) (W : World) (hb : Below w.heap.size w W) => pdata_any (h.below hb) m)
 have HQ := hide (fun (m : Int) (cc : UInt8) (W : World) (hb : Below w.heap.size w W) => pput_any (h.below hb) (hT.below hb) m cc)
 have HAr := hide (fun (k : Nat) (hk : k < l.length) => args_arg ha hk)
 have hcl : ∀ k, (hk : k < l.length) → ∃ ad m, A = some ad ∧ ad.block < w.heap.size ∧ w.cell? (ad.add k) = some (.int .i64 m) ∧ arg T m = some l[k] := fun k hk => by
  obtain ⟨hj, h1⟩ := args_arg ha hk
  obtain ⟨ad, e1, e2, e3⟩ := hcs k (by rw [List.length_map]; exact hj)
  exact ⟨ad, _, e1, e2, e3, h1⟩
 have HC := hide hcl
 clear h hT hI ha hcs hcl HAr
 match l, HC with
 | [], HC =>
  go_enter Tryz.func28, Tryz.ntmps28
  go_wp2_with fail
  go_ret2
  exact ⟨Below.refl _ _, .inr ⟨fun out h => (by cases h), rfl⟩⟩
 | d :: r, HC =>
  obtain ⟨ad, m0, rfl, hab, hc0, hm0⟩ := HC.out 0 (by simp)
  rw [add_nil_] at hc0
  have hm0 : arg T m0 = some d := hm0
  have HP0 := hide (HP.out m0 w (Below.refl _ _))
  rw [hm0] at HP0
  have hlen0 : (((d :: r).length : Nat) : Int) ≠ 0 := by simp; omega
  have hz : ((((d :: r).length : Nat) : Int) == 0) = false := by rw [beq_eq_false_iff_ne]; exact hlen0
  have hln : (d :: r).length = r.length + 1 := rfl
  have hpos : (0 : Int) < ((d :: r).length : Nat) := by rw [hln]; omega
  generalize hLL : (d :: r).length = LL at hz hpos hln hl32 ⊢
  have HLL := hide hLL
  clear hLL hm0 hlen0
  go_enter Tryz.func28, Tryz.ntmps28
  go_wp2_with fail
  refine HP0.out.mono ?_
  rintro e w1 ⟨hb1, ⟨s, ho, rfl⟩ | ⟨ho, s, hs, rfl⟩⟩
  ·obtain ⟨hk1, hsd⟩ : d.k = 1 ∧ d.s.data.toList = s := by
    have h9 : datT d = some s := ho
    unfold datT at h9
    split at h9
    ·rename_i hk; cases h9; exact ⟨hk, rfl⟩
    ·cases h9
   clear ho
   by_cases h1 : s.length = 1
   ·obtain ⟨cc, rfl⟩ : ∃ cc, s = [cc] := by
     match s, h1 with
     | [cc], _ => exact ⟨cc, rfl⟩
    have hJ := joinT_of (r := r) hk1 hsd
    have HF := hide (fun (W : World) => fit_any (cc.toNat : Nat) (r.length : Nat) W)
    have hl1 : ((LL : Int) - 1) = ((r.length : Nat) : Int) := by omega
    have hb1s : ((bs [cc]).size : Int) = 1 := rfl
    have hb2s : (bs [cc]).size = 1 := rfl
    have hb0 : (bs [cc])[0] = cc := rfl
    have hcc := cc.toNat_lt
    have Hb1 := hide hb1
    clear hk1 hsd h1 HP0
    cases hf : (fit (cc.toNat : Nat) r.length).2 with
    | false =>
     rw [hf] at HF hJ
     have HJ := hide hJ
     clear hJ hf hb1
     generalize (fit (cc.toNat : Nat) r.length).1 = f at HF
     go_wp2_with fail
     refine (HF.out _).mono ?_
     rintro e w2 ⟨rfl, hb2⟩
     go_wp2_with fail
     go_ret2
     exact ⟨Hb1.out.trans (hb2.mono Hb1.out.size), .inr ⟨fun out h => (by rw [HJ.out, if_neg (by decide)] at h; cases h), rfl⟩⟩
    | true =>
     obtain ⟨f1, f2⟩ := fit_get hf
     rw [hf] at HF
     rw [if_pos hf] at hJ
     have hasc := (form_ascii f1).2
     have hf13 := (form_ascii f1).1
     generalize (fit (cc.toNat : Nat) r.length).1 = f at HF hJ f2 hasc hf13
     obtain ⟨R, hR⟩ : ∃ R, R = joinGo f.data.toList r [cc] := ⟨_, rfl⟩
     rw [← hR] at hJ
     have HJ := hide hJ
     have HR := hide hR
     have HA := hide hasc
     have Hsz := hide f2
     have hr13 : r.length ≤ 13 := by omega
     have HLe := hide HLL.out
     clear hJ hR hasc hf f1 f2 hb1
     go_upto_region 9 with (first
      | (go_at_call 57; refine (HF.out _).mono ?_; rintro e w2 ⟨rfl, hb2⟩)
      | fail)
     have hbw2 := Hb1.out.trans (hb2.mono Hb1.out.size)
     have HI0 := hide (show JoiI w r f w2.heap.size R 0 [cc] (w2.iter f 0) from ⟨by show Below w.heap.size w (w2.alloc _); exact hbw2.alloc hbw2.size _, World.iter_heap _ _ _, HR.out.symm, by simp⟩)
     have hB : w.heap.size ≤ w2.heap.size := hbw2.size
     clear hb2 HF hbw2
     go_upto_region 10 with fail
     generalize hWi : w2.iter f 0 = w3 at HI0 ⊢
     generalize w2.heap.size = Bi at HI0 hB ⊢
     clear hWi
     go_loopw [6] (fun vo wr => ∃ (i : Nat) (out : List UInt8), vo = .string (bs out) ∧ i ≤ r.length ∧ Hid (JoiI w r f Bi R i out wr)) (fun _ wr => r.length - wr.iterPos Bi)
     case atStart => exact ⟨0, _, rfl, Nat.zero_le _, HI0⟩
     case round =>
      obtain ⟨i, out, rfl, hi, HI⟩ := hrel
      have hit := HI.out.it
      have hip : wr.iterPos Bi = i := iterPos_of hit
      by_cases hlt : i < r.length
      ·have hif : i < f.size := by rw [Hsz.out]; exact hlt
       have hmemc := mem_toList hif
       have hnx : ∀ ty, (Instr.next (.pointer (some ⟨Bi, 0, none⟩)) true ty).run Tryz.prog wr = _ := fun ty => Lib.run_next_ascii_at wr Bi f i ty hit hif (HA.out _ hmemc)
       obtain ⟨wn, hwn⟩ : ∃ wn, wn = wr.iterAt Bi f (i + 1) := ⟨_, rfl⟩
       have hitn : wn.heap[Bi]? = some (.stringIter f (i + 1)) := by rw [hwn]; exact Lib.iterAt_heap wr Bi f i (i + 1) hit
       have hbn : Below w.heap.size w wn := by rw [hwn]; exact Lib.below_iterAt HI.out.bel hB f (i + 1)
       have hst := hide (joinGo_step (i := i) (f := f.data.toList) (l := r) out (by rw [size_len]; exact hif) hlt)
       have hgo2 := hide HI.out.go
       have hol := HI.out.len
       rw [← hwn] at hnx
       obtain ⟨ad2, m, had, hab2, hcm, ham⟩ := HC.out (i + 1) (by rw [List.length_cons]; omega)
       obtain rfl : ad = ad2 := Option.some.inj had
       have hcm2 := (hbn.cell (p := ad.add (i + 1)) (by rw [block_of_add]; exact hab2)).trans hcm
       rw [add_succ_] at hcm2
       have HQ1 := hide (HQ.out m f[i] wn hbn)
       rw [ham] at HQ1
       have hfc : f.data.toList[i]'(by rw [size_len]; exact hif) = f[i] := rfl
       rw [hfc] at hst
       have HQ2 := hide (show Calls Tryz.prog 58 #[.pointer (some ⟨g, 0, none⟩), .int .i64 m, .int .i32 f[i].toNat] wn (PieP (pieceT f[i] r[i]) wn) from HQ1.out)
       generalize pieceT f[i] r[i] = pc at hst HQ2
       generalize hcch : f[i].toNat = ch at hnx HQ2
       have hch : ch < 128 := by rw [← hcch]; exact HA.out _ hmemc
       have Hip := hide hip
       have Hbn := hide (And.intro hbn hitn)
       have hilt : i + 1 < LL := by omega
       clear hit hip hmemc hfc HQ1 ham hcm hcch hwn hbn hitn had hab2 HI
       go_wp2_with fail
       refine HQ2.out.mono ?_
       rintro e w9 ⟨hb9, ⟨sp, ho, rfl⟩ | ⟨ho, sp, hsp, rfl⟩⟩
       ·have hit9 : w9.heap[Bi]? = some (.stringIter f (i + 1)) := (hb9.block Bi (Array.getElem?_eq_some_iff.1 Hbn.out.2).1).trans Hbn.out.2
        have hbw9 := Hbn.out.1.trans (hb9.mono Hbn.out.1.size)
        have hst2 := hst.out
        rw [hgo2.out, ho] at hst2
        simp only at hst2
        by_cases hL : 32768 < (out ++ sp).length
        ·have Hno := hide (show ∀ o, joinT (d :: r) = some o → 32768 < o.length from fun o h9 => by
          rw [HJ.out, hst2] at h9
          have := joinGo_len _ _ _ _ h9
          omega)
         have hL1 : decide ((32768 : Int) - (out.length : Int) < (sp.length : Int)) = true := decide_eq_true (by rw [List.length_append] at hL; omega)
         have hL2 : (32768 : Int) - (out.length : Int) < (sp.length : Int) := by rw [List.length_append] at hL; omega
         have Hb9 := hide hbw9
         clear hst2 ho hit9 hL hbw9 hst hgo2
         go_wp2_with fail
         go_ret2
         exact ⟨Hb9.out, .inr ⟨Hno.out, rfl⟩⟩
        ·have hL1 : decide ((32768 : Int) - (out.length : Int) < (sp.length : Int)) = false := decide_eq_false (by rw [List.length_append] at hL; omega)
         have hL2 : ¬ (32768 : Int) - (out.length : Int) < (sp.length : Int) := by rw [List.length_append] at hL; omega
         have Hb9 := hide hbw9
         have HI2 := hide (show JoiI w r f Bi R (i + 1) (out ++ sp) w9 from ⟨hbw9, hit9, hst2.symm, by omega⟩)
         have hsl : out.length + sp.length ≤ 32768 := by rw [List.length_append] at hL; omega
         clear hst2 ho hL hbw9 hst hgo2 hit9
         go_wp2_with fail
         refine ⟨⟨i + 1, out ++ sp, rfl, by omega, HI2⟩, ?_⟩
         rw [iterPos_of HI2.out.it, Hip.out]
         omega
       ·have Hno := hide (show ∀ o, joinT (d :: r) = some o → 32768 < o.length from fun o h9 => by
         rw [HJ.out, ← hgo2.out, hst.out, ho] at h9
         cases h9)
        have Hb9 := hide (Hbn.out.1.trans (hb9.mono Hbn.out.1.size))
        clear ho hst hgo2
        go_wp2_with fail
        go_ret2
        exact ⟨Hb9.out, .inr ⟨Hno.out, rfl⟩⟩
      ·have hil : i = r.length := by omega
       subst hil
       have hnx : ∀ ty, (Instr.next (.pointer (some ⟨Bi, 0, none⟩)) true ty).run Tryz.prog wr = _ := fun ty => Lib.run_next_end_at wr Bi f r.length ty hit (by rw [Hsz.out]; exact hlt)
       have HE := hide (show joinT (d :: r) = some out from by
        rw [HJ.out, ← HI.out.go, List.drop_of_length_le (by rw [size_len, Hsz.out]; exact Nat.le_refl _), List.drop_of_length_le (Nat.le_refl _)]
        rfl)
       have hbw := HI.out.bel
       have hol := HI.out.len
       clear hit hip HI
       go_wp2_with fail
       go_ret2
       exact ⟨hbw, .inl ⟨out, HE.out, hol, rfl⟩⟩
   ·have hne : (((s.length : Nat) : Int) != 1) = true := by rw [bne_iff_ne]; omega
    have HN := hide (joinT_no (d := d) (r := r) (fun h9 => h1 (by rw [← hsd, size_len]; exact h9.2)))
    clear hk1 hsd h1
    go_wp2_with fail
    go_ret2
    exact ⟨hb1, .inr ⟨fun out h => (by rw [HN.out] at h; cases h), rfl⟩⟩
  ·have hk : ¬ (d.k = 1 ∧ d.s.size = 1) := fun h9 => by
    have : datT d = none := ho
    unfold datT at this
    rw [if_pos h9.1] at this
    cases this
   have HN := hide (joinT_no (r := r) hk)
   clear ho hk
   go_wp2_with fail
   go_ret2
   exact ⟨hb1, .inr ⟨fun out h => (by rw [HN.out] at h; cases h), rfl⟩⟩
end
end Go.Proofs.YtmgfcjpifkoahaaGreatDoor
