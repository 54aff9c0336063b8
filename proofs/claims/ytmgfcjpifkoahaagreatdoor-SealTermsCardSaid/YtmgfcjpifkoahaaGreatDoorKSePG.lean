/-
  Several of my texts in one: SeT, SeP.
-/
import Derived.Test.YtmgfcjpifkoahaaGreatDoorKPaAG
import Derived.Test.YtmgfcjpifkoahaaGreatDoorKFrameBody
import Derived.Laws.EntriesVeiled
set_option linter.unusedVariables false
set_option linter.unusedSimpArgs false
namespace Go.Proofs.YtmgfcjpifkoahaaGreatDoor
open Go.RowKit Go.ChangeShapes Go.WideShapes Go.Sort
noncomputable def sealT (u : List UInt8) : Option Tm := if (bodyF u).2 ≠ 0 then none else ofT (bodyF u).1
theorem bodyF_len {u : List UInt8} : (bodyF u).1.length ≤ u.length := by
 unfold bodyF
 repeat' split
 all_goals simp
theorem sealT_no {u : List UInt8} (h : (bodyF u).2 ≠ 0) : sealT u = none := if_pos h
theorem sealT_ok {u : List UInt8} (h : (bodyF u).2 = 0) : sealT u = ofT (bodyF u).1 := if_neg (fun h9 => h9 h)
def SealY (w0 : World) (B g : Nat) (T : List Tm) (S : Nat → Prop) (wb : World) (o : Option Tm) (x : Int) (m : Nat) (e : Ending) (w' : World) : Prop :=
 ∃ T' n S', e = .returned (.tuple #[.int .i64 n, .int .i64 x]) ∧ Idn T' o n ∧ T <+: T' ∧ T'.length ≤ T.length + m ∧ Pay w0 B g T' S' w' ∧ Grown S wb S' w'
section
variable {w0 wb : World} {B g : Nat} {T : List Tm} {S : Nat → Prop}
theorem fld_pay (h : Pay w0 B g T S wb) {s : ByteArray} (hs : s.size ≤ 100000) (hT : T.length ≤ 700000000) (w : World) (hb : Below wb.heap.size wb w) : Calls Tryz.prog 45 #[.pointer (some ⟨g, 0, none⟩), .string s] w (DoneY w0 B g T S wb (ofT s.data.toList) 200001) :=
 (fldOf_any (h.use.below hb) s hs (by omega)).mono fun _ _ hd => DoneF.y h hb (by omega) (hd.mono (by omega))
theorem sterm_any (h : Pay w0 B g T S wb) {u : ByteArray} (hu : u.size ≤ 100000) (hT : T.length ≤ 600000000) (w : World) (hb : Below wb.heap.size wb w) :
  Calls Tryz.prog 21 #[.pointer (some ⟨g, 0, none⟩), .string u] w (SealY w0 B g T S wb (sealT u.data.toList) (bodyF u.data.toList).2 200001) := by
 have HB := hide (body_any u w (by omega))
 have HP := hide h
 have Hb := hide hb
 have hbl := bodyF_len (u := u.data.toList)
 rw [size_len] at hbl
 have hr := needF_range
 cases hx : decide ((bodyF u.data.toList).2 = 0) with
 | false =>
  have hx := of_decide_eq_false hx
  rw [sealT_no hx]
  have hx1 : (((bodyF u.data.toList).2 : Int) == 0) = false := by rw [beq_eq_false_iff_ne]; exact hx
  clear hx h hb
  generalize (bodyF u.data.toList).2 = x at HB hx1 ⊢
  generalize (bodyF u.data.toList).1 = y at HB hbl
  go_enter Tryz.func21, Tryz.ntmps21
  go_wp2_with fail
  refine HB.out.mono ?_
  rintro e w1 ⟨r, rfl, hr1, hb1⟩
  clear hr1
  go_wp2_with fail
  go_ret2
  have hb2 := Hb.out.trans (hb1.mono Hb.out.size)
  exact ⟨T, -1, S, rfl, idn_none T, List.prefix_refl _, by omega, HP.out.below hb2, Grown.of_below hb2⟩
 | true =>
  have hx := of_decide_eq_true hx
  rw [sealT_ok hx, hx]
  rw [hx] at HB
  have Hbl := hide hbl
  obtain ⟨t, ht1, _⟩ := ofT_yes (s := (bodyF u.data.toList).1) (by omega)
  have HF := hide (fun (s : ByteArray) (hs : s.data.toList = (bodyF u.data.toList).1) (W : World) (hW : Below wb.heap.size wb W) => fld_pay h (s := s) (by rw [← size_len, hs]; omega) (by omega) W hW)
  clear hx h hb hbl
  generalize (bodyF u.data.toList).1 = y at HB HF ht1 ⊢
  go_enter Tryz.func21, Tryz.ntmps21
  go_wp2_with fail
  refine HB.out.mono ?_
  rintro e w1 ⟨r, rfl, hr1, hb1⟩
  have HF1 := hide (HF.out r hr1)
  rw [hr1] at HF1
  clear hr1 HF
  go_wp2_with fail
  refine (HF1.out _ (Hb.out.trans (hb1.mono Hb.out.size))).mono ?_
  rintro e w2 ⟨T2, n2, S2, rfl, hid, hp, hl, hP, hG⟩
  have hn1 : (n2 == -1) = false := by
   rw [beq_eq_false_iff_ne]
   intro h9
   rw [ht1] at hid
   have := (hid.none_iff).1 h9
   cases this
  have Hf := hide (And.intro hid (And.intro hp (And.intro hl (And.intro hP hG))))
  clear hid hp hl hP hG
  go_wp2_with fail
  go_ret2
  obtain ⟨hid, hp, hl, hP, hG⟩ := Hf.out
  exact ⟨T2, n2, S2, rfl, hid, hp, hl, hP, hG⟩
end
section
variable {w : World}
theorem rsterm_any (u : ByteArray) (hu : u.size ≤ 100000) : Calls Tryz.prog 22 #[.string u] w (fun e w' => e = .returned (.tuple #[.string (bs (txt (sealT u.data.toList))), .int .i64 (bodyF u.data.toList).2]) ∧ Below w.heap.size w w') := by
 have HB := hide (rBody_any u w (by omega))
 have hbl := bodyF_len (u := u.data.toList)
 rw [size_len] at hbl
 cases hx : decide ((bodyF u.data.toList).2 = 0) with
 | false =>
  have hx := of_decide_eq_false hx
  rw [sealT_no hx]
  have hx1 : (((bodyF u.data.toList).2 : Int) == 0) = false := by rw [beq_eq_false_iff_ne]; exact hx
  clear hx
  generalize (bodyF u.data.toList).2 = x at HB hx1 ⊢
  generalize (bodyF u.data.toList).1 = y at HB hbl
  go_enter Tryz.func22, Tryz.ntmps22
  go_wp2_with fail
  refine HB.out.mono ?_
  rintro e w1 ⟨r, rfl, hr1, hb1⟩
  clear hr1
  go_wp2_with fail
  go_ret2
  exact ⟨rfl, hb1⟩
 | true =>
  have hx := of_decide_eq_true hx
  rw [sealT_ok hx, hx]
  rw [hx] at HB
  obtain ⟨t, ht1, _⟩ := ofT_yes (s := (bodyF u.data.toList).1) (by omega)
  have HF := hide (show ∀ (s : ByteArray), s.data.toList = (bodyF u.data.toList).1 → ∀ (W : World), Calls Tryz.prog 47 #[.string s] W (fun e w' => e = .returned (.string (bs (enc t))) ∧ Below W.heap.size W w') from fun s hs W => by
   have h9 := rof08_any s (by rw [← size_len, hs]; omega) W
   rw [hs, ht1] at h9
   exact h9)
  rw [ht1]
  have hne := enc_toList_ne t
  show Calls _ _ _ _ (fun e w' => e = .returned (.tuple #[.string (bs (enc t)), .int .i64 0]) ∧ Below w.heap.size w w')
  clear hx hbl ht1
  generalize (bodyF u.data.toList).1 = y at HB HF
  generalize bs (enc t) = z at hne HF ⊢
  go_enter Tryz.func22, Tryz.ntmps22
  go_wp2_with fail
  refine HB.out.mono ?_
  rintro e w1 ⟨r, rfl, hr1, hb1⟩
  have HF2 := hide (HF.out r hr1)
  clear hr1 HF
  go_wp2_with fail
  refine (HF2.out _).mono ?_
  rintro e w2 ⟨rfl, hb2⟩
  go_wp2_with fail
  go_ret2
  exact ⟨rfl, hb1.trans (hb2.mono hb1.size)⟩
theorem next_any (n : Nat) (hn : n < 4294967296) (w : World) : Calls Tryz.prog 23 #[.int .u32 n] w (fun e w' => e = .returned (.int .u32 (((n + 1) % 4294967296 : Nat))) ∧ w = w') := by
 go_enter Tryz.func23, Tryz.ntmps23
 go_wp2_with fail
 go_ret
 exact ⟨by simp [IntKind.wrap_u32], rfl⟩
end
end Go.Proofs.YtmgfcjpifkoahaaGreatDoor
namespace Go.Proofs.YtmgfcjpifkoahaaGreatDoor
open Go.RowKit Go.ChangeShapes Go.WideShapes Go.Sort
section
variable {w : World}
theorem pk1_any {p : Addr} {s : ByteArray} {b : Bool} (hc : w.cell? p = some (.string s)) (hb : (s.toList == []) = b) : Calls Tryz.prog 97 #[.pointer (some p)] w (fun e w' => e = .returned (.bool b) ∧ w = w') := by
 go_enter Tryz.func97, Tryz.ntmps97
 go_wp2_with fail
 go_ret
 exact ⟨rfl, rfl⟩
theorem pk2_any {p : Addr} {s : ByteArray} {b : Bool} (hc : w.cell? p = some (.string s)) (hb : decide ((32768 : Int) < s.size) = b) : Calls Tryz.prog 98 #[.pointer (some p)] w (fun e w' => e = .returned (.bool b) ∧ w = w') := by
 go_enter Tryz.func98, Tryz.ntmps98
 go_wp2_with fail
 go_ret
 exact ⟨rfl, rfl⟩
theorem pk3_any {p q : Addr} {g : Nat} {n kk : Int} {b : Bool} (hp : w.cell? p = some (.pointer (some ⟨g, 0, none⟩))) (hq : w.cell? q = some (.int .i64 n)) (hb : (kk == 0) = b)
  (HK : Calls Tryz.prog 16 #[.pointer (some ⟨g, 0, none⟩), .int .i64 n] w (fun e w' => e = .returned (.int .i64 kk) ∧ w = w')) : Calls Tryz.prog 99 #[.pointer (some p), .pointer (some q)] w (fun e w' => e = .returned (.bool b) ∧ w = w') := by
 have HK := hide HK
 go_enter Tryz.func99, Tryz.ntmps99
 go_wp2_with (first
  | (go_at_call 16; refine HK.out.mono ?_; rintro e w1 ⟨rfl, rfl⟩)
  | fail)
 go_ret
 exact ⟨rfl, rfl⟩
set_option maxHeartbeats 2000000 in
set_option maxRecDepth 100000 in
theorem pfirst_any {bq : Nat} {p1 p2 p3 : Addr} {b1 b2 b3 : Bool} {x1 x2 x3 : Int}
  (hB : Blk w bq 146 #[.func (.func 97) #[] #[.pointer (some p1)], .int .i64 x1, .func (.func 98) #[] #[.pointer (some p1)], .int .i64 x2, .func (.func 99) #[] #[.pointer (some p2), .pointer (some p3)], .int .i64 x3])
  (H1 : ∀ W, Below w.heap.size w W → Calls Tryz.prog 97 #[.pointer (some p1)] W (fun e w' => e = .returned (.bool b1) ∧ W = w'))
  (H2 : ∀ W, Below w.heap.size w W → Calls Tryz.prog 98 #[.pointer (some p1)] W (fun e w' => e = .returned (.bool b2) ∧ W = w'))
  (H3 : ∀ W, Below w.heap.size w W → Calls Tryz.prog 99 #[.pointer (some p2), .pointer (some p3)] W (fun e w' => e = .returned (.bool b3) ∧ W = w')) :
  Calls Tryz.prog 96 #[.slice (some ⟨bq, 0, none⟩) 3 3] w (fun e w' => e = .returned (.int .i64 (if b1 = true then x1 else if b2 = true then x2 else if b3 = true then x3 else 0)) ∧ Below w.heap.size w w') := by
 have H1 := hide H1
 have H2 := hide H2
 have H3 := hide H3
 have HB := hide hB
 clear hB
 go_enter Tryz.func96, Tryz.ntmps96
 go_wp2_with fail
 go_loopw [7] (fun vi wr => ∃ i : Nat, vi = .int .i64 i ∧ i ≤ 3 ∧ Below w.heap.size w wr ∧ (0 < i → b1 = false) ∧ (1 < i → b2 = false) ∧ (2 < i → b3 = false)) (fun vi _ => 3 - (intOf vi).toNat)
 case atStart => exact ⟨0, rfl, by omega, Below.refl _ _, by omega, by omega, by omega⟩
 case round =>
  obtain ⟨i, rfl, hi, hb, f1, f2, f3⟩ := hrel
  have hBr := HB.out.below hb HB.out.lt
  have k0 := hBr.cell 0
  have k1 := hBr.cell 1
  have k2 := hBr.cell 2
  have k3 := hBr.cell 3
  have k4 := hBr.cell 4
  have k5 := hBr.cell 5
  simp only [List.getElem?_toArray, List.getElem?_cons_zero, List.getElem?_cons_succ] at k0 k1 k2 k3 k4 k5
  have hlt := hBr.lt
  have Hb := hide hb
  clear hBr
  match i, hi, f1, f2, f3 with
  | 0, hi, f1, f2, f3 =>
   clear f1 f2 f3 hi
   have HX := hide (fun (W : World) (hW : Below wr.heap.size wr W) => H1.out W (Hb.out.trans (hW.mono Hb.out.size)))
   cases b1 with
   | true =>
    go_wp2_with (first
     | (go_at_call 97; refine (HX.out _ (by exact bel_by)).mono ?_; rintro e w5 ⟨rfl, rfl⟩)
     | fail)
    go_ret
    exact ⟨rfl, by exact bel_by⟩
   | false =>
    go_wp2_with (first
     | (go_at_call 97; refine (HX.out _ (by exact bel_by)).mono ?_; rintro e w5 ⟨rfl, rfl⟩)
     | fail)
    exact ⟨⟨1, by go_num, by omega, by exact bel_by, by simp, by simp, by simp⟩, by simp [intOf]⟩
  | 1, hi, f1, f2, f3 =>
   have g1 := f1 (by omega)
   subst g1
   clear f1 f2 f3 hi
   have HX := hide (fun (W : World) (hW : Below wr.heap.size wr W) => H2.out W (Hb.out.trans (hW.mono Hb.out.size)))
   cases b2 with
   | true =>
    go_wp2_with (first
     | (go_at_call 98; refine (HX.out _ (by exact bel_by)).mono ?_; rintro e w5 ⟨rfl, rfl⟩)
     | fail)
    go_ret
    exact ⟨rfl, by exact bel_by⟩
   | false =>
    go_wp2_with (first
     | (go_at_call 98; refine (HX.out _ (by exact bel_by)).mono ?_; rintro e w5 ⟨rfl, rfl⟩)
     | fail)
    exact ⟨⟨2, by go_num, by omega, by exact bel_by, by simp, by simp, by simp⟩, by simp [intOf]⟩
  | 2, hi, f1, f2, f3 =>
   have g1 := f1 (by omega)
   have g2 := f2 (by omega)
   subst g1 g2
   clear f1 f2 f3 hi
   have HX := hide (fun (W : World) (hW : Below wr.heap.size wr W) => H3.out W (Hb.out.trans (hW.mono Hb.out.size)))
   cases b3 with
   | true =>
    go_wp2_with (first
     | (go_at_call 99; refine (HX.out _ (by exact bel_by)).mono ?_; rintro e w5 ⟨rfl, rfl⟩)
     | fail)
    go_ret
    exact ⟨rfl, by exact bel_by⟩
   | false =>
    go_wp2_with (first
     | (go_at_call 99; refine (HX.out _ (by exact bel_by)).mono ?_; rintro e w5 ⟨rfl, rfl⟩)
     | fail)
    exact ⟨⟨3, by go_num, by omega, by exact bel_by, by simp, by simp, by simp⟩, by simp [intOf]⟩
  | 3, hi, f1, f2, f3 =>
   have g1 := f1 (by omega)
   have g2 := f2 (by omega)
   have g3 := f3 (by omega)
   subst g1 g2 g3
   clear f1 f2 f3 hi
   go_wp2_with fail
   go_ret
   exact ⟨rfl, by exact bel_by⟩
  | n + 4, hi, f1, f2, f3 => omega
end
end Go.Proofs.YtmgfcjpifkoahaaGreatDoor
