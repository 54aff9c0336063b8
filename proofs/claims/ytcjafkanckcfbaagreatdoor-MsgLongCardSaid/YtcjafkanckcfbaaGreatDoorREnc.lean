/-
  The contract of the reference's Encode. Conditions: texts and lists that fit.
-/
import Derived.Test.YtcjafkanckcfbaaGreatDoorRDec
import Derived.Test.YtcjafkanckcfbaaGreatDoorRPut
set_option linter.unusedVariables false
set_option linter.unusedSimpArgs false
namespace Go.Proofs.YtcjafkanckcfbaaGreatDoor
open Go.RowKit Go.ChangeShapes Go.WideShapes Go.Sort
theorem encGo_rstep {f : List UInt8} {l : List Fld} {i : Nat} (out : List UInt8) (hf : i < f.length) (hl : i < l.length) :
    encGo (f.drop i) (l.drop i) i out = if l[i].k = f[i].toNat then (if (rputF l[i]).1 = 0 then (if 32768 < (out ++ (rputF l[i]).2).length then .long else encGo (f.drop (i + 1)) (l.drop (i + 1)) (i + 1) (out ++ (rputF l[i]).2)) else .bad (rputF l[i]).1 i) else .bad 3 i := by
  rw [encGo_step out hf hl]
  unfold rputF
  cases hp : plainF l[i] with
  | true => simp
  | false => simp
theorem rputF_len {x : Fld} (hx : SzF x) : (rputF x).2.length ≤ 200000000 := by
  unfold rputF
  split
  · exact putF_len hx
  · simp
theorem rputF_err (x : Fld) : (rputF x).1 ≤ 5 := by
  unfold rputF
  split
  · exact putF_err_lt x
  · simp
/-- What the reference's Encode answers. -/
def REncP (num : Int) (l : List Fld) (w : World) (e : Ending) (w' : World) : Prop :=
  Below w.heap.size w w' ∧ ((∃ s, encS num l = .ok s ∧ e = .returned (.tuple #[.string (bs s), .agg #[.int .i64 0, .string ⟨#[]⟩]])) ∨
    (∃ ps, ∃ k : Nat, encErr num (encS num l) = some (ps, k) ∧ k ≠ 0 ∧ e = .returned (.tuple #[.string ⟨#[]⟩, .agg #[.int .i64 k, .string (bs (atL ps))]])))
/-- The state of the reference's Encode in its loop. -/
structure REncI (w : World) (num : Int) (l : List Fld) (A : Option Addr) (c : Nat) (f : ByteArray) (i : Nat) (out : List UInt8) (wr : World) : Prop where
  bel : Below w.heap.size w wr
  box : Blk wr w.heap.size 24 #[.int .i64 num, .slice A l.length c]
  eb : Blk wr (w.heap.size + 1) 33 #[.int .i64 0, .string ⟨#[]⟩]
  go : encGo (f.data.toList.drop i) (l.drop i) i out = encS num l
  len : out.length ≤ 32768
theorem one_bel {B : Nat} {w0 w : World} {g : Nat} (hb : Below B w0 w) (hg : B ≤ g) (v0 v1 : Value) : Below B w0 ((w.setCell ⟨g, 0, none⟩ v0).setCell ⟨g, 1, none⟩ v1) := (hb.setCell (p := ⟨g, 0, none⟩) hg v0).setCell (p := ⟨g, 1, none⟩) hg v1
section
variable {w : World}
set_option maxHeartbeats 16000000 in
set_option maxRecDepth 100000 in
theorem rencode_anyM (num : Int) {l : List Fld} {A : Option Addr} {c : Nat} (hl : Flds w A l) (hs : ∀ x ∈ l, SzF x) (hll : l.length ≤ 1000) :
    Calls Tryz.prog 11 #[.agg #[.int .i64 num, .slice A l.length c]] w (REncP num l w) := by
  have HF := hide (fun W => rfit_any num (l.length : Int) W)
  obtain ⟨W0, hW0⟩ : ∃ W0, W0 = (w.alloc (.cells #[.int .i64 num, .slice A l.length c] 24)).alloc (.cells #[.int .i64 0, .string ⟨#[]⟩] 33) := ⟨_, rfl⟩
  have hb0 : Below w.heap.size w W0 := by rw [hW0]; (repeat (first | exact Below.refl _ _ | refine below_drewN ?_ _ | refine Below.drew ?_ | refine Below.alloc ?_ (by first | omega | (simp; done) | (simp; omega)) _ | refine Below.setCell ?_ (by first | omega | (simp; done) | (simp; omega)) _ | refine bel_alloc ?_ _ | refine bel_trans ?_ (by assumption) | refine Below.trans ?_ (Below.mono (by assumption) (by first | omega | (simp; done) | (simp; omega)))))
  have hM0 : Blk W0 w.heap.size 24 #[.int .i64 num, .slice A l.length c] := by rw [hW0]; exact (Blk.new w _ _).alloc _
  have hE0 : Blk W0 (w.heap.size + 1) 33 #[.int .i64 0, .string ⟨#[]⟩] := by rw [hW0]; exact blk_new2 w _ _ _
  have m0 := hM0.cell 0
  have m1 := hM0.cell 1
  simp at m0 m1
  cases hf : (fit num l.length).2 with
  | false =>
    have HE := hide (show encErr num (encS num l) = some ([msgB], 6) from by unfold encS; rw [hf]; rfl)
    have HM := hide (show bs (atL [msgB]) = (⟨#[109, 101, 115, 115, 97, 103, 101, 32]⟩ : ByteArray) from by rw [atL_msg]; rfl)
    rw [hf] at HF
    generalize (fit num l.length).1 = f at HF
    have HX := hide (And.intro hE0 hb0)
    clear hl hs hM0 hE0 hb0 hf
    go_enter Tryz.func11, Tryz.ntmps11
    go_upto_region 1 with fail
    rw [← hW0]
    clear hW0
    go_wp2_with (first
      | (go_at_call 31; refine (HF.out _).mono ?_; rintro e w1 ⟨rfl, hb1⟩; have hE := HX.out.1.below hb1 HX.out.1.lt; have y0 := hE.cell 0; have y1 := hE.cell 1; have s0 := hE.frozen 0; have s1 := hE.frozen 1; simp at y0 y1)
      | fail)
    have hF := two_fin hE (.int .i64 6) (.string ⟨#[109, 101, 115, 115, 97, 103, 101, 32]⟩)
    have q2 := hF.cell 0
    have q3 := hF.cell 1
    simp at q2 q3
    exact bodyPost_ret (v := .tuple #[.string ⟨#[]⟩, .agg #[.int .i64 6, .string ⟨#[109, 101, 115, 115, 97, 103, 101, 32]⟩]]) (by simp [results, Tryz.results11, go_sem, q2, q3]) rfl ⟨one_bel (HX.out.2.trans (hb1.mono HX.out.2.size)) (Nat.le_succ _) _ _, .inr ⟨[msgB], 6, HE.out, by decide, by rw [HM.out]; rfl⟩⟩
  | true =>
    obtain ⟨hmem, hsz⟩ := fit_get hf
    obtain ⟨hf13, hasc⟩ := form_ascii hmem
    have hn := forms_num (n := num) (fun e => by rw [e] at hmem; simp at hmem)
    have hE00 : encGo ((fit num l.length).1.data.toList.drop 0) (l.drop 0) 0 [UInt8.ofNat num.toNat] = encS num l := by
      unfold encS
      rw [if_pos hf]
      rfl
    rw [hf] at HF
    generalize (fit num l.length).1 = f at HF hsz hf13 hasc hE00
    obtain ⟨m, rfl⟩ : ∃ m : Nat, num = m := ⟨num.toNat, by omega⟩
    have hmm : (m : Int).toNat = m := by simp
    rw [hmm] at hE00
    have HB := hide (fun W => rByte_any m W (by omega))
    have hwm : IntKind.u8.wrap (m : Int) = m := by
      simp only [IntKind.wrap, IntKind.bits, IntKind.signed]
      simp
      omega
    have HOf := hide (fun W => of_any (m : Int) W)
    rw [rowOf_word] at HOf
    have hwl := word_len (m : Int)
    obtain ⟨wd, hwd⟩ : ∃ wd, wd = word (m : Int) := ⟨_, rfl⟩
    rw [← hwd] at HOf hwl
    have Hwd := hide hwd
    have HL := hide hl
    have HS := hide hs
    have hfl : f.data.toList.length = l.length := hsz
    have hsz13 : l.length ≤ 13 := by omega
    have hszI : (f.size : Int) = l.length := by omega
    have HX := hide (And.intro hM0 (And.intro hE0 hb0))
    have HE0 := hide hE00
    clear hl hs hM0 hE0 hb0 hE00 hmem hf hn hmm hwd hasc
    go_enter Tryz.func11, Tryz.ntmps11
    go_upto_region 1 with fail
    rw [← hW0]
    clear hW0
    go_upto_region 6 with (first
      | (go_at_call 31; refine (HF.out _).mono ?_; rintro e w1 ⟨rfl, hb1⟩; have hM1 := HX.out.1.below hb1 HX.out.1.lt; have x0 := hM1.cell 0; simp at x0)
      | (go_at_call 32; refine (HOf.out _).mono ?_; rintro e w2 ⟨fv, rfl, hS2, hb2⟩; have hM2 := hM1.below hb2 hM1.lt; have x2 := hM2.cell 0; simp at x2)
      | (go_at_call 33; refine (HB.out _).mono ?_; rintro e w3 ⟨rfl, hb3⟩)
      | fail)
    have hb03 : Below W0.heap.size W0 w3 := hb1.trans ((hb2.mono hb1.size).trans (hb3.mono (Nat.le_trans hb1.size hb2.size)))
    have HI0 := hide (show REncI w m l A c f 0 [UInt8.ofNat m] w3 from ⟨HX.out.2.2.trans (hb03.mono HX.out.2.2.size), HX.out.1.below hb03 HX.out.1.lt, HX.out.2.1.below hb03 HX.out.2.1.lt, HE0.out, by simp⟩)
    have HPl := hide (fun (i : Nat) (h : i < 100) W => rplace_any i h W)
    clear hb1 hb2 hb3 hM1 hM2 x0 x2 m0 m1 HF HOf HB HX HE0 hb03 hS2
    go_wp2_with fail
    go_loopw [7, 8] (fun vo vi wr => ∃ (i : Nat) (out : List UInt8), vo = .string (bs out) ∧ vi = .int .i64 i ∧ i ≤ l.length ∧ Hid (REncI w m l A c f i out wr)) (fun _ vi _ => l.length - (intOf vi).toNat)
    case atStart => exact ⟨0, _, rfl, rfl, Nat.zero_le _, HI0⟩
    case round =>
      obtain ⟨i, out, rfl, rfl, hi, HI⟩ := hrel
      have hbr := HI.out.bel
      have hM := HI.out.box
      have hE := HI.out.eb
      have hol := HI.out.len
      have x0 := hM.cell 0
      have x1 := hM.cell 1
      have y0 := hE.cell 0
      have y1 := hE.cell 1
      have s0 := hE.frozen 0
      have s1 := hE.frozen 1
      simp at x0 x1 y0 y1
      by_cases hlt : i < l.length
      · have hif : i < f.size := by omega
        have hiI : (i : Int) < l.length := by omega
        have hiF : (i : Int) < f.size := by omega
        have hgo := hide (encGo_rstep (i := i) (f := f.data.toList) (l := l) out (by omega) hlt)
        have hgo2 := hide HI.out.go
        have hfc : f.data.toList[i]'(by omega) = f[i] := rfl
        rw [hfc] at hgo
        obtain ⟨ad, A2, c2, rfl, q0, q1, q2, q3, hTx, hc2, hk⟩ := flds_at (HL.out.below hbr) hlt
        have hSx := HS.out _ (List.getElem_mem hlt)
        have hpl := rputF_len hSx
        have hpe := rputF_err l[i]
        generalize hx : l[i] = x at q0 q1 q2 q3 hTx hc2 hk hSx hgo hpl hpe
        have HXr := hide (And.intro hM (And.intro hE hbr))
        have hi100 : i < 100 := by omega
        have HPi := hide (fun W => HPl.out i hi100 W)
        have hdl : (bs (atL [Lib.decDigits i])).size ≤ 10 := place_len i hi100
        have hW2 := hide (show wd ++ (⟨#[32]⟩ : ByteArray) ++ bs (atL [Lib.decDigits i]) = bs (atL [wd.data.toList, Lib.decDigits i]) from bs_eq (by rw [data_append, data_append, bs_data]; simp [atL]))
        have hE7 := hide (fun (W : World) (hb : Below wr.heap.size wr W) => hE.below hb hE.lt)
        have hPu := hide (fun (W : World) (hb : ∃ n, W = wr.drewN n) => rput_any (w := W) x hSx (A := A2) (c := c2) (by obtain ⟨n, rfl⟩ := hb; exact hTx.below (below_drewN (Below.refl _ _) n)))
        unfold Says at HPi
        generalize bs (atL [Lib.decDigits i]) = pl at HPi hW2 hdl
        clear hM hE HI hx hfc hSx hTx HS
        by_cases hch : x.k = f[i].toNat
        · have ek : ((x.k : Int) == (f[i].toNat : Int)) = true := i_eq hch
          have ek2 : ((x.k : Int) != (f[i].toNat : Int)) = false := by simp [bne, ek]
          have hgo1 := hide (hgo.out.trans (if_pos hch))
          clear hgo hch
          unfold fldV at hPu
          by_cases he : (rputF x).1 = 0
          · have hgo3 := hide (hgo1.out.trans (if_pos he))
            unfold RPutP at hPu
            rw [he] at hPu
            clear hgo1 he
            generalize (rputF x).2 = bb at hPu hgo3 hpl
            have hL1 : (bs (out ++ bb)).size = out.length + bb.length := by rw [bs_size, List.length_append]
            by_cases hL : 32768 < (out ++ bb).length
            · have HE := hide (show encErr m (encS m l) = some ([wd.data.toList], 2) from by
                rw [← hgo2.out, hgo3.out, if_pos hL, Hwd.out]
                rfl)
              have hW1 := hide (show wd ++ (⟨#[32]⟩ : ByteArray) = bs (atL [wd.data.toList]) from bs_eq (by rw [data_append]; simp [atL]))
              have hL2 : (32768 : Int) < (out.length : Int) + (bb.length : Int) := by rw [List.length_append] at hL; omega
              have hL3 : (32768 : Int) < ((out.length + bb.length : Nat) : Int) := by omega
              have hL4 : (32768 : Int) < ((bs (out ++ bb)).size : Int) := by rw [hL1]; omega
              clear hgo3 hL hgo2
              go_upto_region 9 with fail
              go_quiet (fail)
              go_wp2_with (first
                | (go_at_call 35; refine (hPu.out _ ⟨_, rfl⟩).mono ?_; rintro e w4 ⟨rfl, hb4⟩; have hbX := (below_drewN (Below.refl _ _) _).trans hb4; have hE4 := hE7.out _ hbX; have y0 := hE4.cell 0; have y1 := hE4.cell 1; have s0 := hE4.frozen 0; have s1 := hE4.frozen 1; simp at y0 y1)
                | fail)
              have hF := two_fin hE4 (.int .i64 2) (.string (wd ++ (⟨#[32]⟩ : ByteArray)))
              have q2 := hF.cell 0
              have q3 := hF.cell 1
              simp at q2 q3
              exact bodyPost_ret (v := .tuple #[.string ⟨#[]⟩, .agg #[.int .i64 2, .string (wd ++ (⟨#[32]⟩ : ByteArray))]]) (by simp [results, Tryz.results11, go_sem, q2, q3]) rfl ⟨one_bel (HXr.out.2.2.trans (hbX.mono HXr.out.2.2.size)) (Nat.le_succ _) _ _, .inr ⟨_, 2, HE.out, by decide, by rw [hW1.out]; rfl⟩⟩
            · have HN := hide (show encGo (f.data.toList.drop (i + 1)) (l.drop (i + 1)) (i + 1) (out ++ bb) = encS m l from by rw [← hgo2.out, hgo3.out, if_neg hL])
              have hL2 : ¬ (32768 : Int) < (out.length : Int) + (bb.length : Int) := by rw [List.length_append] at hL; omega
              have hL3 : ¬ (32768 : Int) < ((out.length + bb.length : Nat) : Int) := by omega
              have hL4 : ¬ (32768 : Int) < ((bs (out ++ bb)).size : Int) := by rw [hL1]; omega
              have HL9 := hide (Nat.le_of_not_lt hL)
              clear hgo3 hL hgo2
              go_upto_region 9 with fail
              go_quiet (fail)
              go_wp2_with (first
                | (go_at_call 35; refine (hPu.out _ ⟨_, rfl⟩).mono ?_; rintro e w4 ⟨rfl, hb4⟩; have hbX := (below_drewN (Below.refl _ _) _).trans hb4; have hE4 := hE7.out _ hbX; have y0 := hE4.cell 0; have y1 := hE4.cell 1; have s0 := hE4.frozen 0; have s1 := hE4.frozen 1; simp at y0 y1)
                | fail)
              exact ⟨⟨i + 1, out ++ bb, rfl, by go_num, by omega, hide ⟨HXr.out.2.2.trans (hbX.mono HXr.out.2.2.size), HXr.out.1.below hbX HXr.out.1.lt, hE4, HN.out, HL9.out⟩⟩, by simp [intOf]; omega⟩
          · have HE := hide (show encErr m (encS m l) = some ([wd.data.toList, Lib.decDigits i], (rputF x).1) from by
              rw [← hgo2.out, hgo1.out, if_neg he, Hwd.out]
              rfl)
            have e1 : (((rputF x).1 : Int) == 0) = false := by rw [beq_eq_false_iff_ne]; omega
            have e2 : (((rputF x).1 : Int) != 0) = true := by simp [bne, e1]
            have He := hide he
            unfold RPutP at hPu
            clear hgo1 hgo2 he
            generalize (rputF x).2 = bb at hPu hpl
            generalize (rputF x).1 = ke at hPu hpe HE e1 e2 He
            go_upto_region 9 with fail
            go_quiet (fail)
            go_wp2_with (first
              | (go_at_call 35; refine (hPu.out _ ⟨_, rfl⟩).mono ?_; rintro e w4 ⟨rfl, hb4⟩; have hbX := (below_drewN (Below.refl _ _) _).trans hb4; have hE4 := hE7.out _ hbX; have y0 := hE4.cell 0; have y1 := hE4.cell 1; have s0 := hE4.frozen 0; have s1 := hE4.frozen 1; simp at y0 y1)
              | (go_at_call 34; refine (HPi.out _).mono ?_; rintro e w5 ⟨rfl, hb5⟩; have hE4 := hE4.below hb5 hE4.lt; have y0 := hE4.cell 0; have y1 := hE4.cell 1; have s0 := hE4.frozen 0; have s1 := hE4.frozen 1; simp at y0 y1)
              | fail)
            have hF := two_fin hE4 (.int .i64 (ke : Nat)) (.string (wd ++ (⟨#[32]⟩ : ByteArray) ++ pl))
            have q2 := hF.cell 0
            have q3 := hF.cell 1
            simp at q2 q3
            exact bodyPost_ret (v := .tuple #[.string ⟨#[]⟩, .agg #[.int .i64 (ke : Nat), .string (wd ++ (⟨#[32]⟩ : ByteArray) ++ pl)]]) (by simp [results, Tryz.results11, go_sem, q2, q3]) rfl ⟨one_bel (HXr.out.2.2.trans ((hbX.trans (hb5.mono hbX.size)).mono HXr.out.2.2.size)) (Nat.le_succ _) _ _, .inr ⟨_, ke, HE.out, He.out, by rw [hW2.out]⟩⟩
        · have ek : ((x.k : Int) == (f[i].toNat : Int)) = false := i_ne hch
          have ek2 : ((x.k : Int) != (f[i].toNat : Int)) = true := by simp [bne, ek]
          have HE := hide (show encErr m (encS m l) = some ([wd.data.toList, Lib.decDigits i], 3) from by
            rw [← hgo2.out, hgo.out, if_neg hch, Hwd.out]
            rfl)
          clear hgo hgo2 hch hPu
          go_upto_region 9 with fail
          go_quiet (fail)
          have hE4 := HXr.out.2.1
          go_wp2_with (first
            | (go_at_call 34; refine (HPi.out _).mono ?_; rintro e w5 ⟨rfl, hb5⟩; have hbX := (below_drewN (Below.refl _ _) _).trans hb5; have hE4 := hE7.out _ hbX; have y0 := hE4.cell 0; have y1 := hE4.cell 1; have s0 := hE4.frozen 0; have s1 := hE4.frozen 1; simp at y0 y1)
            | fail)
          have hF := two_fin hE4 (.int .i64 3) (.string (wd ++ (⟨#[32]⟩ : ByteArray) ++ pl))
          have q2 := hF.cell 0
          have q3 := hF.cell 1
          simp at q2 q3
          exact bodyPost_ret (v := .tuple #[.string ⟨#[]⟩, .agg #[.int .i64 3, .string (wd ++ (⟨#[32]⟩ : ByteArray) ++ pl)]]) (by simp [results, Tryz.results11, go_sem, q2, q3]) rfl ⟨one_bel (HXr.out.2.2.trans (hbX.mono HXr.out.2.2.size)) (Nat.le_succ _) _ _, .inr ⟨_, 3, HE.out, by decide, by rw [hW2.out]; rfl⟩⟩
      · have hil : i = l.length := by omega
        subst hil
        have hiF : ¬ (l.length : Int) < f.size := by omega
        have HE := hide (show encS m l = .ok out from by
          rw [← HI.out.go, List.drop_of_length_le (by omega)]
          rfl)
        have hE4 := hE
        have Hbr := hide hbr
        clear HI hM hE hbr
        go_wp2_with fail
        have hF := two_fin hE4 (.int .i64 0) (.string ⟨#[]⟩)
        have q2 := hF.cell 0
        have q3 := hF.cell 1
        simp at q2 q3
        exact bodyPost_ret (v := .tuple #[.string (bs out), .agg #[.int .i64 0, .string ⟨#[]⟩]]) (by simp [results, Tryz.results11, go_sem, q2, q3]) rfl ⟨one_bel Hbr.out (Nat.le_succ _) _ _, .inl ⟨out, HE.out, rfl⟩⟩
end
end Go.Proofs.YtcjafkanckcfbaaGreatDoor
