/-
  Several of my texts in one: REnc, MsgX, KxQ, Kx4, Same4, Clone.
-/
import Derived.Test.YtjaipdenahlheaaGreatDoorRefG
import Derived.Test.YtjaipdenahlheaaGreatDoorRPut
import Derived.Test.YtjaipdenahlheaaGreatDoorSameM
import Derived.Test.YtjaipdenahlheaaGreatDoorKxPG
import Derived.Test.YtjaipdenahlheaaGreatDoorReadW
import Derived.Test.YtjaipdenahlheaaGreatDoorBaseG
set_option linter.unusedVariables false
set_option linter.unusedSimpArgs false
/-
  The contract of the reference's Encode. Conditions: texts and lists that fit.
-/
namespace Go.Proofs.YtjaipdenahlheaaGreatDoor
open Go.RowKit Go.ChangeShapes Go.WideShapes Go.Sort
theorem encGo_rstep {f : List UInt8} {l : List Fld} {i : Nat} (out : List UInt8) (hf : i < f.length) (hl : i < l.length) :
    encGo (f.drop i) (l.drop i) i out = if l[i].k = f[i].toNat then (if (rputF l[i]).1 = 0 then (if 32768 < (out ++ (rputF l[i]).2).length then .long else encGo (f.drop (i + 1)) (l.drop (i + 1)) (i + 1) (out ++ (rputF l[i]).2)) else .bad (rputF l[i]).1 i) else .bad 3 i := by
  rw [encGo_step out hf hl]
  unfold rputF
  cases hp : plainF l[i] with
  | true => simp
  | false => simp
theorem rputF_len {x : Fld} (hx : SzF x) : (rputF x).2.length ≤ 200000000 := by
  unfold rputF
  split
  · exact putF_len hx
  · simp
theorem rputF_err (x : Fld) : (rputF x).1 ≤ 5 := by
  unfold rputF
  split
  · exact putF_err_lt x
  · simp
/-- What the reference's Encode answers. -/
def REncP (num : Int) (l : List Fld) (w : World) (e : Ending) (w' : World) : Prop :=
  Below w.heap.size w w' ∧ ((∃ s, encS num l = .ok s ∧ e = .returned (.tuple #[.string (bs s), .agg #[.int .i64 0, .string ⟨#[]⟩]])) ∨
    (∃ ps, ∃ k : Nat, encErr num (encS num l) = some (ps, k) ∧ k ≠ 0 ∧ e = .returned (.tuple #[.string ⟨#[]⟩, .agg #[.int .i64 k, .string (bs (atL ps))]])))
/-- The state of the reference's Encode in its loop. -/
structure REncI (w : World) (num : Int) (l : List Fld) (A : Option Addr) (c : Nat) (f : ByteArray) (i : Nat) (out : List UInt8) (wr : World) : Prop where
  bel : Below w.heap.size w wr
  box : Blk wr w.heap.size 86 #[.int .i64 num, .slice A l.length c]
  eb : Blk wr (w.heap.size + 1) 42 #[.int .i64 0, .string ⟨#[]⟩]
  go : encGo (f.data.toList.drop i) (l.drop i) i out = encS num l
  len : out.length ≤ 32768
theorem one_bel {B : Nat} {w0 w : World} {g : Nat} (hb : Below B w0 w) (hg : B ≤ g) (v0 v1 : Value) : Below B w0 ((w.setCell ⟨g, 0, none⟩ v0).setCell ⟨g, 1, none⟩ v1) := (hb.setCell (p := ⟨g, 0, none⟩) hg v0).setCell (p := ⟨g, 1, none⟩) hg v1
section
variable {w : World}
set_option maxHeartbeats 16000000 in
set_option maxRecDepth 100000 in
theorem rencode_anyM (num : Int) {l : List Fld} {A : Option Addr} {c : Nat} (hl : Flds w A l) (hs : ∀ x ∈ l, SzF x) (hll : l.length ≤ 1000) :
    Calls Tryz.prog 46 #[.agg #[.int .i64 num, .slice A l.length c]] w (REncP num l w) := by
  have HF := hide (fun W => rfit_any num (l.length : Int) W)
  obtain ⟨W0, hW0⟩ : ∃ W0, W0 = (w.alloc (.cells #[.int .i64 num, .slice A l.length c] 86)).alloc (.cells #[.int .i64 0, .string ⟨#[]⟩] 42) := ⟨_, rfl⟩
  have hb0 : Below w.heap.size w W0 := by rw [hW0]; (repeat (first | exact Below.refl _ _ | refine below_drewN ?_ _ | refine Below.drew ?_ | refine Below.alloc ?_ (by first | omega | (simp; done) | (simp; omega)) _ | refine Below.setCell ?_ (by first | omega | (simp; done) | (simp; omega)) _ | refine bel_alloc ?_ _ | refine bel_trans ?_ (by assumption) | refine Below.trans ?_ (Below.mono (by assumption) (by first | omega | (simp; done) | (simp; omega)))))
  have hM0 : Blk W0 w.heap.size 86 #[.int .i64 num, .slice A l.length c] := by rw [hW0]; exact (Blk.new w _ _).alloc _
  have hE0 : Blk W0 (w.heap.size + 1) 42 #[.int .i64 0, .string ⟨#[]⟩] := by rw [hW0]; exact blk_new2 w _ _ _
  have m0 := hM0.cell 0
  have m1 := hM0.cell 1
  simp at m0 m1
  cases hf : (fit num l.length).2 with
  | false =>
    have HE := hide (show encErr num (encS num l) = some ([msgB], 6) from by unfold encS; rw [hf]; rfl)
    have HM := hide (show bs (atL [msgB]) = (⟨#[109, 101, 115, 115, 97, 103, 101, 32]⟩ : ByteArray) from by rw [atL_msg]; rfl)
    rw [hf] at HF
    generalize (fit num l.length).1 = f at HF
    have HX := hide (And.intro hE0 hb0)
    clear hl hs hM0 hE0 hb0 hf
    go_enter Tryz.func46, Tryz.ntmps46
    go_upto_region 1 with fail
    rw [← hW0]
    clear hW0
    go_wp2_with (first
      | (go_at_call 96; refine (HF.out _).mono ?_; rintro e w1 ⟨rfl, hb1⟩; have hE := HX.out.1.below hb1 HX.out.1.lt; have y0 := hE.cell 0; have y1 := hE.cell 1; have s0 := hE.frozen 0; have s1 := hE.frozen 1; simp at y0 y1)
      | fail)
    have hF := two_fin hE (.int .i64 6) (.string ⟨#[109, 101, 115, 115, 97, 103, 101, 32]⟩)
    have q2 := hF.cell 0
    have q3 := hF.cell 1
    simp at q2 q3
    exact bodyPost_ret (v := .tuple #[.string ⟨#[]⟩, .agg #[.int .i64 6, .string ⟨#[109, 101, 115, 115, 97, 103, 101, 32]⟩]]) (by simp [results, Tryz.results46, go_sem, q2, q3]) rfl ⟨one_bel (HX.out.2.trans (hb1.mono HX.out.2.size)) (Nat.le_succ _) _ _, .inr ⟨[msgB], 6, HE.out, by decide, by rw [HM.out]; rfl⟩⟩
  | true =>
    obtain ⟨hmem, hsz⟩ := fit_get hf
    obtain ⟨hf13, hasc⟩ := form_ascii hmem
    have hn := forms_num (n := num) (fun e => by rw [e] at hmem; simp at hmem)
    have hE00 : encGo ((fit num l.length).1.data.toList.drop 0) (l.drop 0) 0 [UInt8.ofNat num.toNat] = encS num l := by
      unfold encS
      rw [if_pos hf]
      rfl
    rw [hf] at HF
    generalize (fit num l.length).1 = f at HF hsz hf13 hasc hE00
    obtain ⟨m, rfl⟩ : ∃ m : Nat, num = m := ⟨num.toNat, by omega⟩
    have hmm : (m : Int).toNat = m := by simp
    rw [hmm] at hE00
    have HB := hide (fun W => rByte_any m W (by omega))
    have hwm : IntKind.u8.wrap (m : Int) = m := by
      simp only [IntKind.wrap, IntKind.bits, IntKind.signed]
      simp
      omega
    have HOf := hide (fun W => of_any (m : Int) W)
    rw [rowOf_word] at HOf
    have hwl := word_len (m : Int)
    obtain ⟨wd, hwd⟩ : ∃ wd, wd = word (m : Int) := ⟨_, rfl⟩
    rw [← hwd] at HOf hwl
    have Hwd := hide hwd
    have HL := hide hl
    have HS := hide hs
    have hfl : f.data.toList.length = l.length := hsz
    have hsz13 : l.length ≤ 13 := by omega
    have hszI : (f.size : Int) = l.length := by omega
    have HX := hide (And.intro hM0 (And.intro hE0 hb0))
    have HE0 := hide hE00
    clear hl hs hM0 hE0 hb0 hE00 hmem hf hn hmm hwd hasc
    go_enter Tryz.func46, Tryz.ntmps46
    go_upto_region 1 with fail
    rw [← hW0]
    clear hW0
    go_upto_region 6 with (first
      | (go_at_call 96; refine (HF.out _).mono ?_; rintro e w1 ⟨rfl, hb1⟩; have hM1 := HX.out.1.below hb1 HX.out.1.lt; have x0 := hM1.cell 0; simp at x0)
      | (go_at_call 97; refine (HOf.out _).mono ?_; rintro e w2 ⟨fv, rfl, hS2, hb2⟩; have hM2 := hM1.below hb2 hM1.lt; have x2 := hM2.cell 0; simp at x2)
      | (go_at_call 98; refine (HB.out _).mono ?_; rintro e w3 ⟨rfl, hb3⟩)
      | fail)
    have hb03 : Below W0.heap.size W0 w3 := hb1.trans ((hb2.mono hb1.size).trans (hb3.mono (Nat.le_trans hb1.size hb2.size)))
    have HI0 := hide (show REncI w m l A c f 0 [UInt8.ofNat m] w3 from ⟨HX.out.2.2.trans (hb03.mono HX.out.2.2.size), HX.out.1.below hb03 HX.out.1.lt, HX.out.2.1.below hb03 HX.out.2.1.lt, HE0.out, by simp⟩)
    have HPl := hide (fun (i : Nat) (h : i < 100) W => rplace_any i h W)
    clear hb1 hb2 hb3 hM1 hM2 x0 x2 m0 m1 HF HOf HB HX HE0 hb03 hS2
    go_wp2_with fail
    go_loopw [7, 8] (fun vo vi wr => ∃ (i : Nat) (out : List UInt8), vo = .string (bs out) ∧ vi = .int .i64 i ∧ i ≤ l.length ∧ Hid (REncI w m l A c f i out wr)) (fun _ vi _ => l.length - (intOf vi).toNat)
    case atStart => exact ⟨0, _, rfl, rfl, Nat.zero_le _, HI0⟩
    case round =>
      obtain ⟨i, out, rfl, rfl, hi, HI⟩ := hrel
      have hbr := HI.out.bel
      have hM := HI.out.box
      have hE := HI.out.eb
      have hol := HI.out.len
      have x0 := hM.cell 0
      have x1 := hM.cell 1
      have y0 := hE.cell 0
      have y1 := hE.cell 1
      have s0 := hE.frozen 0
      have s1 := hE.frozen 1
      simp at x0 x1 y0 y1
      by_cases hlt : i < l.length
      · have hif : i < f.size := by omega
        have hiI : (i : Int) < l.length := by omega
        have hiF : (i : Int) < f.size := by omega
        have hgo := hide (encGo_rstep (i := i) (f := f.data.toList) (l := l) out (by omega) hlt)
        have hgo2 := hide HI.out.go
        have hfc : f.data.toList[i]'(by omega) = f[i] := rfl
        rw [hfc] at hgo
        obtain ⟨ad, A2, c2, rfl, q0, q1, q2, q3, hTx, hc2, hk⟩ := flds_at (HL.out.below hbr) hlt
        have hSx := HS.out _ (List.getElem_mem hlt)
        have hpl := rputF_len hSx
        have hpe := rputF_err l[i]
        generalize hx : l[i] = x at q0 q1 q2 q3 hTx hc2 hk hSx hgo hpl hpe
        have HXr := hide (And.intro hM (And.intro hE hbr))
        have hi100 : i < 100 := by omega
        have HPi := hide (fun W => HPl.out i hi100 W)
        have hdl : (bs (atL [Lib.decDigits i])).size ≤ 10 := place_len i hi100
        have hW2 := hide (show wd ++ (⟨#[32]⟩ : ByteArray) ++ bs (atL [Lib.decDigits i]) = bs (atL [wd.data.toList, Lib.decDigits i]) from bs_eq (by rw [data_append, data_append, bs_data]; simp [atL]))
        have hE7 := hide (fun (W : World) (hb : Below wr.heap.size wr W) => hE.below hb hE.lt)
        have hPu := hide (fun (W : World) (hb : ∃ n, W = wr.drewN n) => rput_any (w := W) x hSx (A := A2) (c := c2) (by obtain ⟨n, rfl⟩ := hb; exact hTx.below (below_drewN (Below.refl _ _) n)))
        unfold Says at HPi
        generalize bs (atL [Lib.decDigits i]) = pl at HPi hW2 hdl
        clear hM hE HI hx hfc hSx hTx HS
        by_cases hch : x.k = f[i].toNat
        · have ek : ((x.k : Int) == (f[i].toNat : Int)) = true := i_eq hch
          have ek2 : ((x.k : Int) != (f[i].toNat : Int)) = false := by simp [bne, ek]
          have hgo1 := hide (hgo.out.trans (if_pos hch))
          clear hgo hch
          unfold fldV at hPu
          by_cases he : (rputF x).1 = 0
          · have hgo3 := hide (hgo1.out.trans (if_pos he))
            unfold RPutP at hPu
            rw [he] at hPu
            clear hgo1 he
            generalize (rputF x).2 = bb at hPu hgo3 hpl
            have hL1 : (bs (out ++ bb)).size = out.length + bb.length := by rw [bs_size, List.length_append]
            by_cases hL : 32768 < (out ++ bb).length
            · have HE := hide (show encErr m (encS m l) = some ([wd.data.toList], 2) from by
                rw [← hgo2.out, hgo3.out, if_pos hL, Hwd.out]
                rfl)
              have hW1 := hide (show wd ++ (⟨#[32]⟩ : ByteArray) = bs (atL [wd.data.toList]) from bs_eq (by rw [data_append]; simp [atL]))
              have hL2 : (32768 : Int) < (out.length : Int) + (bb.length : Int) := by rw [List.length_append] at hL; omega
              have hL3 : (32768 : Int) < ((out.length + bb.length : Nat) : Int) := by omega
              have hL4 : (32768 : Int) < ((bs (out ++ bb)).size : Int) := by rw [hL1]; omega
              clear hgo3 hL hgo2
              go_upto_region 9 with fail
              go_quiet (fail)
              go_wp2_with (first
                | (go_at_call 100; refine (hPu.out _ ⟨_, rfl⟩).mono ?_; rintro e w4 ⟨rfl, hb4⟩; have hbX := (below_drewN (Below.refl _ _) _).trans hb4; have hE4 := hE7.out _ hbX; have y0 := hE4.cell 0; have y1 := hE4.cell 1; have s0 := hE4.frozen 0; have s1 := hE4.frozen 1; simp at y0 y1)
                | fail)
              have hF := two_fin hE4 (.int .i64 2) (.string (wd ++ (⟨#[32]⟩ : ByteArray)))
              have q2 := hF.cell 0
              have q3 := hF.cell 1
              simp at q2 q3
              exact bodyPost_ret (v := .tuple #[.string ⟨#[]⟩, .agg #[.int .i64 2, .string (wd ++ (⟨#[32]⟩ : ByteArray))]]) (by simp [results, Tryz.results46, go_sem, q2, q3]) rfl ⟨one_bel (HXr.out.2.2.trans (hbX.mono HXr.out.2.2.size)) (Nat.le_succ _) _ _, .inr ⟨_, 2, HE.out, by decide, by rw [hW1.out]; rfl⟩⟩
            · have HN := hide (show encGo (f.data.toList.drop (i + 1)) (l.drop (i + 1)) (i + 1) (out ++ bb) = encS m l from by rw [← hgo2.out, hgo3.out, if_neg hL])
              have hL2 : ¬ (32768 : Int) < (out.length : Int) + (bb.length : Int) := by rw [List.length_append] at hL; omega
              have hL3 : ¬ (32768 : Int) < ((out.length + bb.length : Nat) : Int) := by omega
              have hL4 : ¬ (32768 : Int) < ((bs (out ++ bb)).size : Int) := by rw [hL1]; omega
              have HL9 := hide (Nat.le_of_not_lt hL)
              clear hgo3 hL hgo2
              go_upto_region 9 with fail
              go_quiet (fail)
              go_wp2_with (first
                | (go_at_call 100; refine (hPu.out _ ⟨_, rfl⟩).mono ?_; rintro e w4 ⟨rfl, hb4⟩; have hbX := (below_drewN (Below.refl _ _) _).trans hb4; have hE4 := hE7.out _ hbX; have y0 := hE4.cell 0; have y1 := hE4.cell 1; have s0 := hE4.frozen 0; have s1 := hE4.frozen 1; simp at y0 y1)
                | fail)
              exact ⟨⟨i + 1, out ++ bb, rfl, by go_num, by omega, hide ⟨HXr.out.2.2.trans (hbX.mono HXr.out.2.2.size), HXr.out.1.below hbX HXr.out.1.lt, hE4, HN.out, HL9.out⟩⟩, by simp [intOf]; omega⟩
          · have HE := hide (show encErr m (encS m l) = some ([wd.data.toList, Lib.decDigits i], (rputF x).1) from by
              rw [← hgo2.out, hgo1.out, if_neg he, Hwd.out]
              rfl)
            have e1 : (((rputF x).1 : Int) == 0) = false := by rw [beq_eq_false_iff_ne]; omega
            have e2 : (((rputF x).1 : Int) != 0) = true := by simp [bne, e1]
            have He := hide he
            unfold RPutP at hPu
            clear hgo1 hgo2 he
            generalize (rputF x).2 = bb at hPu hpl
            generalize (rputF x).1 = ke at hPu hpe HE e1 e2 He
            go_upto_region 9 with fail
            go_quiet (fail)
            go_wp2_with (first
              | (go_at_call 100; refine (hPu.out _ ⟨_, rfl⟩).mono ?_; rintro e w4 ⟨rfl, hb4⟩; have hbX := (below_drewN (Below.refl _ _) _).trans hb4; have hE4 := hE7.out _ hbX; have y0 := hE4.cell 0; have y1 := hE4.cell 1; have s0 := hE4.frozen 0; have s1 := hE4.frozen 1; simp at y0 y1)
              | (go_at_call 99; refine (HPi.out _).mono ?_; rintro e w5 ⟨rfl, hb5⟩; have hE4 := hE4.below hb5 hE4.lt; have y0 := hE4.cell 0; have y1 := hE4.cell 1; have s0 := hE4.frozen 0; have s1 := hE4.frozen 1; simp at y0 y1)
              | fail)
            have hF := two_fin hE4 (.int .i64 (ke : Nat)) (.string (wd ++ (⟨#[32]⟩ : ByteArray) ++ pl))
            have q2 := hF.cell 0
            have q3 := hF.cell 1
            simp at q2 q3
            exact bodyPost_ret (v := .tuple #[.string ⟨#[]⟩, .agg #[.int .i64 (ke : Nat), .string (wd ++ (⟨#[32]⟩ : ByteArray) ++ pl)]]) (by simp [results, Tryz.results46, go_sem, q2, q3]) rfl ⟨one_bel (HXr.out.2.2.trans ((hbX.trans (hb5.mono hbX.size)).mono HXr.out.2.2.size)) (Nat.le_succ _) _ _, .inr ⟨_, ke, HE.out, He.out, by rw [hW2.out]⟩⟩
        · have ek : ((x.k : Int) == (f[i].toNat : Int)) = false := i_ne hch
          have ek2 : ((x.k : Int) != (f[i].toNat : Int)) = true := by simp [bne, ek]
          have HE := hide (show encErr m (encS m l) = some ([wd.data.toList, Lib.decDigits i], 3) from by
            rw [← hgo2.out, hgo.out, if_neg hch, Hwd.out]
            rfl)
          clear hgo hgo2 hch hPu
          go_upto_region 9 with fail
          go_quiet (fail)
          have hE4 := HXr.out.2.1
          go_wp2_with (first
            | (go_at_call 99; refine (HPi.out _).mono ?_; rintro e w5 ⟨rfl, hb5⟩; have hbX := (below_drewN (Below.refl _ _) _).trans hb5; have hE4 := hE7.out _ hbX; have y0 := hE4.cell 0; have y1 := hE4.cell 1; have s0 := hE4.frozen 0; have s1 := hE4.frozen 1; simp at y0 y1)
            | fail)
          have hF := two_fin hE4 (.int .i64 3) (.string (wd ++ (⟨#[32]⟩ : ByteArray) ++ pl))
          have q2 := hF.cell 0
          have q3 := hF.cell 1
          simp at q2 q3
          exact bodyPost_ret (v := .tuple #[.string ⟨#[]⟩, .agg #[.int .i64 3, .string (wd ++ (⟨#[32]⟩ : ByteArray) ++ pl)]]) (by simp [results, Tryz.results46, go_sem, q2, q3]) rfl ⟨one_bel (HXr.out.2.2.trans (hbX.mono HXr.out.2.2.size)) (Nat.le_succ _) _ _, .inr ⟨_, 3, HE.out, by decide, by rw [hW2.out]; rfl⟩⟩
      · have hil : i = l.length := by omega
        subst hil
        have hiF : ¬ (l.length : Int) < f.size := by omega
        have HE := hide (show encS m l = .ok out from by
          rw [← HI.out.go, List.drop_of_length_le (by omega)]
          rfl)
        have hE4 := hE
        have Hbr := hide hbr
        clear HI hM hE hbr
        go_wp2_with fail
        have hF := two_fin hE4 (.int .i64 0) (.string ⟨#[]⟩)
        have q2 := hF.cell 0
        have q3 := hF.cell 1
        simp at q2 q3
        exact bodyPost_ret (v := .tuple #[.string (bs out), .agg #[.int .i64 0, .string ⟨#[]⟩]]) (by simp [results, Tryz.results46, go_sem, q2, q3]) rfl ⟨one_bel Hbr.out (Nat.le_succ _) _ _, .inl ⟨out, HE.out, rfl⟩⟩
end
end Go.Proofs.YtjaipdenahlheaaGreatDoor

/-
  Law MsgEncodes: the walk of the statement. Conditions: the library's handle and number are as they were laid.
-/
namespace Go.Proofs.YtjaipdenahlheaaGreatDoor
open Go.RowKit Go.ChangeShapes Go.WideShapes Go.Sort
theorem dig_len : ∀ i < 1000, (Lib.decDigits i).length ≤ 1000 := by decide +kernel
theorem readFs_idx {f r : List UInt8} {i e j : Nat} (h : readFs f r i = .no e j) : j < i + f.length := by
  induction f generalizing r i with
  | nil =>
    simp only [readFs] at h
    split at h <;> cases h
  | cons c f ih =>
    cases hg : getF c.toNat r with
    | no e2 =>
      rw [readFs_no hg] at h
      injection h with h1 h2
      simp only [List.length_cons]
      omega
    | ok x r2 =>
      rw [readFs_of hg] at h
      cases hr : readFs f r2 (i + 1) with
      | no e2 j2 =>
        rw [hr] at h
        injection h with h1 h2
        subst h1 h2
        have := ih hr
        simp only [List.length_cons]
        omega
      | ok l => rw [hr] at h; cases h
      | tail => rw [hr] at h; cases h
theorem encGo_idx {f : List UInt8} {l : List Fld} {i e j : Nat} {out : List UInt8} (h : encGo f l i out = .bad e j) : j < i + f.length := by
  induction f generalizing l i out with
  | nil => cases l <;> cases h
  | cons c f ih =>
    cases l with
    | nil => cases h
    | cons x l =>
      simp only [encGo] at h
      simp only [List.length_cons]
      split at h
      · split at h
        · split at h
          · cases h
          · have := ih h
            omega
        · injection h with h1 h2
          omega
      · injection h with h1 h2
        omega
def PsOk (ps : List (List UInt8)) : Prop := ps.length ≤ 3 ∧ ∀ q ∈ ps, q.length ≤ 1000
theorem word_lenL (n : Int) : (word n).data.toList.length ≤ 1000 := Nat.le_trans (word_len n) (by decide)
theorem readErr_ok {f r : List UInt8} {ps : List (List UInt8)} {k : Nat} (hf : f.length ≤ 13) (h : readErr (readFs f r 0) = some (ps, k)) : ps.length ≤ 1 ∧ ∀ q ∈ ps, q.length ≤ 1000 := by
  cases hr : readFs f r 0 with
  | ok l => rw [hr] at h; cases h
  | no e j =>
    rw [hr] at h
    cases h
    have := readFs_idx hr
    refine ⟨by simp, fun q hq => ?_⟩
    simp only [List.mem_singleton] at hq
    subst hq
    exact dig_len j (by omega)
  | tail =>
    rw [hr] at h
    cases h
    exact ⟨by simp, fun q hq => by simp only [List.mem_singleton] at hq; subst hq; decide⟩
theorem decErr_ok {p : List UInt8} {ps : List (List UInt8)} {k : Nat} (h : decErr (decS p) = some (ps, k)) : PsOk ps := by
  have hm : PsOk [msgB] := ⟨by simp, fun q hq => by simp only [List.mem_singleton] at hq; subst hq; decide⟩
  cases p with
  | nil =>
    cases h
    exact hm
  | cons c r =>
    by_cases hl : 32768 < (c :: r).length
    · rw [decS_long hl] at h
      cases h
      exact hm
    · cases hf : forms c.toNat with
      | nil =>
        rw [decS_none hl hf] at h
        cases h
        exact hm
      | cons f fs =>
        cases hn : firstF (forms c.toNat) r with
        | some l =>
          rw [decS_of (by omega) hn] at h
          cases h
        | none =>
          rw [decS_bad hl hf hn] at h
          have h13 := (form_ascii (n := (c.toNat : Nat)) (f := f) (by rw [hf]; simp)).1
          cases hr : readErr (readFs f.data.toList r 0) with
          | none =>
            simp only [decErr, hr] at h
            cases h
          | some x =>
            obtain ⟨qs, k2⟩ := x
            have h2 := readErr_ok (f := f.data.toList) h13 hr
            simp only [decErr, hr] at h
            cases h
            refine ⟨by have := h2.1; simp only [List.length_cons]; omega, fun q hq => ?_⟩
            rcases List.mem_cons.1 hq with rfl | hq
            · exact word_lenL _
            · exact h2.2 q hq
theorem encErr_ok {n : Int} {l : List Fld} {ps : List (List UInt8)} {k : Nat} (h : encErr n (encS n l) = some (ps, k)) : PsOk ps := by
  have hw := word_lenL n
  unfold encS at h
  cases hf : (fit n l.length).2 with
  | false =>
    rw [hf, if_neg (by decide)] at h
    cases h
    exact ⟨by simp, fun q hq => by simp only [List.mem_singleton] at hq; subst hq; decide⟩
  | true =>
    rw [if_pos hf] at h
    have h13 := (form_ascii (fit_get hf).1).1
    cases hg : encGo (fit n l.length).1.data.toList l 0 [UInt8.ofNat n.toNat] with
    | ok s => rw [hg] at h; cases h
    | none => rw [hg] at h; cases h; exact ⟨by simp, fun q hq => by simp only [List.mem_singleton] at hq; subst hq; decide⟩
    | long =>
      rw [hg] at h
      cases h
      exact ⟨by simp, fun q hq => by simp only [List.mem_singleton] at hq; subst hq; exact hw⟩
    | bad e j =>
      rw [hg] at h
      cases h
      have hj := encGo_idx hg
      have hz : (fit n l.length).1.data.toList.length = (fit n l.length).1.size := rfl
      refine ⟨by simp, fun q hq => ?_⟩
      simp only [List.mem_cons, List.mem_nil_iff, or_false] at hq
      rcases hq with rfl | rfl
      · exact hw
      · exact dig_len j (by omega)
section
variable {w : World}
end
end Go.Proofs.YtjaipdenahlheaaGreatDoor

/-
  The plain law of kexinit's message: the thirteen values of a decoded message 20. Conditions: none.
-/
namespace Go.Proofs.YtjaipdenahlheaaGreatDoor
/-- The values of kexinit's message. -/
def kexFs (ck : List UInt8) (ls : List (List (List UInt8))) (f u : Int) : List Fld := ⟨99, 0, ck, []⟩ :: ((ls.map fun l => ⟨110, 0, [], l⟩) ++ [⟨98, f, [], []⟩, ⟨117, u, [], []⟩])
def form20 : ByteArray := ⟨#[99, 110, 110, 110, 110, 110, 110, 110, 110, 110, 110, 98, 117]⟩
theorem forms_20 : forms 20 = [form20] := by decide +kernel
theorem ok_99 {x : Fld} (h : okF x) (hk : x.k = 99) : x = ⟨99, 0, x.s, []⟩ := by
  have := fld_txt h.1 (by rw [hk]; rfl)
  rw [hk] at this
  exact this
theorem ok_110 {x : Fld} (h : okF x) (hk : x.k = 110) : x = ⟨110, 0, [], x.l⟩ := by
  have := fld_lst h.1 (by rw [hk]; rfl)
  rw [hk] at this
  exact this
theorem ok_98 {x : Fld} (h : okF x) (hk : x.k = 98) : x = ⟨98, x.n, [], []⟩ ∧ (x.n = 0 ∨ x.n = 1) := by
  have e := fld_num h.1 (by rw [hk]; rfl)
  rw [hk] at e
  refine ⟨e, ?_⟩
  have h2 := h.2
  unfold putF at h2
  rw [if_pos hk] at h2
  split at h2
  · exact .inl ‹_›
  · split at h2
    · exact .inr ‹_›
    · cases h2
theorem ok_117 {x : Fld} (h : okF x) (hk : x.k = 117) : x = ⟨117, x.n, [], []⟩ ∧ 0 ≤ x.n := by
  have e := fld_num h.1 (by rw [hk]; rfl)
  rw [hk] at e
  refine ⟨e, ?_⟩
  have h2 := h.2
  unfold putF at h2
  rw [if_neg (by omega), if_pos hk] at h2
  split at h2
  · rename_i h3
    exact h3.1
  · cases h2
theorem dec_20 {p : List UInt8} {l : List Fld} (h : decS p = .ok 20 l) : ∃ ck ls f u, ls.length = 10 ∧ l = kexFs ck ls f u ∧ (f = 0 ∨ f = 1) ∧ 0 ≤ u := by
  obtain ⟨cc, rr, hp, hn, _, hff⟩ := decS_get h
  rw [show ((20 : Nat) : Int) = 20 from rfl, forms_20] at hff
  obtain ⟨f0, hf0, hrd⟩ := firstF_get hff
  obtain rfl : f0 = form20 := by simpa using hf0
  obtain ⟨hk, hok, _⟩ := readFs_get hrd
  have hk2 : l.map (·.k) = [99, 110, 110, 110, 110, 110, 110, 110, 110, 110, 110, 98, 117] := hk.trans (by decide)
  have hlen : l.length = 13 := by
    have := congrArg List.length hk2
    simpa using this
  clear h hff hrd hk
  match l, hlen, hk2, hok with
  | [x0, x1, x2, x3, x4, x5, x6, x7, x8, x9, x10, x11, x12], _, hk2, hok =>
    simp only [List.map_cons, List.map_nil, List.cons.injEq, and_true] at hk2
    obtain ⟨k0, k1, k2, k3, k4, k5, k6, k7, k8, k9, k10, k11, k12⟩ := hk2
    have o := fun x (hx : x ∈ [x0, x1, x2, x3, x4, x5, x6, x7, x8, x9, x10, x11, x12]) => hok x hx
    obtain ⟨e11, f11⟩ := ok_98 (o x11 (by simp)) k11
    obtain ⟨e12, f12⟩ := ok_117 (o x12 (by simp)) k12
    have e0 := ok_99 (o x0 (by simp)) k0
    have e1 := ok_110 (o x1 (by simp)) k1
    have e2 := ok_110 (o x2 (by simp)) k2
    have e3 := ok_110 (o x3 (by simp)) k3
    have e4 := ok_110 (o x4 (by simp)) k4
    have e5 := ok_110 (o x5 (by simp)) k5
    have e6 := ok_110 (o x6 (by simp)) k6
    have e7 := ok_110 (o x7 (by simp)) k7
    have e8 := ok_110 (o x8 (by simp)) k8
    have e9 := ok_110 (o x9 (by simp)) k9
    have e10 := ok_110 (o x10 (by simp)) k10
    refine ⟨x0.s, [x1.l, x2.l, x3.l, x4.l, x5.l, x6.l, x7.l, x8.l, x9.l, x10.l], x11.n, x12.n, rfl, ?_, f11, f12⟩
    simp only [kexFs, List.map_cons, List.map_nil, List.cons_append, List.nil_append]
    rw [← e0, ← e1, ← e2, ← e3, ← e4, ← e5, ← e6, ← e7, ← e8, ← e9, ← e10, ← e11, ← e12]
theorem kexFs_inj {ck ck' : List UInt8} {ls ls' : List (List (List UInt8))} {f f' u u' : Int} (hl : ls.length = 10) (hl' : ls'.length = 10) (h : kexFs ck ls f u = kexFs ck' ls' f' u') : ck = ck' ∧ ls = ls' ∧ f = f' ∧ u = u' := by
  unfold kexFs at h
  injection h with h1 h2
  injection h1 with _ _ h3 _
  obtain ⟨h4, h5⟩ := List.append_inj h2 (by simp [hl, hl'])
  refine ⟨h3, ?_, ?_, ?_⟩
  · refine List.map_inj_right (f := fun l : List (List UInt8) => (⟨110, 0, [], l⟩ : Fld)) ?_ |>.1 h4
    intro a b e
    injection e
  · injection h5 with h6 _
    injection h6
  · injection h5 with _ h6
    injection h6 with h7 _
    injection h7
/-- Two messages with one payload are one. -/
theorem encS_inj {n : Int} {l l' : List Fld} {s : List UInt8} (h1 : ∀ x ∈ l, fitF x) (h2 : ∀ x ∈ l', fitF x) (h : encS n l = .ok s) (h' : encS n l' = .ok s) : l = l' := by
  have e1 := (dec_enc h1 h).1
  have e2 := (dec_enc h2 h').1
  rw [e1] at e2
  injection e2
end Go.Proofs.YtjaipdenahlheaaGreatDoor

/-
  The contracts of kexinit's truth and of Build's closure that puts a list. Conditions: rows that fit.
-/
namespace Go.Proofs.YtjaipdenahlheaaGreatDoor
open Go.RowKit Go.ChangeShapes Go.WideShapes Go.Sort
theorem ktruth_any (b : Bool) (w : World) : Calls Tryz.prog 43 #[.bool b] w (fun e w' => e = .returned (.int .i64 (if b = true then 1 else 0)) ∧ w' = w) := by
  cases b with
  | true =>
    go_enter Tryz.func43, Tryz.ntmps43
    go_wp2_with fail
    go_ret
    exact ⟨rfl, rfl⟩
  | false =>
    go_enter Tryz.func43, Tryz.ntmps43
    go_wp2_with fail
    go_ret
    exact ⟨rfl, rfl⟩
theorem own_setK {W : World} {B g size n : Nat} {e t : TypeId} {v : Value} {xs : List Value} {cs : Array Value} (h : W.ownsRow B e size v n xs) (hb : Blk W g t cs) (hne : e ≠ t) (c : Nat) (u : Value) : (W.setCell ⟨g, c, none⟩ u).ownsRow B e size v n xs :=
  h.kept (only_setCell (only_refl W (some g)) (.inl rfl) u) (.inr (own_blk_ne h hb hne))
/-- A message that is being made in block mb: its values lie in a row of its own from block lo on; the texts lie elsewhere. -/
structure MkMsg (lo : Nat) (mb : Nat) (num : Int) (A : Option Addr) (n c : Nat) (zs : List (Fld × Value)) (w : World) : Prop where
  len : zs.length = n
  m : Blk w mb 86 #[.int .i64 num, .slice A n c]
  own : w.ownsRow lo 83 4 (.slice A n c) n (fcs zs)
/-- What is left where values were put behind the others. -/
def PutL (lo mb : Nat) (num : Int) (A : Option Addr) (n c : Nat) (zs zz : List (Fld × Value)) (m : Nat) (w : World) (e : Ending) (w' : World) : Prop :=
  ∃ A' c' w6, e = .returned (.tuple #[]) ∧ w' = w6.setCell ⟨mb, 1, none⟩ (.slice A' (n + m) c') ∧ MkMsg lo mb num A' (n + m) c' (zs ++ zz) w' ∧ w.grownBy w6 (Value.slice A n c).ownBlock ∧
    ((Value.slice A' (n + m) c').ownBlock = (Value.slice A n c).ownBlock ∨ ∃ j, (Value.slice A' (n + m) c').ownBlock = some j ∧ w.heap.size ≤ j)
theorem putL_of {lo mb : Nat} {num : Int} {A A6 : Option Addr} {n c m c6 : Nat} {zs zz : List (Fld × Value)} {w w6 : World} (h : MkMsg lo mb num A n c zs w) (o : Obj) (hown6 : w6.ownsRow lo 83 4 (.slice A6 (n + m) c6) (n + m) (fcs zs ++ fcs zz))
    (hgr6 : (w.alloc o).grownBy w6 (Value.slice A n c).ownBlock) (hor6 : (Value.slice A6 (n + m) c6).ownBlock = (Value.slice A n c).ownBlock ∨ (Value.slice A6 (n + m) c6).ownBlock = some (w.alloc o).heap.size) (hz : zz.length = m) :
    PutL lo mb num A n c zs zz m w (.returned (.tuple #[])) (w6.setCell ⟨mb, 1, none⟩ (.slice A6 (n + m) c6)) := by
  have hm6 := (h.m.alloc o).grown hgr6 (fun e => own_blk_ne h.own h.m (by decide) e.symm)
  have hset := hm6.set_ 1 (.slice A6 (n + m) c6)
  have hown7 := own_setK hown6 hm6 (by decide) 1 (.slice A6 (n + m) c6)
  have hf : fcs zs ++ fcs zz = fcs (zs ++ zz) := by simp [fcs]
  rw [hf] at hown7
  exact ⟨A6, c6, w6, rfl, rfl, ⟨by rw [List.length_append, h.len, hz], by simpa using hset, hown7⟩, only_trans (only_alloc (only_refl w _) o) hgr6, hor6.imp id fun e => ⟨_, e, by simp⟩⟩
set_option maxHeartbeats 2000000 in
theorem kput_any {lo mb : Nat} {num : Int} {A : Option Addr} {n c : Nat} {zs : List (Fld × Value)} {w : World} (h : MkMsg lo mb num A n c zs w) (hlo : lo ≤ w.heap.size) (hn : n ≤ 1000) (lA : Option Addr) (ll lc : Nat) (l : List (List UInt8)) :
    Calls Tryz.prog 40 #[.slice lA ll lc, .pointer (some ⟨mb, 0, none⟩)] w (PutL lo mb num A n c zs [(⟨110, 0, [], l⟩, .slice lA ll lc)] 1 w) := by
  obtain ⟨iI, hiI, hI0, hI1, hI2⟩ := info_partsN infoFd
  have m0 := h.m.cell 0
  have m1 := h.m.cell 1
  have f1 := h.m.frozen 1
  simp at m0 m1
  have HM := hide h
  have hmlt := h.m.lt
  clear h
  go_enter Tryz.func40, Tryz.ntmps40
  go_wp2_with (first
    | (at_builtin; refine wpList_append_any _ rfl (.tmp 4) (.tmp 7) _ rfl lo 83 iI (.agg #[.int .u8 0, .int .i64 0, .string ⟨#[]⟩, .slice none 0 0]) 4 56 Tryz.underlying84 hiI hI0 hI1 hI2 rfl (by decide) (.slice A n c) n _ rfl (HM.out.own.alloc _) _ (some ⟨_, 0, none⟩) 1 1 [.int .u8 110, .int .i64 0, .string ⟨#[]⟩, .slice lA ll lc] rfl (reads_blkN (Blk.new _ _ _) rfl) (by simp [Value.oneCell']) (by unfold maxLen; omega) (by omega) (by simp only [World.size_alloc]; omega) ?_; intro v6 w6 hown6 hgr6 hor6; obtain ⟨A6, c6, rfl⟩ := own_slN hown6;
       have hm6 := (HM.out.m.alloc (.cells #[.int .u8 110, .int .i64 0, .string ⟨#[]⟩, .slice lA ll lc] 83)).grown hgr6 (fun e => own_blk_ne HM.out.own HM.out.m (by decide) e.symm); have p1 := hm6.cell 1; have g1 := hm6.frozen 1; simp at p1)
    | fail)
  have HP := hide (putL_of (zz := [(⟨110, 0, [], l⟩, .slice lA ll lc)]) HM.out _ hown6 hgr6 hor6 rfl)
  clear hm6 hown6 hgr6 hor6 p1 g1
  exact bodyPost_ret (v := .tuple #[]) (by simp [results, Tryz.results40, go_sem]) rfl HP.out
end Go.Proofs.YtjaipdenahlheaaGreatDoor

/-
  The contract of shibbolethlaw04.Same: are two lists of names the same? Conditions: the arguments read as lists.
-/
namespace Go.Proofs.YtjaipdenahlheaaGreatDoor
open Go.RowKit

set_option maxHeartbeats 400000 in
theorem same_q {lo lo' : Nat} {v v' : Value} {ss ss' : List ByteArray} {w : World} (h1 : Strs lo w v ss) (h2 : Strs lo' w v' ss') (hb1 : ss.length ≤ 9223372036854775807) (hb2 : ss'.length ≤ 9223372036854775807) :
    Calls Tryz.prog 54 #[v, v'] w fun e w' => e = .returned (.bool (decide (ss = ss'))) ∧ ∃ n, w' = w.drewN n := by
  obtain ⟨A, c, rfl, hr⟩ := h1
  obtain ⟨A', c', rfl, hr'⟩ := h2
  by_cases hlen : ss.length = ss'.length
  · have Hlen := hide hlen
    have hle : ss.length ≤ ss'.length ∧ ss'.length ≤ ss.length := by omega
    obtain ⟨hle1, hle2⟩ := hle
    clear hlen
    go_enter Tryz.func54, Tryz.ntmps54
    go_wp2
    go_loopw [5] (fun i wr => ∃ k n : Nat, k ≤ ss.length ∧ i = .int .i64 k ∧ wr = w.drewN n ∧ ss.take k = ss'.take k) (fun i _ => ss.length - (intOf i).toNat)
    case atStart => exact ⟨0, 0, Nat.zero_le _, rfl, rfl, rfl⟩
    case round =>
      obtain ⟨k, n, hk, rfl, rfl, heq⟩ := hrel
      have Heq := hide heq
      clear heq
      by_cases hlt : k < ss.length
      · obtain ⟨ad, rfl, hlo, hc0⟩ := hr.str hlt
        obtain ⟨ad', rfl, hlo', hc0'⟩ := hr'.str (Nat.lt_of_lt_of_le hlt hle1)
        have hc := hc0
        have hc' := hc0'
        clear hc0 hc0'
        generalize hs : ss[k] = s at hc
        generalize hs' : ss'[k]'(Nat.lt_of_lt_of_le hlt hle1) = s' at hc'
        by_cases he : s = s'
        · subst he
          have Hs := hide hs
          have Hs' := hide hs'
          clear hs hs'
          go_wp2
          go_quiet (fail)
          go_wp2
          go_roundw
          case rel =>
            refine ⟨k + 1, _, hlt, by go_num, rfl, ?_⟩
            rw [List.take_succ_eq_append_getElem hlt, List.take_succ_eq_append_getElem (Nat.lt_of_lt_of_le hlt hle1), Heq.out, Hs.out, Hs'.out]
          case measure => simp [intOf]; omega
        · have hne : ss ≠ ss' := by
            rintro rfl
            exact he (hs.symm.trans hs')
          have e1 := bytes_ne he
          clear hs hs'
          go_wp2
          go_quiet (fail)
          go_wp2
          go_ret
          exact ⟨ret_bool (by simp [hne]), _, World.drewN_drewN _ _ _⟩
      · have he : ss = ss' := by
          have h := Heq.out
          rw [List.take_of_length_le (by omega), List.take_of_length_le (by omega)] at h
          exact h
        have He := hide he
        clear he
        go_wp2
        go_ret
        exact ⟨ret_bool (by simp [He.out]), _, rfl⟩
  · have hne : ss ≠ ss' := by
      rintro rfl
      exact hlen rfl
    go_enter Tryz.func54, Tryz.ntmps54
    go_wp2
    go_ret
    exact ⟨ret_bool (by simp [hne]), 0, rfl⟩
theorem same_any {lo lo' : Nat} {v v' : Value} {ss ss' : List ByteArray} {w : World} (h1 : Strs lo w v ss) (h2 : Strs lo' w v' ss') (hb1 : ss.length ≤ 9223372036854775807) (hb2 : ss'.length ≤ 9223372036854775807) :
    Calls Tryz.prog 54 #[v, v'] w fun e w' => e = .returned (.bool (decide (ss = ss'))) ∧ Below w.heap.size w w' :=
  (same_q h1 h2 hb1 hb2).mono fun _ _ ⟨h, n, hw⟩ => ⟨h, by rw [hw]; exact below_drewN (Below.refl _ _) _⟩
end Go.Proofs.YtjaipdenahlheaaGreatDoor

/-
  The contracts of slices.Clone and slices.Equal at lists of strings. Conditions: the arguments read as lists; few enough for one block.
-/
namespace Go.Proofs.YtjaipdenahlheaaGreatDoor
open Go.RowKit

theorem infoStr : (Tryz.prog.info? 9).map (fun i => (i.zero, i.size, i.bytes)) = some (some (.string ByteArray.empty), 1, 16) := by kernel_rfl
theorem strs_of_own {base : Nat} {w : World} {e : TypeId} {v : Value} {n : Nat} {ss : List ByteArray} (hn : n = ss.length) (h : w.ownsRow base e 1 v n (ss.map Value.string)) : ∃ lo, Strs lo w v ss ∧ base ≤ lo ∨ v = .slice none 0 0 ∧ ss = [] := by
  subst hn
  rcases h.2 with ⟨rfl, h0⟩ | ⟨g, cap, cur, rfl, hb, hh, hnc, hx⟩
  · exact ⟨0, .inr ⟨rfl, by simpa using h0⟩⟩
  · have hr := Reads.of_own h
    refine ⟨base, .inl ⟨⟨some ⟨g, 0, none⟩, cap, rfl, by simp, fun hn => ?_⟩, Nat.le_refl _⟩⟩
    obtain ⟨ad, e1, h2, h3⟩ := hr.2 hn
    cases e1
    exact ⟨_, rfl, hb, h2, h3⟩
theorem strs_nil (lo : Nat) (w : World) (c : Nat) : Strs lo w (.slice none 0 c) [] := ⟨none, c, rfl, Sl.nil_⟩
theorem own_strs {base : Nat} {w : World} {e : TypeId} {v : Value} {n : Nat} {ss : List ByteArray} (hn : n = ss.length) (h : w.ownsRow base e 1 v n (ss.map Value.string)) : Strs base w v ss := by
  obtain ⟨lo, ⟨h1, h2⟩ | ⟨rfl, rfl⟩⟩ := strs_of_own hn h
  · exact h1.mono h2
  · exact strs_nil _ _ _
set_option maxHeartbeats 400000 in
theorem clone_str {lo : Nat} {v : Value} {ss : List ByteArray} {w : World} (h : Strs lo w v ss) (hb : ss.length ≤ 8796093022207) :
    Calls Tryz.prog 89 #[v] w fun e w' => ∃ v', e = .returned v' ∧ Strs w.heap.size w' v' ss ∧ Below w.heap.size w w' := by
  obtain ⟨A, c, rfl, hr⟩ := h
  obtain ⟨i0, hi, hz0, hz1, hz2⟩ := info_parts infoStr
  have q : ∀ (w : World) (a : Option Addr) (n c n' c' : Nat), (binOp .eql 22 (.slice a n c) (.slice none n' c')).run Tryz.prog w = .ok (.bool a.isNone) w := fun w a n c n' c' => Lib.run_eql_slice_nil w _ _ a n c n' c' Tryz.underlying22
  cases A with
  | none =>
    have h0 : ss = [] := by
      rcases Nat.eq_zero_or_pos ss.length with h0 | h0
      · exact List.eq_nil_of_length_eq_zero h0
      · obtain ⟨ad, h, _⟩ := hr.2 h0
        cases h
    subst h0
    go_enter Tryz.func89, Tryz.ntmps89
    go_wp2
    go_ret
    exact ⟨_, rfl, strs_nil _ _ _, Below.refl _ _⟩
  | some ad =>
    have hr' := (hr.alloc (.cells #[] 9)).reads
    have hone : ∀ u ∈ ss.map Value.string, u.oneCell' = true := by
      intro u hu
      obtain ⟨s, _, rfl⟩ := List.mem_map.1 hu
      rfl
    have Hone := hide hone
    have Hr := hide hr'
    clear hone hr' hr
    go_enter Tryz.func89, Tryz.ntmps89
    go_wp2_with (at_builtin; refine wpList_append_any _ rfl (.tmp 5) (.tmp 6) _ rfl w.heap.size 9 i0 (.string ByteArray.empty) 1 16 Tryz.underlying22 hi hz0 hz1 hz2 rfl (by decide) _ 0 [] rfl (World.ownsRow_made w #[] 0 (Nat.le_refl _) (Nat.zero_le _) (by simp)) (w.heap.size + 1) (some ad) ss.length c (ss.map Value.string) rfl (by simpa using Hr.out) Hone.out (by unfold maxLen; omega) (by omega) (by simp) ?_; intro v' w1 hown hgrow _)
    rw [Nat.zero_add, List.nil_append] at hown
    go_wp2
    go_ret
    refine ⟨v', rfl, own_strs rfl hown, ?_⟩
    exact ((Below.refl _ w).alloc (Nat.le_refl _) _).grown hgrow (by simp) (by rintro k ⟨⟩; exact Nat.le_refl _)
end Go.Proofs.YtjaipdenahlheaaGreatDoor
