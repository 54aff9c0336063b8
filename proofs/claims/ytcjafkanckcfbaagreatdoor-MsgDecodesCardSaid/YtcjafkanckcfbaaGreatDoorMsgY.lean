/-
  Law MsgDecodes: the walk of the statement. Conditions: the library's handle and number are as they were laid.
-/
import Derived.Test.YtcjafkanckcfbaaGreatDoorMsgX
set_option linter.unusedVariables false
set_option linter.unusedSimpArgs false
namespace Go.Proofs.YtcjafkanckcfbaaGreatDoor
open Go.RowKit Go.ChangeShapes Go.WideShapes Go.Sort
theorem flat_mem {α : Type} {f : α → List UInt8} {l : List α} {y : α} (h : y ∈ l) : (f y).length ≤ ((l.map f).flatten).length := by
  induction l with
  | nil => cases h
  | cons x l ih =>
    simp only [List.map_cons, List.flatten_cons, List.length_append]
    rcases List.mem_cons.1 h with rfl | h
    · omega
    · have := ih h
      omega
theorem cntF_lt (k : Nat) : cntF k = 0 ∨ cntF k = 1 ∨ cntF k = 2 := by
  unfold cntF
  split
  · exact .inl rfl
  · split
    · exact .inr (.inr rfl)
    · exact .inr (.inl rfl)
theorem signL_ge {s : List UInt8} (h : aheadL s = false) : s.length ≤ (signL s).length := by
  have h1 := plainL_len (signL s)
  rw [signL_plain h] at h1
  exact h1
theorem putF_big {x : Fld} (h : okF x) : x.s.length ≤ (putF x).2.length + 16 ∧ x.l.length ≤ 16 ∧ ∀ y ∈ x.l, y.length ≤ (putF x).2.length + 64 := by
  obtain ⟨hp, hk⟩ := h
  rcases cntF_lt x.k with hc | hc | hc
  · have e := fld_num hp hc
    rw [e]
    exact ⟨by simp, by simp, fun y hy => by simp at hy⟩
  · have e := fld_txt hp hc
    have hl : x.l = [] := congrArg Fld.l e
    clear e
    refine ⟨?_, by rw [hl]; simp, fun y hy => by rw [hl] at hy; cases hy⟩
    unfold putF at hk ⊢
    unfold cntF at hc
    split
    · simp_all
    · split
      · simp_all
      · split
        · split
          · simp_all
          · rename_i ha
            have ha2 : aheadL x.s = false := by simpa using ha
            have := signL_ge ha2
            simp only
            rw [whole_text ha2]
            simp only [textL, List.length_append, q4_len]
            omega
        · split
          · simp_all
          · split
            · split
              · simp only
                omega
              · simp_all
            · split
              · simp_all
              · simp only [textL, List.length_append, q4_len]
                omega
  · have e := fld_lst hp hc
    have hs : x.s = [] := congrArg Fld.s e
    clear e
    rw [hs]
    unfold putF at hk ⊢
    unfold cntF at hc
    split
    · simp_all
    · split
      · simp_all
      · split
        · simp_all
        · split
          · split
            · rename_i hw
              obtain ⟨w1, w2⟩ := wrong_ok hw
              exact ⟨by simp, w1, fun y hy => by have := (right_len (w2 y hy)).2; omega⟩
            · simp_all
          · split
            · simp_all
            · split
              · split
                · simp_all
                · split
                  · simp_all
                  · refine ⟨by simp, by omega, fun y hy => ?_⟩
                    have := flat_mem (f := textL) hy
                    simp only [textL, List.length_append, q4_len] at this
                    simp only [extsL, List.length_append, q4_len]
                    omega
              · simp_all
theorem fld_sz {l : List Fld} (h : ∀ x ∈ l, okF x) (hl : (putFs l).length ≤ 2000) : ∀ x ∈ l, SzF x := by
  intro x hx
  obtain ⟨h1, h2, h3⟩ := putF_big (h x hx)
  have h4 := flat_mem (f := fun x : Fld => (putF x).2) hx
  unfold putFs at hl
  exact ⟨by omega, by omega, fun y hy => by have := h3 y hy; omega⟩
section
variable {w : World}
set_option maxHeartbeats 8000000 in
set_option maxRecDepth 100000 in
theorem msgDecodes_any (hE : Hand w) (hM : MaxL w) (pl : ByteArray) (hp : pl.size ≤ maxLen) :
    Calls Tryz.prog 4 #[.string pl] w (fun e w' => e = .returned (.bool true) ∧ Below w.heap.size w w') := by
  have HA := hide (fun W => awake07_any W)
  by_cases h2000 : 2000 < pl.size
  · have h2' : (2000 : Int) < pl.size := by omega
    clear hE hM hp
    go_enter Tryz.func4, Tryz.ntmps4
    go_wp2_with (first
      | (go_at_call 9; refine (HA.out _).mono ?_; rintro e w2 ⟨rfl, hb2⟩)
      | fail)
    go_ret
    exact ⟨rfl, hb2⟩
  · have h2' : ¬ (2000 : Int) < pl.size := by omega
    have HD := hide (decode_anyM (w := w) pl (by omega) hM)
    have HR := hide (fun W => rdecode_anyM (w := W) pl (by omega))
    have HL := hide (And.intro hE hM)
    have h2n : pl.size ≤ 2000 := by omega
    clear hE hM hp h2000
    go_enter Tryz.func4, Tryz.ntmps4
    go_wp2_with fail
    refine HD.out.mono ?_
    rintro e w1 ⟨hb1, hr1⟩
    have HB1 := hide hb1
    clear HD hb1
    rcases hr1 with ⟨num, l, A, c, hd, rfl, hF⟩ | ⟨b, ps, k, hk, rfl, hi⟩
    · have HF := hide hF
      have hbx := (Below.refl w1.heap.size w1).alloc (Nat.le_refl _) (.cells #[.int .i64 (num : Nat), .slice A l.length c] 24)
      have HB7 := hide (Blk.new w1 24 #[.int .i64 (num : Nat), .slice A l.length c])
      have HBX := hide hbx
      clear hF hbx
      go_wp2_with fail
      refine (HR.out _).mono ?_
      rintro e w2 ⟨hb2, ⟨num2, l2, A2, c2, hd2, rfl, hF2⟩ | ⟨ps2, k2, hk2, _, _⟩⟩
      · obtain ⟨rfl, rfl⟩ : num = num2 ∧ l = l2 := by rw [hd] at hd2; injection hd2 with h1 h2; exact ⟨h1, h2⟩
        obtain ⟨he1, he2⟩ := enc_dec hd
        obtain ⟨cc, rr, hp2, hn2, hpl2, hff⟩ := decS_get hd
        obtain ⟨f0, hf0, hrd⟩ := firstF_get hff
        obtain ⟨hk1, hk2, hk3⟩ := readFs_get hrd
        have hlen : l.length ≤ 13 := by
          have h1 := congrArg List.length hk1
          have h3 := (form_ascii hf0).1
          have h4 : f0.data.toList.length = f0.size := rfl
          simp only [List.length_map] at h1
          omega
        have hsz : ∀ x ∈ l, SzF x := fld_sz hk2 (by
          rw [← hk3]
          have h1 := congrArg List.length hp2
          have h4 : pl.data.toList.length = pl.size := rfl
          simp only [List.length_cons] at h1
          omega)
        have hb12 : Below w1.heap.size w1 w2 := HBX.out.trans (hb2.mono HBX.out.size)
        have hb02 := HB1.out.trans (hb12.mono HB1.out.size)
        have hB7 := HB7.out.below hb2 HB7.out.lt
        have hF12 := HF.out.below hb12
        obtain ⟨W3, hW3⟩ : ∃ W3, W3 = (w2.alloc (.cells #[.int .i64 (num : Nat), .slice A2 l.length c2] 24)).alloc (.cells #[.int .i64 0, .string ⟨#[]⟩] 33) := ⟨_, rfl⟩
        have hb23 : Below w2.heap.size w2 W3 := by rw [hW3]; (repeat (first | exact Below.refl _ _ | refine below_drewN ?_ _ | refine Below.drew ?_ | refine Below.alloc ?_ (by first | omega | (simp; done) | (simp; omega)) _ | refine Below.setCell ?_ (by first | omega | (simp; done) | (simp; omega)) _ | refine bel_alloc ?_ _ | refine bel_trans ?_ (by assumption) | refine Below.trans ?_ (Below.mono (by assumption) (by first | omega | (simp; done) | (simp; omega)))))
        have hM3 : Blk W3 w2.heap.size 24 #[.int .i64 (num : Nat), .slice A2 l.length c2] := by rw [hW3]; exact (Blk.new w2 _ _).alloc _
        have hE3 : Blk W3 (w2.heap.size + 1) 33 #[.int .i64 0, .string ⟨#[]⟩] := by rw [hW3]; exact blk_new2 w2 _ _ _
        have hB73 := hB7.below hb23 hB7.lt
        have hb03 := hb02.trans (hb23.mono hb02.size)
        have hF3 := hF12.below hb23
        have hG3 := hF2.below hb23
        have e0 := hE3.cell 0
        have a0 := hB73.cell 0
        have a1 := hB73.cell 1
        simp at e0 a0 a1
        have HEn := hide (encode_anyM (w := W3) (num : Nat) (c := c) hF3 hsz (by omega))
        have HS3 := hide (fun (W : World) (hb : Below W3.heap.size W3 W) => same07_true (w := W) (num : Nat) (c1 := c) (c2 := c2) (hF3.below hb) (hG3.below hb) (by omega) (fun x hx => by have := (hsz x hx).n; omega))
        have HM3 := hide (And.intro hM3 (And.intro hB73 hb03))
        have hpp : (pl.toList == pl.toList) = true := beq_self_eq_true _
        have hbp : bs pl.data.toList = pl := rfl
        have Hen := hide he1
        have hb7s : w1.heap.size < w2.heap.size := hB7.lt
        clear hd hd2 he1 he2 hp2 hn2 hpl2 hff hf0 hrd hk1 hk2 hk3 hsz hb12 hb02 hB7 hF12 hb23 hM3 hE3 hB73 hb03 hF3 hG3 hb2 hF2 HF HR hlen
        go_upto_region 5 with fail
        rw [← hW3]
        clear hW3
        generalize w1.heap.size = b1 at HM3 a0 a1 ⊢
        generalize w2.heap.size = b2 at HM3 e0 ⊢
        go_wp2_with fail
        refine HEn.out.mono ?_
        rintro e w4 ⟨hb4, ⟨s, hs, rfl⟩ | ⟨b, ps, k, hk, _, _⟩⟩
        · obtain rfl : s = pl.data.toList := by rw [Hen.out] at hs; injection hs with hs; exact hs.symm
          rw [hbp]
          have HM4 := hide (And.intro (HM3.out.1.below hb4 HM3.out.1.lt) (And.intro (HM3.out.2.1.below hb4 HM3.out.2.1.lt) (And.intro (HM3.out.2.2.trans (hb4.mono HM3.out.2.2.size)) hb4)))
          clear HEn HM3 hs hbp a0 a1 e0 hb4 Hen
          go_wp2_with (first
            | (go_at_call 9; refine (HA.out _).mono ?_; rintro e w5 ⟨rfl, hb5⟩; have hB5 := HM4.out.1.below hb5 HM4.out.1.lt; have m0 := hB5.cell 0; have m1 := hB5.cell 1; have hB7 := HM4.out.2.1.below hb5 HM4.out.2.1.lt; have p0 := hB7.cell 0; have p1 := hB7.cell 1; simp at m0 m1 p0 p1)
            | (go_at_call 14; refine (HS3.out _ (HM4.out.2.2.2.trans (hb5.mono HM4.out.2.2.2.size))).mono ?_; rintro e w6 ⟨rfl, hb6⟩)
            | fail)
          go_ret
          exact ⟨rfl, HM4.out.2.2.1.trans ((hb5.trans (hb6.mono hb5.size)).mono HM4.out.2.2.1.size)⟩
        · rw [Hen.out] at hk
          cases hk
      · rw [hd] at hk2
        cases hk2
    · have Hi := hide hi
      have hbx := (Below.refl w1.heap.size w1).alloc (Nat.le_refl _) (.cells #[.int .i64 0, .slice none 0 0] 24)
      have HB7 := hide (Blk.new w1 24 #[.int .i64 0, .slice none 0 0])
      have HBX := hide hbx
      clear hi hbx
      unfold errV
      go_wp2_with fail
      refine (HR.out _).mono ?_
      rintro e w2 ⟨hb2, ⟨num2, l2, A2, c2, hd2, rfl, hF2⟩ | ⟨ps2, k2, hk2, hk0, rfl⟩⟩
      · rw [hd2] at hk
        cases hk
      · rw [hk] at hk2
        obtain ⟨rfl, rfl⟩ : ps = ps2 ∧ k = k2 := by injection hk2 with h; injection h with h1 h2; exact ⟨h1, h2⟩
        have hps := decErr_ok hk
        have hx1 : ((k : Int) == 0) = false := by rw [beq_eq_false_iff_ne]; omega
        have hx2 : ((k : Int) != 0) = true := by simp [bne, hx1]
        have hb12 : Below w1.heap.size w1 w2 := HBX.out.trans (hb2.mono HBX.out.size)
        have hB7 := HB7.out.below hb2 HB7.out.lt
        obtain ⟨W3, hW3⟩ : ∃ W3, W3 = (w2.alloc (.cells #[.int .i64 0, .slice none 0 0] 24)).alloc (.cells #[.int .i64 (k : Nat), .string (bs (atL ps))] 33) := ⟨_, rfl⟩
        have hb23 : Below w2.heap.size w2 W3 := by rw [hW3]; (repeat (first | exact Below.refl _ _ | refine below_drewN ?_ _ | refine Below.drew ?_ | refine Below.alloc ?_ (by first | omega | (simp; done) | (simp; omega)) _ | refine Below.setCell ?_ (by first | omega | (simp; done) | (simp; omega)) _ | refine bel_alloc ?_ _ | refine bel_trans ?_ (by assumption) | refine Below.trans ?_ (Below.mono (by assumption) (by first | omega | (simp; done) | (simp; omega)))))
        have hE3 : Blk W3 (w2.heap.size + 1) 33 #[.int .i64 (k : Nat), .string (bs (atL ps))] := by rw [hW3]; exact blk_new2 w2 _ _ _
        have hB73 := hB7.below hb23 hB7.lt
        have hb13 := hb12.trans (hb23.mono hb12.size)
        have hb03 := HB1.out.trans (hb13.mono HB1.out.size)
        have e0 := hE3.cell 0
        simp at e0
        have HW := hide (fun (W : World) (hb : Below W3.heap.size W3 W) => wrgN_any (w := W) b (k := (k : Nat)) hps.1 hps.2 ((Hi.out.below hb13).below hb) (HL.out.1.below (hb03.trans (hb.mono hb03.size))))
        have HS := hide (fun (W : World) => same07_true (w := W) 0 (l := []) (A1 := none) (A2 := none) (c1 := 0) (c2 := 0) (flds_nil _ _) (flds_nil _ _) (by simp) (fun x hx => by cases hx))
        have HM3 := hide (And.intro hE3 (And.intro hB73 hb03))
        rw [show ([] : List Fld).length = 0 from rfl] at HS
        clear hk hk2 hk0 hps hb12 hB7 hb23 hE3 hB73 hb13 hb03 Hi HR hb2
        go_upto_region 5 with fail
        rw [← hW3]
        clear hW3
        generalize w1.heap.size = b1 at HM3 ⊢
        generalize w2.heap.size + 1 = b2 at HM3 e0 ⊢
        unfold errV at HW
        generalize bs (atL ps) = ap at HW HM3 ⊢
        go_wp2_with (first
          | (go_at_call 9; refine (HA.out _).mono ?_; rintro e w5 ⟨rfl, hb5⟩; have hB5 := HM3.out.1.below hb5 HM3.out.1.lt; have m0 := hB5.cell 0; have m1 := hB5.cell 1; simp at m0 m1)
          | (go_at_call 12; refine (HW.out _ hb5).mono ?_; rintro e w6 ⟨rfl, hb6⟩; have hB7 := (HM3.out.2.1.below hb5 HM3.out.2.1.lt).below hb6 (HM3.out.2.1.below hb5 HM3.out.2.1.lt).lt; have p0 := hB7.cell 0; have p1 := hB7.cell 1; simp at p0 p1)
          | (go_at_call 14; refine (HS.out _).mono ?_; rintro e w7 ⟨rfl, hb7⟩)
          | fail)
        go_ret
        exact ⟨rfl, HM3.out.2.2.trans ((hb5.trans ((hb6.trans (hb7.mono hb6.size)).mono hb5.size)).mono HM3.out.2.2.size)⟩
end
end Go.Proofs.YtcjafkanckcfbaaGreatDoor
