/-
  Contracts of a conf's parts: grants, keys, the eight lists. Conditions: lists of at most 1,000,000 texts.
-/
import Derived.Test.YtjaipdenahlheaaDoorKCfD
import Derived.Test.YtjaipdenahlheaaDoorKPrfG
set_option linter.unusedVariables false
set_option linter.unusedSimpArgs false
namespace Go.Proofs.YtjaipdenahlheaaDoor
open Go.RowKit Go.ChangeShapes Go.WideShapes Go.Sort
def GrC (w : World) (A : Option Addr) (gs : List (List UInt8 × Int)) : Prop := ∀ k, (hk : k < gs.length) → ∃ ad, A = some ad ∧ ad.block < w.heap.size ∧ w.cell? (ad.add (k * 2)) = some (.string (bs gs[k].1)) ∧ w.cell? ⟨(ad.add (k * 2)).block, (ad.add (k * 2)).off + 1, none⟩ = some (.int .i64 gs[k].2)
def InC (w : World) (A : Option Addr) (ks : List Int) : Prop := ∀ k, (hk : k < ks.length) → ∃ ad, A = some ad ∧ ad.block < w.heap.size ∧ w.cell? (ad.add k) = some (.int .i64 ks[k])
theorem GrC.below {w w' : World} {A : Option Addr} {gs : List (List UInt8 × Int)} (h : GrC w A gs) (hb : Below w.heap.size w w') : GrC w' A gs := fun k hk => by
  obtain ⟨ad, e, h1, h2, h3⟩ := h k hk
  exact ⟨ad, e, Nat.lt_of_lt_of_le h1 hb.size, (hb.cell (p := ad.add (k * 2)) (by rw [block_of_add]; exact h1)).trans h2, (hb.cell (p := ⟨(ad.add (k * 2)).block, (ad.add (k * 2)).off + 1, none⟩) (by show (ad.add (k * 2)).block < _; rw [block_of_add]; exact h1)).trans h3⟩
theorem InC.below {w w' : World} {A : Option Addr} {ks : List Int} (h : InC w A ks) (hb : Below w.heap.size w w') : InC w' A ks := fun k hk => by
  obtain ⟨ad, e, h1, h2⟩ := h k hk
  exact ⟨ad, e, Nat.lt_of_lt_of_le h1 hb.size, (hb.cell (p := ad.add k) (by rw [block_of_add]; exact h1)).trans h2⟩
/-- The first thing that is wrong with grants. -/
def grF : List (List UInt8 × Int) → Int
  | [] => 0
  | g :: r => if userL g.1 = false then 3 else if princL g.2 = false then 5 else grF r
def grW (gs : List (List UInt8 × Int)) : Int := if 16 < gs.length then 2 else grF gs
theorem grF_cons {gs : List (List UInt8 × Int)} {k : Nat} (hk : k < gs.length) : grF (gs.drop k) = if userL gs[k].1 = false then 3 else if princL gs[k].2 = false then 5 else grF (gs.drop (k + 1)) := by
  rw [List.drop_eq_getElem_cons hk]
  rfl
def keyW (ks : List Int) : Int := if 8 < ks.length then 2 else if ks.all princL = true then 0 else 5
theorem princ_no1 {n : Int} (h : n < 0) : princL n = false := by unfold princL; rw [decide_eq_false (by omega)]; rfl
theorem princ_no2 {n : Int} (h : 15 < n) : princL n = false := by unfold princL; rw [decide_eq_false (p := n ≤ 15) (by omega), Bool.and_false]
theorem princ_yes {n : Int} (h : 0 ≤ n) (h2 : n ≤ 15) : princL n = true := by unfold princL; rw [decide_eq_true h, decide_eq_true h2]; rfl
section
variable {w : World}
set_option maxHeartbeats 2000000 in
theorem grants_any {A : Option Addr} {c : Nat} {gs : List (List UInt8 × Int)} (h : GrC w A gs) (hl : gs.length ≤ 1000000) (hy : ∀ g ∈ gs, g.1.length ≤ 1000000) :
    Calls Tryd.prog 57 #[.slice A gs.length c] w (fun e w' => e = .returned (.int .i64 (grW gs)) ∧ Below w.heap.size w w') := by
  have HG := hide h
  have HY := hide hy
  clear h hy
  by_cases h16 : 16 < gs.length
  · have h16b : (16 : Int) < gs.length := by omega
    have E := hide (show grW gs = 2 from by unfold grW; rw [if_pos h16])
    clear h16
    go_enter Tryd.func57, Tryd.ntmps57
    go_wp2_with fail
    go_ret
    exact ⟨by rw [E.out]; rfl, Below.refl _ _⟩
  · have h16b : ¬ (16 : Int) < gs.length := by omega
    have HE := hide (show grW gs = grF gs from by unfold grW; rw [if_neg h16])
    clear h16
    go_enter Tryd.func57, Tryd.ntmps57
    go_wp2_with fail
    go_loopw [10] (fun i wr => (∃ k : Nat, k ≤ gs.length ∧ i = .int .i64 k ∧ Hid (grF gs = grF (gs.drop k))) ∧ Hid (Below w.heap.size w wr)) (fun i _ => gs.length - (intOf i).toNat)
    case atStart => exact ⟨⟨0, Nat.zero_le _, rfl, hide rfl⟩, hide (Below.refl _ _)⟩
    case round =>
      obtain ⟨⟨k, hk, rfl, H⟩, HB⟩ := hrel
      by_cases hlt : k < gs.length
      · have hltI : (k : Int) < gs.length := by omega
        obtain ⟨ad, rfl, had, hc0, hc1⟩ := (HG.out.below HB.out) k hlt
        have hus := HY.out _ (List.getElem_mem hlt)
        have HF := hide (H.out.trans (grF_cons hlt))
        generalize gs[k] = g at hc0 hc1 hus HF
        obtain ⟨u, who⟩ := g
        simp only at hc0 hc1 hus HF
        have HU := hide (fun W => user_any (bs u) (Nat.le_trans hus (by decide)) W)
        rw [bs_data] at HU
        obtain ⟨w1, hw1⟩ : ∃ w1, w1 = wr.alloc (.cells #[.string (bs u), .int .i64 who] 36) := ⟨_, rfl⟩
        have hb1 : Below wr.heap.size wr w1 := by rw [hw1]; (repeat (first | exact Below.refl _ _ | refine below_drewN ?_ _ | refine Below.drew ?_ | refine Below.alloc ?_ (by first | omega | (simp; done) | (simp; omega)) _ | refine Below.setCell ?_ (by first | omega | (simp; done) | (simp; omega)) _ | refine bel_alloc ?_ _ | refine bel_trans ?_ (by assumption) | refine Below.trans ?_ (Below.mono (by assumption) (by first | omega | (simp; done) | (simp; omega)))))
        have hB1 : Blk w1 wr.heap.size 36 #[.string (bs u), .int .i64 who] := by rw [hw1]; exact Blk.new wr _ _
        have HBB := hide (HB.out.trans (hb1.mono HB.out.size))
        have d0 := hB1.cell 0
        have d1 := hB1.cell 1
        simp at d0 d1
        have hwlt := hB1.lt
        clear H hus hb1 hB1
        go_upto_region 6 with fail
        rw [← hw1]
        clear hw1
        cases hu : userL u with
        | false =>
          rw [hu] at HU
          have E := hide (show grW gs = 3 from by rw [HE.out, HF.out, if_pos hu])
          clear hu HF HE HG HY
          go_wp2_with (first | (go_at_call 45; refine (HU.out _).mono ?_; rintro e w2 ⟨rfl, rfl⟩) | fail)
          go_ret
          exact ⟨by rw [E.out]; rfl, HBB.out⟩
        | true =>
          rw [hu] at HU
          by_cases h1 : who < 0
          · have E := hide (show grW gs = 5 from by rw [HE.out, HF.out, if_neg (by rw [hu]; decide), if_pos (princ_no1 h1)])
            clear hu HF HE HG HY
            go_wp2_with (first | (go_at_call 45; refine (HU.out _).mono ?_; rintro e w2 ⟨rfl, rfl⟩) | fail)
            go_ret
            exact ⟨by rw [E.out]; rfl, HBB.out⟩
          · by_cases h2 : 16 ≤ who
            · have E := hide (show grW gs = 5 from by rw [HE.out, HF.out, if_neg (by rw [hu]; decide), if_pos (princ_no2 (by omega))])
              clear hu HF HE HG HY
              go_wp2_with (first | (go_at_call 45; refine (HU.out _).mono ?_; rintro e w2 ⟨rfl, rfl⟩) | fail)
              go_ret
              exact ⟨by rw [E.out]; rfl, HBB.out⟩
            · have q1 : decide (who < 0) = false := decide_eq_false h1
              have q2 : decide (16 ≤ who) = false := decide_eq_false h2
              have H2 := hide (show grF gs = grF (gs.drop (k + 1)) from by rw [HF.out, if_neg (by rw [hu]; decide), if_neg (by rw [princ_yes (by omega) (by omega)]; decide)])
              clear hu HF HG HY
              go_wp2_with (first | (go_at_call 45; refine (HU.out _).mono ?_; rintro e w2 ⟨rfl, rfl⟩) | fail)
              go_roundw
              case rel => exact ⟨⟨k + 1, hlt, by go_num, H2⟩, HBB⟩
              case measure => simp [intOf]; omega
      · have hltI : ¬ (k : Int) < gs.length := by omega
        have E := hide (show grW gs = 0 from by rw [HE.out, H.out, List.drop_of_length_le (by omega)]; rfl)
        clear H HG HY HE
        go_wp2_with fail
        go_ret
        exact ⟨by rw [E.out]; rfl, HB.out⟩
/-- What a check answers: nothing, or an error with its places and its number. -/
def ErrR (o : Option (List (List UInt8) × Int)) (w : World) (e : Ending) (w' : World) : Prop :=
  Below w.heap.size w w' ∧ match o with
    | none => e = .returned .nilIface
    | some (ps, k) => ∃ b, e = .returned (errV b) ∧ IsErr w' (errV b) ps k
theorem errR_none {P : Program} {f : FuncId} {args : Array Value} (h : Calls P f args w (ErrR none w)) : Calls P f args w (fun e w' => e = .returned .nilIface ∧ Below w.heap.size w w') := h.mono fun _ _ h => ⟨h.2, h.1⟩
theorem errR_some {P : Program} {f : FuncId} {args : Array Value} {ps : List (List UInt8)} {k : Int} (h : Calls P f args w (ErrR (some (ps, k)) w)) : Calls P f args w (fun e w' => ∃ b, e = .returned (errV b) ∧ IsErr w' (errV b) ps k ∧ Below w.heap.size w w') := h.mono fun _ _ h => let ⟨b, h1, h2⟩ := h.2; ⟨b, h1, h2, h.1⟩
theorem errR_n {o : Option (List (List UInt8) × Int)} {w' : World} {e : Ending} (h : o = none) (hb : Below w.heap.size w w') (he : e = .returned .nilIface) : ErrR o w e w' := by subst h; exact ⟨hb, he⟩
theorem errR_s {o : Option (List (List UInt8) × Int)} {ps : List (List UInt8)} {k : Int} {w' : World} {e : Ending} {b : Nat} (h : o = some (ps, k)) (hb : Below w.heap.size w w') (he : e = .returned (errV b)) (hi : IsErr w' (errV b) ps k) : ErrR o w e w' := by subst h; exact ⟨hb, b, he, hi⟩
def keysB : List UInt8 := [107, 101, 121, 115]
def keyE (ks : List Int) : Option (List (List UInt8) × Int) := if keyW ks = 0 then none else some ([keysB], keyW ks)
theorem keyE_2 {ks : List Int} (h : keyW ks = 2) : keyE ks = some ([keysB], 2) := by unfold keyE; rw [h]; rfl
theorem keyE_5 {ks : List Int} (h : keyW ks = 5) : keyE ks = some ([keysB], 5) := by unfold keyE; rw [h]; rfl
theorem keyE_0 {ks : List Int} (h : keyW ks = 0) : keyE ks = none := by unfold keyE; rw [h]; rfl
theorem keyW_no {ks : List Int} (h8 : ¬ 8 < ks.length) {n : Int} (hn : n ∈ ks) (h : princL n = false) : keyW ks = 5 := by unfold keyW; rw [if_neg h8, all_no hn h]; rfl
theorem keyW_yes {ks : List Int} (h8 : ¬ 8 < ks.length) (h : ∀ n ∈ ks, princL n = true) : keyW ks = 0 := by unfold keyW; rw [if_neg h8, if_pos (List.all_eq_true.2 h)]
set_option maxHeartbeats 2000000 in
theorem keys_any {A : Option Addr} {c : Nat} {ks : List Int} (h : InC w A ks) (hl : ks.length ≤ 1000000) :
    Calls Tryd.prog 47 #[.slice A ks.length c] w (ErrR (keyE ks) w) := by
  have HG := hide h
  have HO2 := hide (fun (W : World) => fof_any ⟨#[107, 101, 121, 115]⟩ 2 (by decide) W)
  have HO5 := hide (fun (W : World) => fof_any ⟨#[107, 101, 121, 115]⟩ 5 (by decide) W)
  clear h
  by_cases h8 : 8 < ks.length
  · have h8b : (8 : Int) < ks.length := by omega
    have E := hide (keyE_2 (show keyW ks = 2 from by unfold keyW; rw [if_pos h8]))
    clear h8
    rw [E.out]
    go_enter Tryd.func47, Tryd.ntmps47
    go_wp2_with (first | (go_at_call 53; refine (HO2.out _).mono ?_; rintro e w2 ⟨b, rfl, hi, hb⟩) | fail)
    go_ret
    exact ⟨hb, b, rfl, hi⟩
  · have h8b : ¬ (8 : Int) < ks.length := by omega
    have Hno := hide (fun n (hn : n ∈ ks) => keyW_no h8 hn)
    have Hyes := hide (keyW_yes h8)
    clear h8
    go_enter Tryd.func47, Tryd.ntmps47
    go_wp2_with fail
    go_loop [11] (fun i => ∃ k : Nat, k ≤ ks.length ∧ i = .int .i64 k ∧ Hid (∀ n ∈ ks.take k, princL n = true)) (fun i => ks.length - (intOf i).toNat)
    case atStart => exact ⟨0, Nat.zero_le _, rfl, hide (by simp)⟩
    case round =>
      obtain ⟨k, hk, rfl, H⟩ := hrel
      by_cases hlt : k < ks.length
      · have hltI : (k : Int) < ks.length := by omega
        obtain ⟨ad, rfl, had, hc0⟩ := HG.out k hlt
        have HP := hide (princ_any ks[k] w)
        cases hp : princL ks[k] with
        | false =>
          rw [hp] at HP
          have E := hide (keyE_5 (Hno.out _ (List.getElem_mem hlt) hp))
          clear hp H HG Hno Hyes
          go_wp2_with (first | (go_at_call 40; refine HP.out.mono ?_; rintro e w1 ⟨rfl, rfl⟩) | (go_at_call 53; refine (HO5.out _).mono ?_; rintro e w2 ⟨b, rfl, hi, hb⟩) | fail)
          go_ret
          exact errR_s E.out hb rfl hi
        | true =>
          rw [hp] at HP
          have H2 := hide (show ∀ n ∈ ks.take (k + 1), princL n = true from by
            intro x hx
            rw [List.take_succ_eq_append_getElem hlt] at hx
            rcases List.mem_append.1 hx with hx | hx
            · exact H.out x hx
            · simp only [List.mem_singleton] at hx
              subst hx
              exact hp)
          clear hp H HG Hno Hyes
          go_wp2_with (first | (go_at_call 40; refine HP.out.mono ?_; rintro e w1 ⟨rfl, rfl⟩) | fail)
          go_round
          case rel => exact ⟨k + 1, hlt, by go_num, H2⟩
          case measure => simp [intOf]; omega
      · have hltI : ¬ (k : Int) < ks.length := by omega
        have E := hide (keyE_0 (Hyes.out (fun n hn => H.out n (by rw [List.take_of_length_le (by omega)]; exact hn))))
        clear H HG Hno Hyes
        go_wp2_with fail
        go_ret
        exact errR_n E.out (Below.refl _ _) rfl
/-- What is wrong with a gate. -/
def denyE (gs : List (List UInt8 × Int)) (al : List (List UInt8)) (lim : Int) : Option (List UInt8 × Int) :=
  if grW gs ≠ 0 then some ([103, 114, 97, 110, 116, 115], grW gs) else if algW al ≠ 0 then some ([97, 108, 103, 115], algW al) else if lim < 1 ∨ 20 < lim then some ([108, 105, 109, 105, 116], 5) else none
def denyR (o : Option (List UInt8 × Int)) : Option (List (List UInt8) × Int) := o.map fun x => ([[100, 101, 110, 121], x.1], x.2)
theorem denyE_g {gs : List (List UInt8 × Int)} (al : List (List UInt8)) (lim : Int) (h : grW gs ≠ 0) : denyE gs al lim = some ([103, 114, 97, 110, 116, 115], grW gs) := by unfold denyE; rw [if_pos h]
theorem denyE_a {gs : List (List UInt8 × Int)} {al : List (List UInt8)} (lim : Int) (h : grW gs = 0) (h2 : algW al ≠ 0) : denyE gs al lim = some ([97, 108, 103, 115], algW al) := by unfold denyE; rw [if_neg (by rw [h]; decide), if_pos h2]
theorem denyE_l {gs : List (List UInt8 × Int)} {al : List (List UInt8)} {lim : Int} (h : grW gs = 0) (h2 : algW al = 0) (h3 : lim < 1 ∨ 20 < lim) : denyE gs al lim = some ([108, 105, 109, 105, 116], 5) := by unfold denyE; rw [if_neg (by rw [h]; decide), if_neg (by rw [h2]; decide), if_pos h3]
theorem denyE_n {gs : List (List UInt8 × Int)} {al : List (List UInt8)} {lim : Int} (h : grW gs = 0) (h2 : algW al = 0) (h3 : ¬ (lim < 1 ∨ 20 < lim)) : denyE gs al lim = none := by unfold denyE; rw [if_neg (by rw [h]; decide), if_neg (by rw [h2]; decide), if_neg h3]
set_option maxHeartbeats 2000000 in
theorem deny_any {A B : Option Addr} {c d : Nat} {gs : List (List UInt8 × Int)} {al : List (List UInt8)} {lim : Int} (h : GrC w A gs) (hl : gs.length ≤ 1000000) (hy : ∀ g ∈ gs, g.1.length ≤ 1000000)
    (h2 : Txs w (.slice B al.length d) al) (hc2 : al.length ≤ d) (hl2 : al.length ≤ 1000000) (hy2 : ∀ y ∈ al, y.length ≤ 1000000) :
    Calls Tryd.prog 42 #[.slice A gs.length c, .slice B al.length d, .int .i64 lim] w (ErrR (denyR (denyE gs al lim)) w) := by
  have HG := hide (grants_any (c := c) h hl hy)
  have HA := hide (fun (W : World) (hb : Below w.heap.size w W) => algs_any (h2.below hb) hc2 hl2 hy2)
  have HT := hide (fun (W : World) (s : ByteArray) (b : Nat) (ps : List (List UInt8)) (k : Int) (h : IsErr W (errV b) ps k) => fat_any s b h)
  clear h hl hy h2 hc2 hl2 hy2
  generalize gs.length = n1 at HG ⊢
  generalize al.length = n2 at HA ⊢
  by_cases hg : grW gs = 0
  · rw [hg] at HG
    by_cases ha : algW al = 0
    · rw [ha] at HA
      by_cases h1 : lim < 1
      · have HO := hide (fun (W : World) => fof_any ⟨#[108, 105, 109, 105, 116]⟩ 5 (by decide) W)
        rw [denyE_l hg ha (.inl h1)]
        clear hg ha
        go_enter Tryd.func42, Tryd.ntmps42
        go_wp2_with (first | (go_at_call 57; refine HG.out.mono ?_; rintro e w1 ⟨rfl, hb1⟩) | (go_at_call 58; refine (HA.out _ hb1).mono ?_; rintro e w2 ⟨rfl, hb2⟩; have hb4 := hb1.trans (hb2.mono hb1.size)) | (go_at_call 53; refine (HO.out _).mono ?_; rintro e w3 ⟨b, rfl, hi, hb3⟩; have HT2 := hide (HT.out _ ⟨#[100, 101, 110, 121]⟩ b _ _ hi); unfold errV at HT2; try unfold errV) | (go_at_call 29; refine HT2.out.mono ?_; rintro e w5 ⟨b2, rfl, hi2, hb5⟩; have hb6 := hb3.trans (hb5.mono hb3.size)) | fail)
        go_ret
        exact ⟨hb4.trans (hb6.mono hb4.size), _, rfl, hi2⟩
      · by_cases h2 : 20 < lim
        · have HO := hide (fun (W : World) => fof_any ⟨#[108, 105, 109, 105, 116]⟩ 5 (by decide) W)
          rw [denyE_l hg ha (.inr h2)]
          clear hg ha
          go_enter Tryd.func42, Tryd.ntmps42
          go_wp2_with (first | (go_at_call 57; refine HG.out.mono ?_; rintro e w1 ⟨rfl, hb1⟩) | (go_at_call 58; refine (HA.out _ hb1).mono ?_; rintro e w2 ⟨rfl, hb2⟩; have hb4 := hb1.trans (hb2.mono hb1.size)) | (go_at_call 53; refine (HO.out _).mono ?_; rintro e w3 ⟨b, rfl, hi, hb3⟩; have HT2 := hide (HT.out _ ⟨#[100, 101, 110, 121]⟩ b _ _ hi); unfold errV at HT2; try unfold errV) | (go_at_call 29; refine HT2.out.mono ?_; rintro e w5 ⟨b2, rfl, hi2, hb5⟩; have hb6 := hb3.trans (hb5.mono hb3.size)) | fail)
          go_ret
          exact ⟨hb4.trans (hb6.mono hb4.size), _, rfl, hi2⟩
        · have q1 : decide (lim < 1) = false := decide_eq_false h1
          have q2 : decide (20 < lim) = false := decide_eq_false h2
          rw [denyE_n hg ha (by rintro (e | e); exact h1 e; exact h2 e)]
          clear hg ha
          go_enter Tryd.func42, Tryd.ntmps42
          go_wp2_with (first | (go_at_call 57; refine HG.out.mono ?_; rintro e w1 ⟨rfl, hb1⟩) | (go_at_call 58; refine (HA.out _ hb1).mono ?_; rintro e w2 ⟨rfl, hb2⟩; have hb4 := hb1.trans (hb2.mono hb1.size)) | fail)
          go_ret
          exact ⟨hb4, rfl⟩
    · have ha1 : (algW al == 0) = false := by rw [beq_eq_false_iff_ne]; exact ha
      have ha2 : (algW al != 0) = true := by simp [bne, ha1]
      have HO := hide (fun (W : World) => fof_any ⟨#[97, 108, 103, 115]⟩ (algW al) ha1 W)
      rw [denyE_a lim hg ha]
      clear hg ha
      generalize algW al = z at HA HO ha1 ha2 ⊢
      go_enter Tryd.func42, Tryd.ntmps42
      go_wp2_with (first | (go_at_call 57; refine HG.out.mono ?_; rintro e w1 ⟨rfl, hb1⟩) | (go_at_call 58; refine (HA.out _ hb1).mono ?_; rintro e w2 ⟨rfl, hb2⟩; have hb4 := hb1.trans (hb2.mono hb1.size)) | (go_at_call 53; refine (HO.out _).mono ?_; rintro e w3 ⟨b, rfl, hi, hb3⟩; have HT2 := hide (HT.out _ ⟨#[100, 101, 110, 121]⟩ b _ _ hi); unfold errV at HT2; try unfold errV) | (go_at_call 29; refine HT2.out.mono ?_; rintro e w5 ⟨b2, rfl, hi2, hb5⟩; have hb6 := hb3.trans (hb5.mono hb3.size)) | fail)
      go_ret
      exact ⟨hb4.trans (hb6.mono hb4.size), _, rfl, hi2⟩
  · have ha1 : (grW gs == 0) = false := by rw [beq_eq_false_iff_ne]; exact hg
    have ha2 : (grW gs != 0) = true := by simp [bne, ha1]
    have HO := hide (fun (W : World) => fof_any ⟨#[103, 114, 97, 110, 116, 115]⟩ (grW gs) ha1 W)
    rw [denyE_g al lim hg]
    clear hg
    generalize grW gs = z at HG HO ha1 ha2 ⊢
    go_enter Tryd.func42, Tryd.ntmps42
    go_wp2_with (first | (go_at_call 57; refine HG.out.mono ?_; rintro e w1 ⟨rfl, hb4⟩) | (go_at_call 53; refine (HO.out _).mono ?_; rintro e w3 ⟨b, rfl, hi, hb3⟩; have HT2 := hide (HT.out _ ⟨#[100, 101, 110, 121]⟩ b _ _ hi); unfold errV at HT2; try unfold errV) | (go_at_call 29; refine HT2.out.mono ?_; rintro e w5 ⟨b2, rfl, hi2, hb5⟩; have hb6 := hb3.trans (hb5.mono hb3.size)) | fail)
    go_ret
    exact ⟨hb4.trans (hb6.mono hb4.size), _, rfl, hi2⟩
end
end Go.Proofs.YtjaipdenahlheaaDoor
