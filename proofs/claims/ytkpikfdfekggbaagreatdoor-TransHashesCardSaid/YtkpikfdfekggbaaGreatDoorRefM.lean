/-
  The contracts of the reference for package term: the makers but Exp. Conditions: texts are of moderate length.
-/
import Derived.Test.YtkpikfdfekggbaaGreatDoorRefT
namespace Go.Proofs.YtkpikfdfekggbaaGreatDoor
open Go.RowKit Go.ChangeShapes Go.WideShapes Go.Sort

theorem ret_bsb {l m : List UInt8} (h : l = m) : Ending.returned (.string (bs l)) = .returned (.string (bs m)) := by rw [h]
theorem bs_size_i (l : List UInt8) (n : Nat) (h : l.length ≤ n) : ((bs l).size : Int) ≤ n := by rw [bs_size]; omega
theorem enc_isE (t : Tm) : (bs (enc t)).toList.isEmpty = false := by
  rw [bs_toList]
  cases e : enc t with
  | nil => exact absurd e (enc_ne t)
  | cons => rfl
theorem rTag_at (k : Nat) (n : Int) (hn : n = k) (w : World) (h1 : k ≤ 15) : Calls Tryz.prog 110 #[.int .i64 n] w (Says [UInt8.ofNat (240 + k)] w) := by
  subst hn
  exact rTag_any k w h1
theorem lim_txt {t : Tm} {l : List UInt8} (h : l = enc t) : fitsL l = txt (lim t) := by
  subst h
  exact fits_lim t
set_option maxHeartbeats 400000 in
theorem rData_any (l : List UInt8) (w : World) (h : l.length ≤ 1000000000) : Calls Tryz.prog 69 #[.string (bs l)] w (Says (txt (tData (bs l))) w) := by
  by_cases hl : l.length ≤ 131072
  · have hi : ¬ (131072 : Int) < l.length := by omega
    have HT := hide (fun W => rTag_at 1 1 rfl W (by omega))
    have HU := hide (fun W => rU32_any l.length W (by omega))
    have HF := hide (fun W => rFits_any ([UInt8.ofNat (240 + 1)] ++ q4 l.length ++ l) W (by simp [q4_len]; omega))
    go_enter Tryz.func69, Tryz.ntmps69
    go_wp2_with (first
      | (go_at_call 110; refine (HT.out _).mono ?_; rintro e w1 ⟨rfl, hb1⟩)
      | (go_at_call 18; refine (HU.out _).mono ?_; rintro e w2 ⟨rfl, hb2⟩)
      | (go_at_call 109; refine (HF.out _).mono ?_; rintro e w3 ⟨rfl, hb3⟩))
    go_ret
    exact ⟨ret_bsb (lim_txt (enc_data (bs l))), by (repeat (first | exact Below.refl _ _ | refine below_drewN ?_ _ | refine Below.drew ?_ | refine Below.alloc ?_ (by first | omega | (simp; done) | (simp; omega)) _ | refine Below.setCell ?_ (by first | omega | (simp; done) | (simp; omega)) _ | refine bel_alloc ?_ _ | refine bel_trans ?_ (by assumption) | refine Below.trans ?_ (Below.mono (by assumption) (by first | omega | (simp; done) | (simp; omega)))))⟩
  · have hi : (131072 : Int) < l.length := by omega
    have Ho := hide (show txt (tData (bs l)) = [] by
      unfold tData lim
      rw [if_neg]
      · rfl
      · rw [← enc_data, bs_size, bs_data]
        simp [q4_len]
        omega)
    rw [Ho.out]
    go_enter Tryz.func69, Tryz.ntmps69
    go_wp2
    go_ret
    exact ⟨rfl, by (repeat (first | exact Below.refl _ _ | refine below_drewN ?_ _ | refine Below.drew ?_ | refine Below.alloc ?_ (by first | omega | (simp; done) | (simp; omega)) _ | refine Below.setCell ?_ (by first | omega | (simp; done) | (simp; omega)) _ | refine bel_alloc ?_ _ | refine bel_trans ?_ (by assumption) | refine Below.trans ?_ (Below.mono (by assumption) (by first | omega | (simp; done) | (simp; omega)))))⟩
theorem okN_nat {n : Int} (h : okN n = true) : ∃ a : Nat, n = a ∧ a < 2147483648 := by
  have := okN_iff.1 h
  exact ⟨n.toNat, by omega, by omega⟩
set_option maxHeartbeats 400000 in
theorem rNonce_any (who n : Int) (w : World) : Calls Tryz.prog 83 #[.int .i64 who, .int .i64 n] w (Says (txt (tNonce who n)) w) := by
  have Hn := hide (fun W => rNumber_any who W)
  have Hm := hide (fun W => rNumber_any n W)
  cases h1 : okN who with
  | false =>
    have Ho := hide (show tNonce who n = none by unfold tNonce; rw [h1]; rfl)
    rw [Ho.out]
    rw [h1] at Hn
    go_enter Tryz.func83, Tryz.ntmps83
    go_wp2_with (go_at_call 111; (with_reducible refine (Hn.out _).mono ?_); rintro e w1 ⟨rfl, rfl⟩)
    go_ret
    exact ⟨rfl, by (repeat (first | exact Below.refl _ _ | refine below_drewN ?_ _ | refine Below.drew ?_ | refine Below.alloc ?_ (by first | omega | (simp; done) | (simp; omega)) _ | refine Below.setCell ?_ (by first | omega | (simp; done) | (simp; omega)) _ | refine bel_alloc ?_ _ | refine bel_trans ?_ (by assumption) | refine Below.trans ?_ (Below.mono (by assumption) (by first | omega | (simp; done) | (simp; omega)))))⟩
  | true =>
    cases h2 : okN n with
    | false =>
      have Ho := hide (show tNonce who n = none by unfold tNonce; rw [h1, h2]; rfl)
      rw [Ho.out]
      rw [h1] at Hn
      rw [h2] at Hm
      clear h1 h2
      by_cases hwn : who = n
      · subst hwn
        have := Hn.out w
        go_enter Tryz.func83, Tryz.ntmps83
        go_wp2_with (go_at_call 111; (with_reducible refine (Hm.out _).mono ?_); rintro e w1 ⟨rfl, rfl⟩)
        go_ret
        exact ⟨rfl, by (repeat (first | exact Below.refl _ _ | refine below_drewN ?_ _ | refine Below.drew ?_ | refine Below.alloc ?_ (by first | omega | (simp; done) | (simp; omega)) _ | refine Below.setCell ?_ (by first | omega | (simp; done) | (simp; omega)) _ | refine bel_alloc ?_ _ | refine bel_trans ?_ (by assumption) | refine Below.trans ?_ (Below.mono (by assumption) (by first | omega | (simp; done) | (simp; omega)))))⟩
      · go_enter Tryz.func83, Tryz.ntmps83
        go_wp2_with (first
          | (go_at_call 111; (with_reducible refine (Hn.out _).mono ?_); rintro e w1 ⟨rfl, rfl⟩)
          | (go_at_call 111; (with_reducible refine (Hm.out _).mono ?_); rintro e w1 ⟨rfl, rfl⟩))
        go_ret
        exact ⟨rfl, by (repeat (first | exact Below.refl _ _ | refine below_drewN ?_ _ | refine Below.drew ?_ | refine Below.alloc ?_ (by first | omega | (simp; done) | (simp; omega)) _ | refine Below.setCell ?_ (by first | omega | (simp; done) | (simp; omega)) _ | refine bel_alloc ?_ _ | refine bel_trans ?_ (by assumption) | refine Below.trans ?_ (Below.mono (by assumption) (by first | omega | (simp; done) | (simp; omega)))))⟩
    | true =>
      have Ho := hide (show tNonce who n = some (.mk 2 who.toNat n.toNat eB []) by unfold tNonce; rw [h1, h2]; rfl)
      obtain ⟨a, rfl, ha⟩ := okN_nat h1
      obtain ⟨b, rfl, hb⟩ := okN_nat h2
      rw [h1] at Hn
      rw [h2] at Hm
      have HT := hide (fun W => rTag_at 2 2 rfl W (by omega))
      have HU := hide (fun W => rU32_any a W (by omega))
      have HV := hide (fun W => rU32_any b W (by omega))
      clear h1 h2
      go_enter Tryz.func83, Tryz.ntmps83
      go_wp2_with (first
        | (go_at_call 111; (with_reducible refine (Hn.out _).mono ?_); rintro e w1 ⟨rfl, rfl⟩)
        | (go_at_call 111; (with_reducible refine (Hm.out _).mono ?_); rintro e w1 ⟨rfl, rfl⟩)
        | (go_at_call 110; refine (HT.out _).mono ?_; rintro e w1 ⟨rfl, hb1⟩)
        | (go_at_call 18; (with_reducible refine (HU.out _).mono ?_); rintro e w2 ⟨rfl, hb2⟩)
        | (go_at_call 18; (with_reducible refine (HV.out _).mono ?_); rintro e w2 ⟨rfl, hb2⟩))
      go_ret
      rw [Ho.out]
      exact ⟨ret_bsb (by simp [txt, enc, head, mid, encs]), by (repeat (first | exact Below.refl _ _ | refine below_drewN ?_ _ | refine Below.drew ?_ | refine Below.alloc ?_ (by first | omega | (simp; done) | (simp; omega)) _ | refine Below.setCell ?_ (by first | omega | (simp; done) | (simp; omega)) _ | refine bel_alloc ?_ _ | refine bel_trans ?_ (by assumption) | refine Below.trans ?_ (Below.mono (by assumption) (by first | omega | (simp; done) | (simp; omega)))))⟩
set_option maxHeartbeats 400000 in
theorem rKey_any (who : Int) (w : World) : Calls Tryz.prog 63 #[.int .i64 who] w (Says (txt (tKey who)) w) := by
  have Hn := hide (fun W => rNumber_any who W)
  cases h1 : okN who with
  | false =>
    have Ho := hide (show tKey who = none by unfold tKey; rw [h1]; rfl)
    rw [Ho.out]
    rw [h1] at Hn
    go_enter Tryz.func63, Tryz.ntmps63
    go_wp2_with (go_at_call 111; (with_reducible refine (Hn.out _).mono ?_); rintro e w1 ⟨rfl, rfl⟩)
    go_ret
    exact ⟨rfl, by (repeat (first | exact Below.refl _ _ | refine below_drewN ?_ _ | refine Below.drew ?_ | refine Below.alloc ?_ (by first | omega | (simp; done) | (simp; omega)) _ | refine Below.setCell ?_ (by first | omega | (simp; done) | (simp; omega)) _ | refine bel_alloc ?_ _ | refine bel_trans ?_ (by assumption) | refine Below.trans ?_ (Below.mono (by assumption) (by first | omega | (simp; done) | (simp; omega)))))⟩
  | true =>
    have Ho := hide (show tKey who = some (.mk 3 who.toNat 0 eB []) by unfold tKey; rw [h1]; rfl)
    obtain ⟨a, rfl, ha⟩ := okN_nat h1
    rw [h1] at Hn
    have HT := hide (fun W => rTag_at 3 3 rfl W (by omega))
    have HU := hide (fun W => rU32_any a W (by omega))
    clear h1
    go_enter Tryz.func63, Tryz.ntmps63
    go_wp2_with (first
      | (go_at_call 111; (with_reducible refine (Hn.out _).mono ?_); rintro e w1 ⟨rfl, rfl⟩)
      | (go_at_call 110; refine (HT.out _).mono ?_; rintro e w1 ⟨rfl, hb1⟩)
      | (go_at_call 18; (with_reducible refine (HU.out _).mono ?_); rintro e w2 ⟨rfl, hb2⟩))
    go_ret
    rw [Ho.out]
    exact ⟨ret_bsb (by simp [txt, enc, head, mid, encs]), by (repeat (first | exact Below.refl _ _ | refine below_drewN ?_ _ | refine Below.drew ?_ | refine Below.alloc ?_ (by first | omega | (simp; done) | (simp; omega)) _ | refine Below.setCell ?_ (by first | omega | (simp; done) | (simp; omega)) _ | refine bel_alloc ?_ _ | refine bel_trans ?_ (by assumption) | refine Below.trans ?_ (Below.mono (by assumption) (by first | omega | (simp; done) | (simp; omega)))))⟩
theorem kindO_isKo {o : Option Tm} {k : Nat} (hk : k ≠ 0) : isKo o k = ((kindO o : Int) == k) := by
  cases o with
  | none => simp [isKo, kindO]; omega
  | some t => rfl
set_option maxHeartbeats 400000 in
theorem rPub_any {o : Option Tm} (h : fineO o) (w : World) : Calls Tryz.prog 64 #[.string (bs (txt o))] w (Says (txt (tPub o)) w) := by
  have HK := hide (fun W => rKind_any h W)
  have hko := kindO_isKo (o := o) (k := 3) (by omega)
  cases h1 : isKo o 3 with
  | false =>
    have Ho := hide (show txt (tPub o) = [] by rw [tPub_no h1]; rfl)
    rw [Ho.out]
    have ht : ((kindO o : Int) != 3) = true := by
      rw [show isKo o ((3 : Nat) : Int) = isKo o 3 from rfl, h1] at hko
      simp only [bne, Bool.not_eq_true']
      exact hko.symm
    clear h1 hko h
    go_enter Tryz.func64, Tryz.ntmps64
    go_wp2_with (go_at_call 58; refine (HK.out _).mono ?_; rintro e w1 ⟨rfl, rfl⟩)
    go_ret
    exact ⟨rfl, by (repeat (first | exact Below.refl _ _ | refine below_drewN ?_ _ | refine Below.drew ?_ | refine Below.alloc ?_ (by first | omega | (simp; done) | (simp; omega)) _ | refine Below.setCell ?_ (by first | omega | (simp; done) | (simp; omega)) _ | refine bel_alloc ?_ _ | refine bel_trans ?_ (by assumption) | refine Below.trans ?_ (Below.mono (by assumption) (by first | omega | (simp; done) | (simp; omega)))))⟩
  | true =>
    obtain ⟨t, rfl, hk⟩ := isKo_some (k := 3) h1
    have Ho := hide (show txt (tPub (some t)) = [UInt8.ofNat (240 + 4)] ++ enc t by
      show txt (if t.k = 3 then _ else none) = _
      rw [if_pos hk]
      simp [txt, enc, head, mid, encs])
    rw [Ho.out]
    have ht : ((kindO (some t) : Int) != 3) = false := by
      show ((t.k : Int) != 3) = false
      rw [hk]
      rfl
    have HT := hide (fun W => rTag_at 4 4 rfl W (by omega))
    have hlen := (h t rfl).2
    change Calls Tryz.prog 64 #[.string (bs (enc t))] w _
    clear h1 hko h hk
    go_enter Tryz.func64, Tryz.ntmps64
    go_wp2_with (first
      | (go_at_call 58; refine (HK.out _).mono ?_; rintro e w1 ⟨rfl, rfl⟩)
      | (go_at_call 110; refine (HT.out _).mono ?_; rintro e w1 ⟨rfl, hb1⟩))
    go_ret
    exact ⟨ret_bsb rfl, by (repeat (first | exact Below.refl _ _ | refine below_drewN ?_ _ | refine Below.drew ?_ | refine Below.alloc ?_ (by first | omega | (simp; done) | (simp; omega)) _ | refine Below.setCell ?_ (by first | omega | (simp; done) | (simp; omega)) _ | refine bel_alloc ?_ _ | refine bel_trans ?_ (by assumption) | refine Below.trans ?_ (Below.mono (by assumption) (by first | omega | (simp; done) | (simp; omega)))))⟩
/-- Strings that hold these bytes. -/
def Txs (w : World) (v : Value) (ls : List (List UInt8)) : Prop := Strs 0 w v (ls.map bs)
theorem Txs.below {w w' : World} {v : Value} {ls : List (List UInt8)} (h : Txs w v ls) (hb : Below w.heap.size w w') : Txs w' v ls := Strs.below h hb
theorem txs_nil (w : World) (c : Nat) : Txs w (.slice none 0 c) [] := ⟨none, c, rfl, Sl.nil_⟩
theorem Txs.open_ {w : World} {v : Value} {ls : List (List UInt8)} (h : Txs w v ls) : ∃ A c, v = .slice A ls.length c ∧ ∀ k, (hk : k < ls.length) → ∃ ad, A = some ad ∧ ad.block < w.heap.size ∧ w.cell? (ad.add k) = some (.string (bs ls[k])) := by
  obtain ⟨A, c, rfl, hs⟩ := h
  refine ⟨A, c, by simp, fun k hk => ?_⟩
  obtain ⟨ad, h1, h2, h3⟩ := hs.str (k := k) (by simpa using hk)
  exact ⟨ad, h1, h2, by simpa using h3⟩
theorem flat_snoc (ls : List (List UInt8)) {k : Nat} (hk : k < ls.length) : (ls.take (k + 1)).flatten = (ls.take k).flatten ++ ls[k] := by
  rw [List.take_succ_eq_append_getElem hk, List.flatten_append]
  simp
theorem flat_le (ls : List (List UInt8)) (k : Nat) : (ls.take k).flatten.length ≤ ls.flatten.length := by
  conv => rhs; rw [← List.take_append_drop k ls]
  rw [List.flatten_append, List.length_append]
  omega
theorem flats_at (ls : List (List UInt8)) {k : Nat} (hk : k < ls.length) : (ls.take k).flatten.length + ls[k].length ≤ ls.flatten.length := by
  have := flat_le ls (k + 1)
  rw [flat_snoc ls hk, List.length_append] at this
  exact this
theorem head5_len (l : List UInt8) (n : Nat) : (head 5 0 0 l n).length = 9 + l.length := by
  simp [head, mid, q4_len]
  omega
set_option maxHeartbeats 1000000 in
theorem rShare_any {w : World} (l : List UInt8) {v : Value} {ls : List (List UInt8)} (hS : Txs w v ls) (h1 : l.length ≤ 100000000) (h2 : ls.length ≤ 100000000) (h3 : ls.flatten.length ≤ 100000000) :
    Calls Tryz.prog 122 #[.string (bs l), v] w (Says (fitsL (head 5 0 0 l ls.length ++ ls.flatten)) w) := by
  obtain ⟨A, c, rfl, hc⟩ := hS.open_
  have HC := hide hc
  have HT := hide (fun W => rTag_at 5 5 rfl W (by omega))
  have HU := hide (fun W => rU32_any l.length W (by omega))
  have HV := hide (fun W => rU32_any ls.length W (by omega))
  have HF := hide (fun W => rFits_any (head 5 0 0 l ls.length ++ ls.flatten) W (by rw [List.length_append, head5_len]; omega))
  have HP := hide (show head 5 0 0 l ls.length = [UInt8.ofNat (240 + 5)] ++ q4 l.length ++ l ++ q4 ls.length by simp [head, mid])
  clear hS hc
  go_enter Tryz.func122, Tryz.ntmps122
  go_wp2_with (first
    | (go_at_call 110; refine (HT.out _).mono ?_; rintro e w1 ⟨rfl, hb1⟩)
    | (go_at_call 18; (with_reducible refine (HU.out _).mono ?_); rintro e w2 ⟨rfl, hb2⟩)
    | (go_at_call 18; (with_reducible refine (HV.out _).mono ?_); rintro e w3 ⟨rfl, hb3⟩))
  have Hpl := hide (head5_len l ls.length)
  go_loopw [6, 5] (fun i s wr => ∃ k : Nat, k ≤ ls.length ∧ i = .int .i64 k ∧ s = .string (bs (head 5 0 0 l ls.length ++ (ls.take k).flatten)) ∧ w3 = wr) (fun i _ _ => ls.length - (intOf i).toNat)
  case atStart => exact ⟨0, Nat.zero_le _, rfl, by rw [HP.out]; simp, rfl⟩
  case round =>
    obtain ⟨k, hk, rfl, rfl, rfl⟩ := hrel
    by_cases hlt : k < ls.length
    · have hki : (k : Int) < ls.length := by omega
      obtain ⟨ad, rfl, hab, hcc⟩ := HC.out k hlt
      have hc0 : w3.cell? (ad.add k) = some (.string (bs ls[k])) := cellAdd (w := w) (B := w.heap.size) (by (repeat (first | exact Below.refl _ _ | refine below_drewN ?_ _ | refine Below.drew ?_ | refine Below.alloc ?_ (by first | omega | (simp; done) | (simp; omega)) _ | refine Below.setCell ?_ (by first | omega | (simp; done) | (simp; omega)) _ | refine bel_alloc ?_ _ | refine bel_trans ?_ (by assumption) | refine Below.trans ?_ (Below.mono (by assumption) (by first | omega | (simp; done) | (simp; omega)))))) hab hcc
      have hfa := flats_at ls hlt
      have Hfs := hide (flat_snoc ls hlt)
      have hl1 : (ls.take k).flatten.length + ls[k].length ≤ 100000000 := by omega
      generalize (ls.take k).flatten = pre at hl1 Hfs
      generalize ls[k] = cur at hc0 hl1 Hfs
      have hh := head5_len l ls.length
      have hl2 : (head 5 0 0 l ls.length ++ pre).length ≤ 300000000 := by rw [List.length_append, hh]; omega
      clear hfa hcc hh
      generalize head 5 0 0 l ls.length = hd5 at hl2 HP HF Hpl
      have hl3 : cur.length ≤ 100000000 := by omega
      have Ha := hide (List.append_assoc hd5 pre cur)
      generalize hd5 ++ pre = hp at hl2 Ha
      go_wp2
      exact ⟨⟨k + 1, hlt, by go_num, by rw [Hfs.out, ← Ha.out], trivial⟩, by simp [intOf]; omega⟩
    · have hki : ¬ (k : Int) < ls.length := by omega
      obtain rfl : k = ls.length := by omega
      rw [List.take_length]
      go_wp2_with (go_at_call 109; refine (HF.out _).mono ?_; rintro e w4 ⟨rfl, hb4⟩)
      go_ret
      exact ⟨rfl, by (repeat (first | exact Below.refl _ _ | refine below_drewN ?_ _ | refine Below.drew ?_ | refine Below.alloc ?_ (by first | omega | (simp; done) | (simp; omega)) _ | refine Below.setCell ?_ (by first | omega | (simp; done) | (simp; omega)) _ | refine bel_alloc ?_ _ | refine bel_trans ?_ (by assumption) | refine Below.trans ?_ (Below.mono (by assumption) (by first | omega | (simp; done) | (simp; omega)))))⟩
theorem tBase_share {l : List UInt8} (h : 1 ≤ l.length ∧ l.length ≤ 2100) : fitsL (head 5 0 0 l ([] : List (List UInt8)).length ++ ([] : List (List UInt8)).flatten) = txt (tBase (bs l)) := by
  unfold tBase fitsL
  rw [if_pos (by rw [List.length_append, head5_len]; simp; omega), if_pos (by rw [bs_size]; exact h)]
  simp [txt, enc, encs, bs_data]
set_option maxHeartbeats 400000 in
theorem rBase_any (l : List UInt8) (w : World) (h : l.length ≤ 100000000) : Calls Tryz.prog 84 #[.string (bs l)] w (Says (txt (tBase (bs l))) w) := by
  have HX := hide (fun W => rText_any (bs l) 2100 W (by rw [bs_size]; omega))
  by_cases h1 : 1 ≤ l.length ∧ l.length ≤ 2100
  · have hd : decide (1 ≤ (bs l).size ∧ ((bs l).size : Int) ≤ 2100) = true := decide_eq_true (by rw [bs_size]; omega)
    rw [hd] at HX
    have HS := hide (fun (W : World) => rShare_any (w := W) l (txs_nil W 0) h (by simp) (by simp))
    rw [tBase_share h1] at HS
    clear hd
    go_enter Tryz.func84, Tryz.ntmps84
    go_wp2_with (first
      | (go_at_call 108; refine (HX.out _).mono ?_; rintro e w1 ⟨rfl, rfl⟩)
      | (go_at_call 122; refine (HS.out _).mono ?_; rintro e w2 ⟨rfl, hb2⟩))
    go_ret
    exact ⟨rfl, by (repeat (first | exact Below.refl _ _ | refine below_drewN ?_ _ | refine Below.drew ?_ | refine Below.alloc ?_ (by first | omega | (simp; done) | (simp; omega)) _ | refine Below.setCell ?_ (by first | omega | (simp; done) | (simp; omega)) _ | refine bel_alloc ?_ _ | refine bel_trans ?_ (by assumption) | refine Below.trans ?_ (Below.mono (by assumption) (by first | omega | (simp; done) | (simp; omega)))))⟩
  · have hd : decide (1 ≤ (bs l).size ∧ ((bs l).size : Int) ≤ 2100) = false := decide_eq_false (by rw [bs_size]; omega)
    rw [hd] at HX
    have Ho := hide (show txt (tBase (bs l)) = [] by
      unfold tBase
      rw [if_neg (by rw [bs_size]; exact h1)]
      rfl)
    rw [Ho.out]
    clear hd
    go_enter Tryz.func84, Tryz.ntmps84
    go_wp2_with (go_at_call 108; refine (HX.out _).mono ?_; rintro e w1 ⟨rfl, rfl⟩)
    go_ret
    exact ⟨rfl, by (repeat (first | exact Below.refl _ _ | refine below_drewN ?_ _ | refine Below.drew ?_ | refine Below.alloc ?_ (by first | omega | (simp; done) | (simp; omega)) _ | refine Below.setCell ?_ (by first | omega | (simp; done) | (simp; omega)) _ | refine bel_alloc ?_ _ | refine bel_trans ?_ (by assumption) | refine Below.trans ?_ (Below.mono (by assumption) (by first | omega | (simp; done) | (simp; omega)))))⟩
set_option maxHeartbeats 1000000 in
set_option maxRecDepth 100000 in
theorem rSign_any (l : List UInt8) {o p : Option Tm} (ho : fineO o) (hp : fineO p) (w : World) (h : l.length ≤ 100000000) : Calls Tryz.prog 62 #[.string (bs l), .string (bs (txt o)), .string (bs (txt p))] w (Says (txt (tSign (bs l) o p)) w) := by
  have HX := hide (fun W => rText_any (bs l) 64 W (by rw [bs_size]; omega))
  have HK := hide (fun W => rKind_any ho W)
  by_cases h1 : 1 ≤ l.length ∧ l.length ≤ 64
  · have hd : decide (1 ≤ (bs l).size ∧ ((bs l).size : Int) ≤ 64) = true := decide_eq_true (by rw [bs_size]; omega)
    rw [hd] at HX
    clear hd
    by_cases hk : kindO o = 3
    · have ht : ((kindO o : Int) != 3) = false := by rw [hk]; rfl
      cases p with
      | none =>
        have Ho := hide (show txt (tSign (bs l) o none) = [] by cases o <;> rfl)
        rw [Ho.out]
        change Calls Tryz.prog 62 #[.string (bs l), .string (bs (txt o)), .string ⟨#[]⟩] w _
        clear hk
        go_enter Tryz.func62, Tryz.ntmps62
        go_wp2_with (first
          | (go_at_call 108; refine (HX.out _).mono ?_; rintro e w1 ⟨rfl, rfl⟩)
          | (go_at_call 58; refine (HK.out _).mono ?_; rintro e w1 ⟨rfl, rfl⟩))
        go_ret
        exact ⟨rfl, by (repeat (first | exact Below.refl _ _ | refine below_drewN ?_ _ | refine Below.drew ?_ | refine Below.alloc ?_ (by first | omega | (simp; done) | (simp; omega)) _ | refine Below.setCell ?_ (by first | omega | (simp; done) | (simp; omega)) _ | refine bel_alloc ?_ _ | refine bel_trans ?_ (by assumption) | refine Below.trans ?_ (Below.mono (by assumption) (by first | omega | (simp; done) | (simp; omega)))))⟩
      | some u =>
        cases o with
        | none => simp [kindO] at hk
        | some t =>
          have Ho := hide (show tSign (bs l) (some t) (some u) = lim (.mk 6 0 0 (bs l) [t, u]) by
            show (if _ then _ else none) = _
            rw [if_pos ⟨by rw [bs_size]; exact h1, hk⟩])
          rw [Ho.out]
          have hl1 := (ho t rfl).2
          have hl2 := (hp u rfl).2
          have hE := enc_isE u
          have HT := hide (fun W => rTag_at 6 6 rfl W (by omega))
          have HU := hide (fun W => rU32_any l.length W (by omega))
          have HF := hide (fun W => rFits_any (UInt8.ofNat (240 + 6) :: (q4 l.length ++ (l ++ (enc t ++ enc u)))) W (by simp [q4_len]; omega))
          have Hl := hide (show fitsL (UInt8.ofNat (240 + 6) :: (q4 l.length ++ (l ++ (enc t ++ enc u)))) = txt (lim (.mk 6 0 0 (bs l) [t, u])) from lim_txt (by simp [enc, encs, head, mid, bs_data]))
          change Calls Tryz.prog 62 #[.string (bs l), .string (bs (enc t)), .string (bs (enc u))] w _
          have HK2 : Hid (∀ W, Calls Tryz.prog 58 #[.string (bs (enc t))] W fun e w' => e = .returned (.int .i64 (3 : Int)) ∧ W = w') := fun W => by
            have h9 := rKind_any (o := some t) ho W
            rw [hk] at h9
            exact h9
          clear hk HK ht
          generalize enc t = et at hl1 HF Hl HK2
          generalize enc u = eu at hl2 HF Hl hE
          go_enter Tryz.func62, Tryz.ntmps62
          go_wp2_with (first
            | (go_at_call 108; refine (HX.out _).mono ?_; rintro e w1 ⟨rfl, rfl⟩)
            | (go_at_call 58; refine (HK2.out _).mono ?_; rintro e w1 ⟨rfl, rfl⟩)
            | (go_at_call 110; refine (HT.out _).mono ?_; rintro e w1 ⟨rfl, hb1⟩)
            | (go_at_call 18; refine (HU.out _).mono ?_; rintro e w2 ⟨rfl, hb2⟩)
            | (go_at_call 109; refine (HF.out _).mono ?_; rintro e w3 ⟨rfl, hb3⟩))
          go_ret
          exact ⟨ret_bsb Hl.out, by (repeat (first | exact Below.refl _ _ | refine below_drewN ?_ _ | refine Below.drew ?_ | refine Below.alloc ?_ (by first | omega | (simp; done) | (simp; omega)) _ | refine Below.setCell ?_ (by first | omega | (simp; done) | (simp; omega)) _ | refine bel_alloc ?_ _ | refine bel_trans ?_ (by assumption) | refine Below.trans ?_ (Below.mono (by assumption) (by first | omega | (simp; done) | (simp; omega)))))⟩
    · have ht : ((kindO o : Int) != 3) = true := by rw [bne_iff_ne]; omega
      have Ho := hide (show txt (tSign (bs l) o p) = [] by
        rw [tSign_no (.inr ?_)]
        · rfl
        · rw [show isKo o 3 = isKo o ((3 : Nat) : Int) from rfl, kindO_isKo (by omega)]
          exact beq_eq_false_iff_ne.2 (by omega))
      rw [Ho.out]
      clear hk
      go_enter Tryz.func62, Tryz.ntmps62
      go_wp2_with (first
        | (go_at_call 108; refine (HX.out _).mono ?_; rintro e w1 ⟨rfl, rfl⟩)
        | (go_at_call 58; refine (HK.out _).mono ?_; rintro e w1 ⟨rfl, rfl⟩))
      go_ret
      exact ⟨rfl, by (repeat (first | exact Below.refl _ _ | refine below_drewN ?_ _ | refine Below.drew ?_ | refine Below.alloc ?_ (by first | omega | (simp; done) | (simp; omega)) _ | refine Below.setCell ?_ (by first | omega | (simp; done) | (simp; omega)) _ | refine bel_alloc ?_ _ | refine bel_trans ?_ (by assumption) | refine Below.trans ?_ (Below.mono (by assumption) (by first | omega | (simp; done) | (simp; omega)))))⟩
  · have hd : decide (1 ≤ (bs l).size ∧ ((bs l).size : Int) ≤ 64) = false := decide_eq_false (by rw [bs_size]; omega)
    rw [hd] at HX
    have Ho := hide (show txt (tSign (bs l) o p) = [] by
      rw [tSign_no (.inl (by rw [bs_size]; exact h1))]
      rfl)
    rw [Ho.out]
    clear hd
    go_enter Tryz.func62, Tryz.ntmps62
    go_wp2_with (go_at_call 108; refine (HX.out _).mono ?_; rintro e w1 ⟨rfl, rfl⟩)
    go_ret
    exact ⟨rfl, by (repeat (first | exact Below.refl _ _ | refine below_drewN ?_ _ | refine Below.drew ?_ | refine Below.alloc ?_ (by first | omega | (simp; done) | (simp; omega)) _ | refine Below.setCell ?_ (by first | omega | (simp; done) | (simp; omega)) _ | refine bel_alloc ?_ _ | refine bel_trans ?_ (by assumption) | refine Below.trans ?_ (Below.mono (by assumption) (by first | omega | (simp; done) | (simp; omega)))))⟩
set_option maxHeartbeats 400000 in
theorem rHash_any {o : Option Tm} (ho : fineO o) (w : World) : Calls Tryz.prog 75 #[.string (bs (txt o))] w (Says (txt (tHash o)) w) := by
  cases o with
  | none =>
    change Calls Tryz.prog 75 #[.string ⟨#[]⟩] w (Says [] w)
    go_enter Tryz.func75, Tryz.ntmps75
    go_wp2
    go_ret
    exact ⟨rfl, by (repeat (first | exact Below.refl _ _ | refine below_drewN ?_ _ | refine Below.drew ?_ | refine Below.alloc ?_ (by first | omega | (simp; done) | (simp; omega)) _ | refine Below.setCell ?_ (by first | omega | (simp; done) | (simp; omega)) _ | refine bel_alloc ?_ _ | refine bel_trans ?_ (by assumption) | refine Below.trans ?_ (Below.mono (by assumption) (by first | omega | (simp; done) | (simp; omega)))))⟩
  | some t =>
    have hl1 := (ho t rfl).2
    have hE := enc_isE t
    have HT := hide (fun W => rTag_at 7 7 rfl W (by omega))
    have HF := hide (fun W => rFits_any ([UInt8.ofNat (240 + 7)] ++ enc t) W (by simp; omega))
    have Hl := hide (show fitsL ([UInt8.ofNat (240 + 7)] ++ enc t) = txt (lim (.mk 7 0 0 eB [t])) from lim_txt (by simp [enc, encs, head, mid]))
    change Calls Tryz.prog 75 #[.string (bs (enc t))] w (Says (txt (lim (.mk 7 0 0 eB [t]))) w)
    generalize enc t = et at hl1 HF Hl hE
    go_enter Tryz.func75, Tryz.ntmps75
    go_wp2_with (first
      | (go_at_call 110; refine (HT.out _).mono ?_; rintro e w1 ⟨rfl, hb1⟩)
      | (go_at_call 109; refine (HF.out _).mono ?_; rintro e w3 ⟨rfl, hb3⟩))
    go_ret
    exact ⟨ret_bsb Hl.out, by (repeat (first | exact Below.refl _ _ | refine below_drewN ?_ _ | refine Below.drew ?_ | refine Below.alloc ?_ (by first | omega | (simp; done) | (simp; omega)) _ | refine Below.setCell ?_ (by first | omega | (simp; done) | (simp; omega)) _ | refine bel_alloc ?_ _ | refine bel_trans ?_ (by assumption) | refine Below.trans ?_ (Below.mono (by assumption) (by first | omega | (simp; done) | (simp; omega)))))⟩
set_option maxHeartbeats 1000000 in
theorem rSeal_any (c : Nat) (hc : c < 4294967296) {o p : Option Tm} (ho : fineO o) (hp : fineO p) (w : World) : Calls Tryz.prog 87 #[.string (bs (txt o)), .int .u32 c, .string (bs (txt p))] w (Says (txt (tSeal c o p)) w) := by
  have hc0 : (0 : Int) ≤ c := by omega
  have hc1 : (c : Int) < 4294967296 := by omega
  cases o with
  | none =>
    change Calls Tryz.prog 87 #[.string ⟨#[]⟩, .int .u32 c, .string (bs (txt p))] w (Says [] w)
    go_enter Tryz.func87, Tryz.ntmps87
    go_wp2
    go_ret
    exact ⟨rfl, by (repeat (first | exact Below.refl _ _ | refine below_drewN ?_ _ | refine Below.drew ?_ | refine Below.alloc ?_ (by first | omega | (simp; done) | (simp; omega)) _ | refine Below.setCell ?_ (by first | omega | (simp; done) | (simp; omega)) _ | refine bel_alloc ?_ _ | refine bel_trans ?_ (by assumption) | refine Below.trans ?_ (Below.mono (by assumption) (by first | omega | (simp; done) | (simp; omega)))))⟩
  | some t =>
    have hl1 := (ho t rfl).2
    have hE1 := enc_isE t
    cases p with
    | none =>
      change Calls Tryz.prog 87 #[.string (bs (enc t)), .int .u32 c, .string ⟨#[]⟩] w (Says [] w)
      go_enter Tryz.func87, Tryz.ntmps87
      go_wp2
      go_ret
      exact ⟨rfl, by (repeat (first | exact Below.refl _ _ | refine below_drewN ?_ _ | refine Below.drew ?_ | refine Below.alloc ?_ (by first | omega | (simp; done) | (simp; omega)) _ | refine Below.setCell ?_ (by first | omega | (simp; done) | (simp; omega)) _ | refine bel_alloc ?_ _ | refine bel_trans ?_ (by assumption) | refine Below.trans ?_ (Below.mono (by assumption) (by first | omega | (simp; done) | (simp; omega)))))⟩
    | some u =>
      have hl2 := (hp u rfl).2
      have hE2 := enc_isE u
      have HT := hide (fun W => rTag_at 9 9 rfl W (by omega))
      have HU := hide (fun W => rU32_any c W (by omega))
      have HF := hide (fun W => rFits_any ([UInt8.ofNat (240 + 9)] ++ q4 c ++ enc t ++ enc u) W (by simp [q4_len]; omega))
      have Hl := hide (show fitsL ([UInt8.ofNat (240 + 9)] ++ q4 c ++ enc t ++ enc u) = txt (lim (.mk 9 0 c eB [t, u])) from lim_txt (by simp [enc, encs, head, mid]))
      change Calls Tryz.prog 87 #[.string (bs (enc t)), .int .u32 c, .string (bs (enc u))] w (Says (txt (lim (.mk 9 0 c eB [t, u]))) w)
      generalize enc t = et at hl1 HF Hl hE1
      generalize enc u = eu at hl2 HF Hl hE2
      go_enter Tryz.func87, Tryz.ntmps87
      go_wp2_with (first
        | (go_at_call 110; refine (HT.out _).mono ?_; rintro e w1 ⟨rfl, hb1⟩)
        | (go_at_call 18; refine (HU.out _).mono ?_; rintro e w2 ⟨rfl, hb2⟩)
        | (go_at_call 109; refine (HF.out _).mono ?_; rintro e w3 ⟨rfl, hb3⟩))
      go_ret
      exact ⟨ret_bsb Hl.out, by (repeat (first | exact Below.refl _ _ | refine below_drewN ?_ _ | refine Below.drew ?_ | refine Below.alloc ?_ (by first | omega | (simp; done) | (simp; omega)) _ | refine Below.setCell ?_ (by first | omega | (simp; done) | (simp; omega)) _ | refine bel_alloc ?_ _ | refine bel_trans ?_ (by assumption) | refine Below.trans ?_ (Below.mono (by assumption) (by first | omega | (simp; done) | (simp; omega)))))⟩
end Go.Proofs.YtkpikfdfekggbaaGreatDoor
