/-
  The contract of package msg's put. Conditions: texts and lists that fit.
-/
import Derived.Test.YtjaipdenahlheaaGreatDoorKPutM
set_option linter.unusedVariables false
set_option linter.unusedSimpArgs false
namespace Go.Proofs.YtjaipdenahlheaaGreatDoor
open Go.RowKit Go.ChangeShapes Go.WideShapes Go.Sort
/-- A value is written so. -/
def PutP (x : Fld) (w : World) (e : Ending) (w' : World) : Prop := e = .returned (.tuple #[.string (bs (putF x).2), .int .i64 (putF x).1]) ∧ Below w.heap.size w w'
theorem putP_of {x : Fld} {w w' : World} {e : Ending} {n : Nat} {l : List UInt8} (h : putF x = (n, l)) (he : e = .returned (.tuple #[.string (bs l), .int .i64 n])) (hb : Below w.heap.size w w') : PutP x w e w' := by
  unfold PutP
  rw [h]
  exact ⟨he, hb⟩
section
variable {w : World}
set_option maxHeartbeats 1000000 in
theorem put_98 (n : Int) (s : List UInt8) (l : List (List UInt8)) {A : Option Addr} {c : Nat} : Calls Tryz.prog 93 #[fldV ⟨98, n, s, l⟩ (.slice A l.length c)] w (PutP ⟨98, n, s, l⟩ w) := by
  unfold fldV
  simp only
  have HT := hide (fun W => wBool_any true W)
  have HF := hide (fun W => wBool_any false W)
  by_cases h0 : n = 0
  · subst h0
    have E := hide (show putF ⟨98, 0, s, l⟩ = (0, [0]) from rfl)
    go_enter Tryz.func93, Tryz.ntmps93
    go_wp2_with (first | (go_at_call 127; refine (HF.out _).mono ?_; rintro e w1 ⟨rfl, hb1⟩) | fail)
    go_ret2
    exact putP_of E.out rfl (by (repeat (first | exact Below.refl _ _ | refine below_drewN ?_ _ | refine Below.drew ?_ | refine Below.alloc ?_ (by first | omega | (simp; done) | (simp; omega)) _ | refine Below.setCell ?_ (by first | omega | (simp; done) | (simp; omega)) _ | refine bel_alloc ?_ _ | refine bel_trans ?_ (by assumption) | refine Below.trans ?_ (Below.mono (by assumption) (by first | omega | (simp; done) | (simp; omega))))))
  · by_cases h1 : n = 1
    · subst h1
      have E := hide (show putF ⟨98, 1, s, l⟩ = (0, [1]) from rfl)
      go_enter Tryz.func93, Tryz.ntmps93
      go_wp2_with (first | (go_at_call 127; refine (HT.out _).mono ?_; rintro e w1 ⟨rfl, hb1⟩) | fail)
      go_ret2
      exact putP_of E.out rfl (by (repeat (first | exact Below.refl _ _ | refine below_drewN ?_ _ | refine Below.drew ?_ | refine Below.alloc ?_ (by first | omega | (simp; done) | (simp; omega)) _ | refine Below.setCell ?_ (by first | omega | (simp; done) | (simp; omega)) _ | refine bel_alloc ?_ _ | refine bel_trans ?_ (by assumption) | refine Below.trans ?_ (Below.mono (by assumption) (by first | omega | (simp; done) | (simp; omega))))))
    · have E := hide (show putF ⟨98, n, s, l⟩ = (5, []) from by simp [putF, h0, h1])
      have e0 : (n == 0) = false := by rw [beq_eq_false_iff_ne]; exact h0
      have e1 : (n == 1) = false := by rw [beq_eq_false_iff_ne]; exact h1
      have e2 : (n != 0) = true := by simp [bne, e0]
      have e3 : (n != 1) = true := by simp [bne, e1]
      clear h0 h1
      go_enter Tryz.func93, Tryz.ntmps93
      go_wp2_with fail
      go_ret2
      exact putP_of E.out rfl (by (repeat (first | exact Below.refl _ _ | refine below_drewN ?_ _ | refine Below.drew ?_ | refine Below.alloc ?_ (by first | omega | (simp; done) | (simp; omega)) _ | refine Below.setCell ?_ (by first | omega | (simp; done) | (simp; omega)) _ | refine bel_alloc ?_ _ | refine bel_trans ?_ (by assumption) | refine Below.trans ?_ (Below.mono (by assumption) (by first | omega | (simp; done) | (simp; omega))))))
set_option maxHeartbeats 1000000 in
theorem put_117 (n : Int) (s : List UInt8) (l : List (List UInt8)) {A : Option Addr} {c : Nat} : Calls Tryz.prog 93 #[fldV ⟨117, n, s, l⟩ (.slice A l.length c)] w (PutP ⟨117, n, s, l⟩ w) := by
  unfold fldV
  simp only
  by_cases h0 : n < 0
  · have E := hide (show putF ⟨117, n, s, l⟩ = (5, []) from by
      simp only [putF]
      rw [if_neg (by decide), if_pos trivial, if_neg (by omega)])
    go_enter Tryz.func93, Tryz.ntmps93
    go_wp2_with fail
    go_ret2
    exact putP_of E.out rfl (by (repeat (first | exact Below.refl _ _ | refine below_drewN ?_ _ | refine Below.drew ?_ | refine Below.alloc ?_ (by first | omega | (simp; done) | (simp; omega)) _ | refine Below.setCell ?_ (by first | omega | (simp; done) | (simp; omega)) _ | refine bel_alloc ?_ _ | refine bel_trans ?_ (by assumption) | refine Below.trans ?_ (Below.mono (by assumption) (by first | omega | (simp; done) | (simp; omega))))))
  · by_cases h1 : 4294967295 < n
    · have E := hide (show putF ⟨117, n, s, l⟩ = (5, []) from by
        simp only [putF]
        rw [if_neg (by decide), if_pos trivial, if_neg (by omega)])
      go_enter Tryz.func93, Tryz.ntmps93
      go_wp2_with fail
      go_ret2
      exact putP_of E.out rfl (by (repeat (first | exact Below.refl _ _ | refine below_drewN ?_ _ | refine Below.drew ?_ | refine Below.alloc ?_ (by first | omega | (simp; done) | (simp; omega)) _ | refine Below.setCell ?_ (by first | omega | (simp; done) | (simp; omega)) _ | refine bel_alloc ?_ _ | refine bel_trans ?_ (by assumption) | refine Below.trans ?_ (Below.mono (by assumption) (by first | omega | (simp; done) | (simp; omega))))))
    · obtain ⟨m, rfl⟩ : ∃ m : Nat, n = m := ⟨n.toNat, by omega⟩
      have E := hide (show putF ⟨117, m, s, l⟩ = (0, q4 m) from by
        simp only [putF]
        rw [if_neg (by decide), if_pos trivial, if_pos ⟨by omega, by omega⟩]
        simp)
      have HU := hide (fun W => wNum_any m W (by omega))
      have hw : IntKind.u32.wrap (m : Int) = m := by
        simp only [IntKind.wrap, IntKind.bits, IntKind.signed]
        simp
        omega
      go_enter Tryz.func93, Tryz.ntmps93
      go_wp2_with (first | (go_at_call 128; refine (HU.out _).mono ?_; rintro e w1 ⟨rfl, hb1⟩) | fail)
      go_ret2
      exact putP_of E.out rfl (by (repeat (first | exact Below.refl _ _ | refine below_drewN ?_ _ | refine Below.drew ?_ | refine Below.alloc ?_ (by first | omega | (simp; done) | (simp; omega)) _ | refine Below.setCell ?_ (by first | omega | (simp; done) | (simp; omega)) _ | refine bel_alloc ?_ _ | refine bel_trans ?_ (by assumption) | refine Below.trans ?_ (Below.mono (by assumption) (by first | omega | (simp; done) | (simp; omega))))))
set_option maxHeartbeats 1000000 in
theorem put_109 (n : Int) (s : List UInt8) (l : List (List UInt8)) {A : Option Addr} {c : Nat} (hs : s.length ≤ 100000) : Calls Tryz.prog 93 #[fldV ⟨109, n, s, l⟩ (.slice A l.length c)] w (PutP ⟨109, n, s, l⟩ w) := by
  unfold fldV
  simp only
  have HW := hide (fun W => wWhole_any (bs s) W (by rw [bs_size]; omega))
  rw [bs_data] at HW
  cases s with
  | nil =>
    have E := hide (show putF ⟨109, n, [], l⟩ = (0, wholeL []) from rfl)
    have e1 : (bs []).toList.isEmpty = true := by rw [bs_toList]; rfl
    have e2 : ((bs []).toList == []) = true := by rw [bs_toList]; rfl
    go_enter Tryz.func93, Tryz.ntmps93
    go_wp2_with (first | (go_at_call 129; refine (HW.out _).mono ?_; rintro e w1 ⟨rfl, hb1⟩) | fail)
    go_ret2
    exact putP_of E.out rfl (by (repeat (first | exact Below.refl _ _ | refine below_drewN ?_ _ | refine Below.drew ?_ | refine Below.alloc ?_ (by first | omega | (simp; done) | (simp; omega)) _ | refine Below.setCell ?_ (by first | omega | (simp; done) | (simp; omega)) _ | refine bel_alloc ?_ _ | refine bel_trans ?_ (by assumption) | refine Below.trans ?_ (Below.mono (by assumption) (by first | omega | (simp; done) | (simp; omega))))))
  | cons d r =>
    have e1 := isE_cons d r
    have e2 : ((bs (d :: r)).toList == []) = false := by rw [bs_toList]; rfl
    have hpos : 0 < (bs (d :: r)).size := by rw [bs_size]; simp
    have g0 : (bs (d :: r))[0] = d := rfl
    by_cases h0 : d = 0
    · subst h0
      have E := hide (show putF ⟨109, n, 0 :: r, l⟩ = (3, []) from by simp [putF, aheadL])
      have e3 : (((bs (0 :: r))[0].toNat : Int) == 0) = true := by rw [g0]; rfl
      clear g0
      go_enter Tryz.func93, Tryz.ntmps93
      go_wp2_with fail
      go_ret2
      exact putP_of E.out rfl (by (repeat (first | exact Below.refl _ _ | refine below_drewN ?_ _ | refine Below.drew ?_ | refine Below.alloc ?_ (by first | omega | (simp; done) | (simp; omega)) _ | refine Below.setCell ?_ (by first | omega | (simp; done) | (simp; omega)) _ | refine bel_alloc ?_ _ | refine bel_trans ?_ (by assumption) | refine Below.trans ?_ (Below.mono (by assumption) (by first | omega | (simp; done) | (simp; omega))))))
    · have E := hide (show putF ⟨109, n, d :: r, l⟩ = (0, wholeL (d :: r)) from by simp [putF, aheadL, h0])
      have h9 : d.toNat ≠ 0 := fun e => h0 (UInt8.toNat_inj.1 (by simpa using e))
      have e3 : (((bs (d :: r))[0].toNat : Int) == 0) = false := by rw [g0, beq_eq_false_iff_ne]; omega
      clear g0 h0 h9
      go_enter Tryz.func93, Tryz.ntmps93
      go_wp2_with (first | (go_at_call 129; refine (HW.out _).mono ?_; rintro e w1 ⟨rfl, hb1⟩) | fail)
      go_ret2
      exact putP_of E.out rfl (by (repeat (first | exact Below.refl _ _ | refine below_drewN ?_ _ | refine Below.drew ?_ | refine Below.alloc ?_ (by first | omega | (simp; done) | (simp; omega)) _ | refine Below.setCell ?_ (by first | omega | (simp; done) | (simp; omega)) _ | refine bel_alloc ?_ _ | refine bel_trans ?_ (by assumption) | refine Below.trans ?_ (Below.mono (by assumption) (by first | omega | (simp; done) | (simp; omega))))))
set_option maxHeartbeats 1000000 in
theorem put_110 (n : Int) (s : List UInt8) (l : List (List UInt8)) {A : Option Addr} {c : Nat} (ht : Txs w (.slice A l.length c) l) (hc : l.length ≤ c) (hl : ∀ y ∈ l, y.length ≤ 100000) : Calls Tryz.prog 93 #[fldV ⟨110, n, s, l⟩ (.slice A l.length c)] w (PutP ⟨110, n, s, l⟩ w) := by
  unfold fldV
  simp only
  have HJ := hide (fun W (hb : Below w.heap.size w W) => njoin_any (ht.below hb) hc (fun y hy => by have := hl y hy; omega))
  rcases wrong_cases l with h9 | h9 | h9
  · have E := hide (show putF ⟨110, n, s, l⟩ = (0, textL (joinC l)) from by simp [putF, h9])
    have hj : joinN l = joinC l := by unfold joinN; rw [if_pos h9]
    obtain ⟨w1, w2⟩ := wrong_ok h9
    have hjl := joinC_len (l := l) (fun y hy => (right_len (w2 y hy)).2)
    have HT := hide (fun W => wText_bs (joinC l) W (by omega))
    rw [h9, hj] at HJ
    clear h9 hj w1 w2 hjl ht hl
    go_enter Tryz.func93, Tryz.ntmps93
    go_wp2_with (first | (go_at_call 130; refine (HJ.out _ (by (repeat (first | exact Below.refl _ _ | refine below_drewN ?_ _ | refine Below.drew ?_ | refine Below.alloc ?_ (by first | omega | (simp; done) | (simp; omega)) _ | refine Below.setCell ?_ (by first | omega | (simp; done) | (simp; omega)) _ | refine bel_alloc ?_ _ | refine bel_trans ?_ (by assumption) | refine Below.trans ?_ (Below.mono (by assumption) (by first | omega | (simp; done) | (simp; omega))))))).mono ?_; rintro e w1 ⟨rfl, hb1⟩) | fail)
    refine (HT.out _).mono ?_
    rintro e w2 ⟨rfl, hb2⟩
    go_wp2_with fail
    go_ret2
    exact putP_of E.out rfl (by (repeat (first | exact Below.refl _ _ | refine below_drewN ?_ _ | refine Below.drew ?_ | refine Below.alloc ?_ (by first | omega | (simp; done) | (simp; omega)) _ | refine Below.setCell ?_ (by first | omega | (simp; done) | (simp; omega)) _ | refine bel_alloc ?_ _ | refine bel_trans ?_ (by assumption) | refine Below.trans ?_ (Below.mono (by assumption) (by first | omega | (simp; done) | (simp; omega))))))
  · have E := hide (show putF ⟨110, n, s, l⟩ = (2, []) from by simp [putF, h9])
    have hj : joinN l = [] := by unfold joinN; rw [if_neg (by omega)]
    rw [h9, hj] at HJ
    clear h9 hj ht hl
    go_enter Tryz.func93, Tryz.ntmps93
    go_wp2_with (first | (go_at_call 130; refine (HJ.out _ (by (repeat (first | exact Below.refl _ _ | refine below_drewN ?_ _ | refine Below.drew ?_ | refine Below.alloc ?_ (by first | omega | (simp; done) | (simp; omega)) _ | refine Below.setCell ?_ (by first | omega | (simp; done) | (simp; omega)) _ | refine bel_alloc ?_ _ | refine bel_trans ?_ (by assumption) | refine Below.trans ?_ (Below.mono (by assumption) (by first | omega | (simp; done) | (simp; omega))))))).mono ?_; rintro e w1 ⟨rfl, hb1⟩) | fail)
    go_ret2
    exact putP_of E.out rfl (by (repeat (first | exact Below.refl _ _ | refine below_drewN ?_ _ | refine Below.drew ?_ | refine Below.alloc ?_ (by first | omega | (simp; done) | (simp; omega)) _ | refine Below.setCell ?_ (by first | omega | (simp; done) | (simp; omega)) _ | refine bel_alloc ?_ _ | refine bel_trans ?_ (by assumption) | refine Below.trans ?_ (Below.mono (by assumption) (by first | omega | (simp; done) | (simp; omega))))))
  · have E := hide (show putF ⟨110, n, s, l⟩ = (3, []) from by simp [putF, h9])
    have hj : joinN l = [] := by unfold joinN; rw [if_neg (by omega)]
    rw [h9, hj] at HJ
    clear h9 hj ht hl
    go_enter Tryz.func93, Tryz.ntmps93
    go_wp2_with (first | (go_at_call 130; refine (HJ.out _ (by (repeat (first | exact Below.refl _ _ | refine below_drewN ?_ _ | refine Below.drew ?_ | refine Below.alloc ?_ (by first | omega | (simp; done) | (simp; omega)) _ | refine Below.setCell ?_ (by first | omega | (simp; done) | (simp; omega)) _ | refine bel_alloc ?_ _ | refine bel_trans ?_ (by assumption) | refine Below.trans ?_ (Below.mono (by assumption) (by first | omega | (simp; done) | (simp; omega))))))).mono ?_; rintro e w1 ⟨rfl, hb1⟩) | fail)
    go_ret2
    exact putP_of E.out rfl (by (repeat (first | exact Below.refl _ _ | refine below_drewN ?_ _ | refine Below.drew ?_ | refine Below.alloc ?_ (by first | omega | (simp; done) | (simp; omega)) _ | refine Below.setCell ?_ (by first | omega | (simp; done) | (simp; omega)) _ | refine bel_alloc ?_ _ | refine bel_trans ?_ (by assumption) | refine Below.trans ?_ (Below.mono (by assumption) (by first | omega | (simp; done) | (simp; omega))))))
theorem put_99 (n : Int) (s : List UInt8) (l : List (List UInt8)) {A : Option Addr} {c : Nat} : Calls Tryz.prog 93 #[fldV ⟨99, n, s, l⟩ (.slice A l.length c)] w (PutP ⟨99, n, s, l⟩ w) := by
  unfold fldV
  simp only
  have hsz : (bs s).size = s.length := rfl
  by_cases h0 : s.length = 16
  · have E := hide (show putF ⟨99, n, s, l⟩ = (0, s) from by simp [putF, h0])
    have e1 : ((s.length : Int) == 16) = true := by rw [beq_iff_eq]; omega
    have e2 : ((s.length : Int) != 16) = false := by simp [bne, e1]
    clear h0
    go_enter Tryz.func93, Tryz.ntmps93
    go_wp2_with fail
    go_ret2
    exact putP_of E.out rfl (by (repeat (first | exact Below.refl _ _ | refine below_drewN ?_ _ | refine Below.drew ?_ | refine Below.alloc ?_ (by first | omega | (simp; done) | (simp; omega)) _ | refine Below.setCell ?_ (by first | omega | (simp; done) | (simp; omega)) _ | refine bel_alloc ?_ _ | refine bel_trans ?_ (by assumption) | refine Below.trans ?_ (Below.mono (by assumption) (by first | omega | (simp; done) | (simp; omega))))))
  · have E := hide (show putF ⟨99, n, s, l⟩ = (3, []) from by simp [putF, h0])
    have e1 : ((s.length : Int) == 16) = false := by rw [beq_eq_false_iff_ne]; omega
    have e2 : ((s.length : Int) != 16) = true := by simp [bne, e1]
    clear h0
    go_enter Tryz.func93, Tryz.ntmps93
    go_wp2_with fail
    go_ret2
    exact putP_of E.out rfl (by (repeat (first | exact Below.refl _ _ | refine below_drewN ?_ _ | refine Below.drew ?_ | refine Below.alloc ?_ (by first | omega | (simp; done) | (simp; omega)) _ | refine Below.setCell ?_ (by first | omega | (simp; done) | (simp; omega)) _ | refine bel_alloc ?_ _ | refine bel_trans ?_ (by assumption) | refine Below.trans ?_ (Below.mono (by assumption) (by first | omega | (simp; done) | (simp; omega))))))
theorem put_101 (n : Int) (s : List UInt8) (l : List (List UInt8)) {A : Option Addr} {c : Nat} (ht : Txs w (.slice A l.length c) l) (hn : l.length ≤ 1000) (hl : ∀ y ∈ l, y.length ≤ 100000) : Calls Tryz.prog 93 #[fldV ⟨101, n, s, l⟩ (.slice A l.length c)] w (PutP ⟨101, n, s, l⟩ w) := by
  unfold fldV
  simp only
  have HJ := hide (fun W (hb : Below w.heap.size w W) => list_any l (ht.below hb) hn hl)
  have hsame : putF ⟨101, n, s, l⟩ = putF ⟨101, 0, [], l⟩ := by simp [putF]
  have HS := hide hsame
  generalize putF ⟨101, 0, [], l⟩ = pp at HJ HS
  clear hsame ht hl
  go_enter Tryz.func93, Tryz.ntmps93
  go_wp2_with (first | (go_at_call 132; refine (HJ.out _ (by (repeat (first | exact Below.refl _ _ | refine below_drewN ?_ _ | refine Below.drew ?_ | refine Below.alloc ?_ (by first | omega | (simp; done) | (simp; omega)) _ | refine Below.setCell ?_ (by first | omega | (simp; done) | (simp; omega)) _ | refine bel_alloc ?_ _ | refine bel_trans ?_ (by assumption) | refine Below.trans ?_ (Below.mono (by assumption) (by first | omega | (simp; done) | (simp; omega))))))).mono ?_; rintro e w1 ⟨rfl, hb1⟩) | fail)
  go_ret2
  exact putP_of HS.out rfl (by (repeat (first | exact Below.refl _ _ | refine below_drewN ?_ _ | refine Below.drew ?_ | refine Below.alloc ?_ (by first | omega | (simp; done) | (simp; omega)) _ | refine Below.setCell ?_ (by first | omega | (simp; done) | (simp; omega)) _ | refine bel_alloc ?_ _ | refine bel_trans ?_ (by assumption) | refine Below.trans ?_ (Below.mono (by assumption) (by first | omega | (simp; done) | (simp; omega))))))
theorem put_else (k : Nat) (n : Int) (s : List UInt8) (l : List (List UInt8)) {A : Option Addr} {c : Nat} (hs : s.length ≤ 100000) (h0 : ¬ k = 98) (h1 : ¬ k = 117) (h2 : ¬ k = 109) (h3 : ¬ k = 110) (h4 : ¬ k = 99) (h5 : ¬ k = 101) :
    Calls Tryz.prog 93 #[fldV ⟨k, n, s, l⟩ (.slice A l.length c)] w (PutP ⟨k, n, s, l⟩ w) := by
  unfold fldV
  simp only
  have HT := hide (fun W => wText_bs s W (by omega))
  have E := hide (show putF ⟨k, n, s, l⟩ = (0, textL s) from by simp [putF, h0, h1, h2, h3, h4, h5])
  have e0 : ((k : Int) == 98) = false := i_ne h0
  have e1 : ((k : Int) == 117) = false := i_ne h1
  have e2 : ((k : Int) == 109) = false := i_ne h2
  have e3 : ((k : Int) == 110) = false := i_ne h3
  have e4 : ((k : Int) == 99) = false := i_ne h4
  have e5 : ((k : Int) == 101) = false := i_ne h5
  clear h0 h1 h2 h3 h4 h5
  go_enter Tryz.func93, Tryz.ntmps93
  go_wp2_with (first | (go_at_call 131; refine (HT.out _).mono ?_; rintro e w1 ⟨rfl, hb1⟩) | fail)
  go_ret2
  exact putP_of E.out rfl (by (repeat (first | exact Below.refl _ _ | refine below_drewN ?_ _ | refine Below.drew ?_ | refine Below.alloc ?_ (by first | omega | (simp; done) | (simp; omega)) _ | refine Below.setCell ?_ (by first | omega | (simp; done) | (simp; omega)) _ | refine bel_alloc ?_ _ | refine bel_trans ?_ (by assumption) | refine Below.trans ?_ (Below.mono (by assumption) (by first | omega | (simp; done) | (simp; omega))))))
theorem put_any (x : Fld) (hx : SzF x) {A : Option Addr} {c : Nat} (ht : Txs w (.slice A x.l.length c) x.l) (hc : x.l.length ≤ c) : Calls Tryz.prog 93 #[fldV x (.slice A x.l.length c)] w (PutP x w) := by
  obtain ⟨k, n, s, l⟩ := x
  obtain ⟨h1, h2, h3⟩ := hx
  by_cases k0 : k = 98
  · subst k0; exact put_98 n s l
  by_cases k1 : k = 117
  · subst k1; exact put_117 n s l
  by_cases k2 : k = 109
  · subst k2; exact put_109 n s l h1
  by_cases k3 : k = 110
  · subst k3; exact put_110 n s l ht hc h3
  by_cases k4 : k = 99
  · subst k4; exact put_99 n s l
  by_cases k5 : k = 101
  · subst k5; exact put_101 n s l ht h2 h3
  exact put_else k n s l h1 k0 k1 k2 k3 k4 k5
end
end Go.Proofs.YtjaipdenahlheaaGreatDoor
