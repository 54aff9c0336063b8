/-
  The contract of the law's ahead; numbers of terms are alike just where the terms are. Conditions: none.
-/
import Derived.Test.YtfjegckomjpkdaaGreatDoorAwake20
set_option linter.unusedVariables false
set_option linter.unusedSimpArgs false
namespace Go.Proofs.YtfjegckomjpkdaaGreatDoor
open Go.RowKit Go.ChangeShapes Go.WideShapes Go.Sort
/-- Has a text a zero ahead? -/
def zAhd (s : ByteArray) : Bool := aheadL s.data.toList
theorem zAhd_none {s : ByteArray} (h : ¬ 0 < s.size) : zAhd s = false := by
  have : s.data.toList = [] := List.eq_nil_of_length_eq_zero (by rw [size_len]; omega)
  unfold zAhd
  rw [this]
  rfl
theorem zAhd_head {s : ByteArray} (h : 0 < s.size) : zAhd s = decide ((s[0].toNat : Int) = 0) := by
  have h0 : s.data.toList = s[0] :: s.data.toList.drop 1 := by
    have := drop_cons (s := s.data.toList) (p := 0) h
    rw [List.drop_zero] at this
    exact this
  unfold zAhd
  rw [h0]
  show (s[0] == 0) = _
  rw [Bool.eq_iff_iff, beq_iff_eq, decide_eq_true_eq]
  constructor
  · intro e
    rw [e]
    rfl
  · intro e
    exact UInt8.toNat_inj.1 (by show s[0].toNat = 0; omega)
section
variable {w : World}
set_option maxHeartbeats 1000000 in
theorem ahead_any (gp gg : ByteArray) (w : World) (h1 : gp.size ≤ maxLen) (h2 : gg.size ≤ maxLen) : Calls Tryz.prog 41 #[.agg #[.string gp, .string gg]] w fun e w' => e = .returned (.bool (zAhd gp || zAhd gg)) ∧ Below w.heap.size w w' := by
  unfold maxLen at h1 h2
  by_cases hp : 0 < gp.size
  · have hpi : (0 : Int) < gp.size := by omega
    have E1 := hide (zAhd_head hp)
    have hl1 := gp[0].toNat_lt
    by_cases hz : (gp[0].toNat : Int) = 0
    · rw [decide_eq_true hz] at E1
      go_enter Tryz.func41, Tryz.ntmps41
      go_wp2
      go_ret
      exact ⟨by rw [E1.out]; rfl, by (repeat (first | exact Below.refl _ _ | refine below_drewN ?_ _ | refine Below.drew ?_ | refine Below.alloc ?_ (by first | omega | (simp; done) | (simp; omega)) _ | refine Below.setCell ?_ (by first | omega | (simp; done) | (simp; omega)) _ | refine bel_alloc ?_ _ | refine bel_trans ?_ (by assumption) | refine Below.trans ?_ (Below.mono (by assumption) (by first | omega | (simp; done) | (simp; omega)))))⟩
    · rw [decide_eq_false hz] at E1
      by_cases hg : 0 < gg.size
      · have hgi : (0 : Int) < gg.size := by omega
        have E2 := hide (zAhd_head hg)
        have hl2 := gg[0].toNat_lt
        go_enter Tryz.func41, Tryz.ntmps41
        go_wp2
        all_goals go_ret
        all_goals exact ⟨(by rw [E1.out, E2.out]; first | (simp [*]; done) | (simp [*]; rw [Bool.eq_iff_iff]; simp; done) | (simp [*]; rw [Bool.eq_iff_iff]; simp; omega)), by (repeat (first | exact Below.refl _ _ | refine below_drewN ?_ _ | refine Below.drew ?_ | refine Below.alloc ?_ (by first | omega | (simp; done) | (simp; omega)) _ | refine Below.setCell ?_ (by first | omega | (simp; done) | (simp; omega)) _ | refine bel_alloc ?_ _ | refine bel_trans ?_ (by assumption) | refine Below.trans ?_ (Below.mono (by assumption) (by first | omega | (simp; done) | (simp; omega)))))⟩
      · have hgi : ¬ (0 : Int) < gg.size := by omega
        have E2 := hide (zAhd_none hg)
        go_enter Tryz.func41, Tryz.ntmps41
        go_wp2
        go_ret
        exact ⟨by rw [E1.out, E2.out]; rfl, by (repeat (first | exact Below.refl _ _ | refine below_drewN ?_ _ | refine Below.drew ?_ | refine Below.alloc ?_ (by first | omega | (simp; done) | (simp; omega)) _ | refine Below.setCell ?_ (by first | omega | (simp; done) | (simp; omega)) _ | refine bel_alloc ?_ _ | refine bel_trans ?_ (by assumption) | refine Below.trans ?_ (Below.mono (by assumption) (by first | omega | (simp; done) | (simp; omega)))))⟩
  · have hpi : ¬ (0 : Int) < gp.size := by omega
    have E1 := hide (zAhd_none hp)
    by_cases hg : 0 < gg.size
    · have hgi : (0 : Int) < gg.size := by omega
      have E2 := hide (zAhd_head hg)
      have hl2 := gg[0].toNat_lt
      go_enter Tryz.func41, Tryz.ntmps41
      go_wp2
      all_goals go_ret
      all_goals exact ⟨(by rw [E1.out, E2.out]; first | (simp [*]; done) | (simp [*]; rw [Bool.eq_iff_iff]; simp; done) | (simp [*]; rw [Bool.eq_iff_iff]; simp; omega)), by (repeat (first | exact Below.refl _ _ | refine below_drewN ?_ _ | refine Below.drew ?_ | refine Below.alloc ?_ (by first | omega | (simp; done) | (simp; omega)) _ | refine Below.setCell ?_ (by first | omega | (simp; done) | (simp; omega)) _ | refine bel_alloc ?_ _ | refine bel_trans ?_ (by assumption) | refine Below.trans ?_ (Below.mono (by assumption) (by first | omega | (simp; done) | (simp; omega)))))⟩
    · have hgi : ¬ (0 : Int) < gg.size := by omega
      have E2 := hide (zAhd_none hg)
      go_enter Tryz.func41, Tryz.ntmps41
      go_wp2
      go_ret
      exact ⟨by rw [E1.out, E2.out]; rfl, by (repeat (first | exact Below.refl _ _ | refine below_drewN ?_ _ | refine Below.drew ?_ | refine Below.alloc ?_ (by first | omega | (simp; done) | (simp; omega)) _ | refine Below.setCell ?_ (by first | omega | (simp; done) | (simp; omega)) _ | refine bel_alloc ?_ _ | refine bel_trans ?_ (by assumption) | refine Below.trans ?_ (Below.mono (by assumption) (by first | omega | (simp; done) | (simp; omega)))))⟩
end
theorem idn_iff {T : List Tm} (hT : AOK T) {o o' : Option Tm} {n n' : Int} (h : Idn T o n) (h' : Idn T o' n') : n = n' ↔ o = o' := by
  constructor
  · rintro rfl
    exact h.1.symm.trans h'.1
  · rintro rfl
    cases o with
    | none => rw [h.2 rfl, h'.2 rfl]
    | some t =>
      obtain ⟨p, rfl, hp⟩ := arg_some h.1
      obtain ⟨q, rfl, hq⟩ := arg_some h'.1
      rw [get_inj hT hp hq]
end Go.Proofs.YtfjegckomjpkdaaGreatDoor
