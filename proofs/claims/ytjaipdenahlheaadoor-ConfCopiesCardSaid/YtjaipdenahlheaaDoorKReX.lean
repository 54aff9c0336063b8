/-
  Several of my texts in one: REnc, MsgX, KxQ, Kx4, Same4, Clone.
-/
import Derived.Test.YtjaipdenahlheaaDoorKRefG
import Derived.Test.YtjaipdenahlheaaDoorKPutM
import Derived.Test.YtjaipdenahlheaaDoorKEncG
import Derived.Test.YtjaipdenahlheaaDoorKReadW
import Derived.Test.YtjaipdenahlheaaDoorKKxPG
import Derived.Test.YtjaipdenahlheaaDoorKBaseG
import Derived.Deep.RegionHeld3
import Derived.Deep.DeepCutAuto
set_option linter.unusedVariables false
set_option linter.unusedSimpArgs false
/-
  The contract of the reference's Encode. Conditions: texts and lists that fit.
-/
namespace Go.Proofs.YtjaipdenahlheaaDoor
open Go.RowKit Go.ChangeShapes Go.WideShapes Go.Sort
end Go.Proofs.YtjaipdenahlheaaDoor

/-
  Law MsgEncodes: the walk of the statement. Conditions: the library's handle and number are as they were laid.
-/
namespace Go.Proofs.YtjaipdenahlheaaDoor
open Go.RowKit Go.ChangeShapes Go.WideShapes Go.Sort
end Go.Proofs.YtjaipdenahlheaaDoor

/-
  The plain law of kexinit's message: the thirteen values of a decoded message 20. Conditions: none.
-/
namespace Go.Proofs.YtjaipdenahlheaaDoor
end Go.Proofs.YtjaipdenahlheaaDoor

/-
  The contracts of kexinit's truth and of Build's closure that puts a list. Conditions: rows that fit.
-/
namespace Go.Proofs.YtjaipdenahlheaaDoor
open Go.RowKit Go.ChangeShapes Go.WideShapes Go.Sort
theorem own_setK {W : World} {B g size n : Nat} {e t : TypeId} {v : Value} {xs : List Value} {cs : Array Value} (h : W.ownsRow B e size v n xs) (hb : Blk W g t cs) (hne : e ≠ t) (c : Nat) (u : Value) : (W.setCell ⟨g, c, none⟩ u).ownsRow B e size v n xs :=
  h.kept (only_setCell (only_refl W (some g)) (.inl rfl) u) (.inr (own_blk_ne h hb hne))
end Go.Proofs.YtjaipdenahlheaaDoor

/-
  The contract of shibbolethlaw04.Same: are two lists of names the same? Conditions: the arguments read as lists.
-/
namespace Go.Proofs.YtjaipdenahlheaaDoor
open Go.RowKit

set_option maxHeartbeats 400000 in
theorem same_q {lo lo' : Nat} {v v' : Value} {ss ss' : List ByteArray} {w : World} (h1 : Strs lo w v ss) (h2 : Strs lo' w v' ss') (hb1 : ss.length ≤ 9223372036854775807) (hb2 : ss'.length ≤ 9223372036854775807) :
    Calls Tryd.prog 22 #[v, v'] w fun e w' => e = .returned (.bool (decide (ss = ss'))) ∧ ∃ n, w' = w.drewN n := by
  obtain ⟨A, c, rfl, hr⟩ := h1
  obtain ⟨A', c', rfl, hr'⟩ := h2
  by_cases hlen : ss.length = ss'.length
  · have Hlen := hide hlen
    have hle : ss.length ≤ ss'.length ∧ ss'.length ≤ ss.length := by omega
    obtain ⟨hle1, hle2⟩ := hle
    clear hlen
    go_enter Tryd.func22, Tryd.ntmps22
    go_wp2
    go_loopw [5] (fun i wr => ∃ k n : Nat, k ≤ ss.length ∧ i = .int .i64 k ∧ wr = w.drewN n ∧ ss.take k = ss'.take k) (fun i _ => ss.length - (intOf i).toNat)
    case atStart => exact ⟨0, 0, Nat.zero_le _, rfl, rfl, rfl⟩
    case round =>
      obtain ⟨k, n, hk, rfl, rfl, heq⟩ := hrel
      have Heq := hide heq
      clear heq
      by_cases hlt : k < ss.length
      · obtain ⟨ad, rfl, hlo, hc0⟩ := hr.str hlt
        obtain ⟨ad', rfl, hlo', hc0'⟩ := hr'.str (Nat.lt_of_lt_of_le hlt hle1)
        have hc := hc0
        have hc' := hc0'
        clear hc0 hc0'
        generalize hs : ss[k] = s at hc
        generalize hs' : ss'[k]'(Nat.lt_of_lt_of_le hlt hle1) = s' at hc'
        by_cases he : s = s'
        · subst he
          have Hs := hide hs
          have Hs' := hide hs'
          clear hs hs'
          go_wp2
          go_quiet (fail)
          go_wp2
          go_roundw
          case rel =>
            refine ⟨k + 1, _, hlt, by go_num, rfl, ?_⟩
            rw [List.take_succ_eq_append_getElem hlt, List.take_succ_eq_append_getElem (Nat.lt_of_lt_of_le hlt hle1), Heq.out, Hs.out, Hs'.out]
          case measure => simp [intOf]; omega
        · have hne : ss ≠ ss' := by
            rintro rfl
            exact he (hs.symm.trans hs')
          have e1 := bytes_ne he
          clear hs hs'
          go_wp2
          go_quiet (fail)
          go_wp2
          go_ret
          exact ⟨ret_bool (by simp [hne]), _, World.drewN_drewN _ _ _⟩
      · have he : ss = ss' := by
          have h := Heq.out
          rw [List.take_of_length_le (by omega), List.take_of_length_le (by omega)] at h
          exact h
        have He := hide he
        clear he
        go_wp2
        go_ret
        exact ⟨ret_bool (by simp [He.out]), _, rfl⟩
  · have hne : ss ≠ ss' := by
      rintro rfl
      exact hlen rfl
    go_enter Tryd.func22, Tryd.ntmps22
    go_wp2
    go_ret
    exact ⟨ret_bool (by simp [hne]), 0, rfl⟩
theorem same_any {lo lo' : Nat} {v v' : Value} {ss ss' : List ByteArray} {w : World} (h1 : Strs lo w v ss) (h2 : Strs lo' w v' ss') (hb1 : ss.length ≤ 9223372036854775807) (hb2 : ss'.length ≤ 9223372036854775807) :
    Calls Tryd.prog 22 #[v, v'] w fun e w' => e = .returned (.bool (decide (ss = ss'))) ∧ Below w.heap.size w w' :=
  (same_q h1 h2 hb1 hb2).mono fun _ _ ⟨h, n, hw⟩ => ⟨h, by rw [hw]; exact below_drewN (Below.refl _ _) _⟩
end Go.Proofs.YtjaipdenahlheaaDoor

/-
  The contracts of slices.Clone and slices.Equal at lists of strings. Conditions: the arguments read as lists; few enough for one block.
-/
namespace Go.Proofs.YtjaipdenahlheaaDoor
open Go.RowKit

theorem infoStr : (Tryd.prog.info? 9).map (fun i => (i.zero, i.size, i.bytes)) = some (some (.string ByteArray.empty), 1, 16) := by kernel_rfl
end Go.Proofs.YtjaipdenahlheaaDoor
