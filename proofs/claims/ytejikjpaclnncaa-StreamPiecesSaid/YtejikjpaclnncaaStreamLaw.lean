/-
  The page's example of layer 13, and the slices of acts that a law gets. Conditions: none.
-/
import Derived.Test.YtejikjpaclnncaaRef13
import Derived.Test.YtejikjpaclnncaaFrameNeeds
import Derived.Deep.Slices
import Derived.Deep.Fields
import Derived.ChangeSame
namespace Go.Proofs.Ytejikjpaclnncaa
open Go.ChangeShapes Go.WideShapes Go.ChangeAt Go.RowKit Go.Deep
open Go.ChangeMaps (open_string shut_string)

/-- A slice of acts. -/
def Acts (w : World) (v : Value) (n : Nat) (K : Nat → Int) (S : Nat → ByteArray) : Prop :=
  ∃ A c, v = .slice A n c ∧ n ≤ maxLen ∧ ∀ i, i < n → ∃ ad, A = some ad ∧ ad.block < w.heap.size ∧ w.cell? (ad.add (i * 2)) = some (.int .i64 (K i)) ∧ w.cell? (ad.add (i * 2 + 1)) = some (.string (S i)) ∧ (S i).size ≤ maxLen
theorem few13_any {v : Value} {n : Nat} {K : Nat → Int} {S : Nat → ByteArray} {w : World} (h : Acts w v n K S) : Calls Try.prog 27 #[v, .int .i64 30] w fun e w' => (e = .returned (.bool false) ∨ e = .returned (.bool true) ∧ n ≤ 30 ∧ ∀ i, i < n → (S i).size ≤ 2000) ∧ w = w' := by
  obtain ⟨A, c, rfl, hn, hi⟩ := h
  unfold maxLen at hn
  have Hi := hide hi
  clear hi
  by_cases h30 : 30 < n
  · go_enter Try.func27, Try.ntmps27
    go_wp2
    go_ret
    exact ⟨.inl rfl, rfl⟩
  go_enter Try.func27, Try.ntmps27
  go_wp2
  go_loop [5] (fun i => ∃ k : Nat, k ≤ n ∧ i = .int .i64 k ∧ ∀ j, j < k → (S j).size ≤ 2000) (fun i => n - (intOf i).toNat)
  case atStart => exact ⟨0, Nat.zero_le _, rfl, fun j hj => by omega⟩
  case round =>
    obtain ⟨k, hk, rfl, hall⟩ := hrel
    have Hall := hide hall
    clear hall
    by_cases hlt : k < n
    · obtain ⟨ad, rfl, hb, h1, h2, hs⟩ := Hi.out k hlt
      unfold maxLen at hs
      have h2' := cell_off (j := 0) h2
      by_cases hz : 2000 < (S k).size
      · go_wp2
        go_ret
        exact ⟨.inl rfl, rfl⟩
      · go_wp2
        go_round
        case rel =>
          refine ⟨k + 1, hlt, by go_num, fun j hj => ?_⟩
          rcases Nat.lt_or_eq_of_le (Nat.le_of_lt_succ hj) with h | rfl
          · exact Hall.out j h
          · omega
        case measure => simp [intOf]; omega
    · go_wp2
      go_ret
      exact ⟨.inr ⟨rfl, by omega, fun i h => Hall.out i (by omega)⟩, rfl⟩
def b1 : ByteArray := ⟨#[83, 83, 72, 45, 50, 46, 48, 45, 120, 13]⟩
def b2 : ByteArray := ⟨#[83, 83, 72, 45, 50, 46, 48, 45, 120, 13, 10]⟩
theorem awake13 (w : World) : Calls Try.prog 21 #[] w fun e w' => e = .returned (.bool true) ∧ Below w.heap.size w w' := by
  have c1 : (⟨#[]⟩ : ByteArray) ++ ⟨#[83, 83, 72, 45, 50, 46, 48, 45, 120, 13]⟩ = b1 := by kernel_rfl
  have c2 : b1 ++ ⟨#[10]⟩ = b2 := by kernel_rfl
  have d1 : lineD b1.data.toList 0 = (([], false, 0), (b1.data.toList, 0)) := by decide +kernel
  have d2 : lineD b2.data.toList 0 = (([83, 83, 72, 45, 50, 46, 48, 45, 120], true, 0), ([], 0)) := by decide +kernel
  have s1 : b1.size = 10 := by kernel_rfl
  have s2 : b2.size = 11 := by kernel_rfl
  have C1 := hide c1
  have C2 := hide c2
  have D1 := hide d1
  have D2 := hide d2
  clear c1 c2 d1 d2
  generalize b1 = u1 at C1 C2 D1 s1
  generalize b2 = u2 at C2 D2 s2
  go_enter Try.func21, Try.ntmps21
  go_wp2_with (first
    | (go_at_call 22; refine (snew_any _).mono ?_; rintro e w1 ⟨rfl, h1, hb1⟩)
    | (go_at_call 23; refine (sfeed_any h1 (by decide)).mono ?_; rintro e w2 ⟨rfl, h2, ho2⟩; rw [C1.out] at h2)
    | (go_at_call 29; refine (line_any h2 (by omega)).mono ?_; rintro e w3 ⟨r3, t3, rfl, hr3, h3, ht3, ho3⟩; rw [D1.out] at hr3 h3 ht3 ⊢; obtain rfl : t3 = u1 := data_inj ht3; obtain rfl : r3 = ⟨#[]⟩ := data_inj hr3; clear hr3 ht3)
    | (go_at_call 23; refine (sfeed_any h3 (by show _ + 1 ≤ _; omega)).mono ?_; rintro e w4 ⟨rfl, h4, ho4⟩; rw [C2.out] at h4)
    | (go_at_call 29; refine (line_any h4 (by omega)).mono ?_; rintro e w5 ⟨r5, t5, rfl, hr5, h5, ht5, ho5⟩; rw [D2.out] at hr5 h5 ht5 ⊢; obtain rfl : r5 = ⟨#[83, 83, 72, 45, 50, 46, 48, 45, 120]⟩ := data_inj hr5; clear hr5 ht5))
  go_ret
  exact ⟨rfl, below_only hb1 (only_trans ho2 (only_trans ho3 (only_trans ho4 ho5))) (Nat.le_refl _) hb1.size⟩
theorem tk_le {x n e : Int} {R l : List UInt8} : (tkR x n R l e).2.1.length ≤ l.length := by
  unfold tkR
  split
  · exact Nat.le_refl _
  · split
    · show (l.drop _).length ≤ _
      rw [List.length_drop]
      omega
    · split
      · exact Nat.le_refl _
      · exact Nat.zero_le _
theorem line_le (l : List UInt8) (e : Int) : (lineD l e).2.1.length ≤ l.length := tk_le
theorem unit_le (l : List UInt8) (e : Int) : (unitD l e).2.1.length ≤ l.length := tk_le
end Go.Proofs.Ytejikjpaclnncaa
