/-
  The contract of the law's Few: at most n makes, each with a text of at most 200 bytes.
-/
import Derived.Test.YtkpikfdfekggbaaGreatDoorMakes
namespace Go.Proofs.YtkpikfdfekggbaaGreatDoor
open Go.RowKit Go.ChangeShapes Go.WideShapes
/-- What Few answers. -/
def fewB (l : List Mk) (n : Int) : Bool := decide ((l.length : Int) ≤ n) && l.all (fun x => decide (x.s.size ≤ 200))
theorem fewB_long {l : List Mk} {n : Int} (h : n < (l.length : Int)) : fewB l n = false := by
  unfold fewB
  rw [decide_eq_false (by omega)]
  rfl
theorem fewB_big {l : List Mk} {n : Int} {i : Nat} {x : Mk} (h : l[i]? = some x) (hx : 200 < x.s.size) : fewB l n = false := by
  unfold fewB
  have : l.all (fun x => decide (x.s.size ≤ 200)) = false := by
    rw [List.all_eq_false]
    exact ⟨x, List.mem_of_getElem? h, by simp; omega⟩
  rw [this, Bool.and_false]
theorem fewB_all {l : List Mk} {n : Int} (h : (l.length : Int) ≤ n) (ha : ∀ x ∈ l, x.s.size ≤ 200) : fewB l n = true := by
  unfold fewB
  rw [decide_eq_true h, Bool.true_and, List.all_eq_true]
  exact fun x hx => by simpa using ha x hx
section
variable {B : Nat} {w : World}
set_option maxHeartbeats 4000000 in
set_option maxRecDepth 100000 in
theorem few_any {A : Option Addr} {c : Nat} {l : List Mk} (hl : Mks B w A l) (hll : l.length ≤ 1000000) (n : Int) :
    Calls Tryz.prog 11 #[.slice A l.length c, .int .i64 n] w (fun e w' => e = .returned (.bool (fewB l n)) ∧ w' = w) := by
  have HL := hide hl
  clear hl
  go_enter Tryz.func11, Tryz.ntmps11
  by_cases ht : n < (l.length : Int)
  · have E := hide (fewB_long ht)
    go_wp2
    go_ret
    exact ⟨by rw [E.out]; rfl, rfl⟩
  · go_wp2_with fail
    go_loopw [5] (fun vi wr => wr = w ∧ ∃ i : Nat, vi = .int .i64 i ∧ i ≤ l.length ∧ Hid (∀ x ∈ l.take i, x.s.size ≤ 200)) (fun vi _ => l.length - (intOf vi).toNat)
    case atStart => exact ⟨rfl, 0, rfl, Nat.zero_le _, hide (by simp)⟩
    case round =>
      obtain ⟨rfl, i, rfl, hi, hA⟩ := hrel
      by_cases hlt : i < l.length
      · have hii : (i : Int) < l.length := by omega
        obtain ⟨x, hx⟩ : ∃ x, l[i]? = some x := ⟨_, List.getElem?_eq_getElem hlt⟩
        obtain ⟨ad, rfl, _, _, d0, _, _, _, d4⟩ := HL.out.at_ i x hx
        have d4' : wr.cell? ⟨(ad.add (i * 5)).block, (ad.add (i * 5)).off + 4, none⟩ = some (.string x.s) := d4
        have hxh := hide hx
        clear hx d4
        by_cases hs : 200 < x.s.size
        · have hs' : (200 : Int) < x.s.size := by omega
          have E := hide (fewB_big (n := n) hxh.out hs)
          go_wp2
          go_ret
          exact ⟨by rw [E.out]; rfl, rfl⟩
        · have hs' : ¬ (200 : Int) < x.s.size := by omega
          have hA' := hide (show ∀ y ∈ l.take (i + 1), y.s.size ≤ 200 from by
            intro y hy
            rw [List.take_add_one, hxh.out] at hy
            rcases List.mem_append.1 hy with hy | hy
            · exact hA.out y hy
            · simp at hy
              subst hy
              omega)
          go_wp2
          exact ⟨⟨trivial, i + 1, by go_num, by omega, hA'⟩, by simp [intOf]; omega⟩
      · have E := hide (fewB_all (n := n) (by omega) (fun x hx => hA.out x (by rw [List.take_of_length_le (by omega)]; exact hx)))
        go_wp2
        go_ret
        exact ⟨by rw [E.out]; rfl, rfl⟩
end
end Go.Proofs.YtkpikfdfekggbaaGreatDoor
