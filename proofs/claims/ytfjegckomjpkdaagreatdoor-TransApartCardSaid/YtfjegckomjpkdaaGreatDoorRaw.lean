/-
  The contracts of the law's few and parts. Conditions: numbers fit.
-/
import Derived.Test.YtfjegckomjpkdaaGreatDoorRawP
import Derived.Test.YtfjegckomjpkdaaGreatDoorRef20
set_option linter.unusedVariables false
set_option linter.unusedSimpArgs false
namespace Go.Proofs.YtfjegckomjpkdaaGreatDoor
open Go.RowKit Go.ChangeShapes Go.WideShapes Go.Sort
def vsR (x : RawP) : List ByteArray := [x.v0, x.v1, x.v2, x.v3]
theorem fewR_big {x : RawP} {s : ByteArray} (h : s ∈ vsR x) (hs : 300 < s.size) : fewR x = false := by
  rw [Bool.eq_false_iff]
  intro hc
  have := fewR_iff.1 hc
  simp only [vsR, List.mem_cons, List.not_mem_nil, or_false] at h
  rcases h with rfl | rfl | rfl | rfl <;> omega
theorem fewR_all {x : RawP} (h : ∀ s ∈ vsR x, s.size ≤ 300) : fewR x = (decide ((x.gp.size : Int) ≤ 300) && decide ((x.gg.size : Int) ≤ 300)) := by
  have h0 := h x.v0 (by simp [vsR])
  have h1 := h x.v1 (by simp [vsR])
  have h2 := h x.v2 (by simp [vsR])
  have h3 := h x.v3 (by simp [vsR])
  unfold fewR
  rw [decide_eq_true h0, decide_eq_true h1, decide_eq_true h2, decide_eq_true h3]
  simp only [Bool.true_and]
  congr 1 <;> (rw [decide_eq_decide]; omega)
section
variable {w : World}
set_option maxHeartbeats 1000000 in
set_option maxRecDepth 100000 in
theorem rawFew_any (x : RawP) (hf : RawFit x) (w : World) : Calls Tryz.prog 40 #[rawV x] w fun e w' => e = .returned (.bool (fewR x)) ∧ Below w.heap.size w w' := by
  unfold rawV
  obtain ⟨W0, hW0⟩ : ∃ W0, W0 = w.alloc (.cells #[.string x.v0, .string x.v1, .string x.v2, .string x.v3, .int .i64 x.t0, .int .i64 x.t1, .int .i64 x.t2, .int .i64 x.t3, .bool x.asks, .int .u32 x.w0, .int .u32 x.w1, .int .u32 x.w2, .string x.gp, .string x.gg] 82) := ⟨_, rfl⟩
  have hbW : Below w.heap.size w W0 := by rw [hW0]; exact (Below.refl _ _).alloc (Nat.le_refl _) _
  have hM : Blk W0 w.heap.size 82 #[.string x.v0, .string x.v1, .string x.v2, .string x.v3, .int .i64 x.t0, .int .i64 x.t1, .int .i64 x.t2, .int .i64 x.t3, .bool x.asks, .int .u32 x.w0, .int .u32 x.w1, .int .u32 x.w2, .string x.gp, .string x.gg] := by rw [hW0]; exact Blk.new _ _ _
  have HM := hide hM
  have Hf := hide hf
  clear hM hf
  go_enter Tryz.func40, Tryz.ntmps40
  go_wp2_with fail
  rw [← hW0]
  clear hW0
  go_loopw [3] (fun vi wr => wr = W0 ∧ ∃ i : Nat, vi = .int .i64 i ∧ i ≤ 4 ∧ Hid (∀ s ∈ (vsR x).take i, s.size ≤ 300)) (fun vi _ => 4 - (intOf vi).toNat)
  case atStart => exact ⟨rfl, 0, rfl, by omega, hide (by simp)⟩
  case round =>
    obtain ⟨rfl, i, rfl, hi, hA⟩ := hrel
    have hvl : (vsR x).length = 4 := rfl
    by_cases h4 : i < 4
    · have hii : (i : Int) < 4 := by omega
      have hcell : wr.cell? ⟨w.heap.size, i, none⟩ = some (.string ((vsR x)[i]'(by omega))) := by
        obtain rfl | rfl | rfl | rfl : i = 0 ∨ i = 1 ∨ i = 2 ∨ i = 3 := by omega
        · exact HM.out.cell 0
        · exact HM.out.cell 1
        · exact HM.out.cell 2
        · exact HM.out.cell 3
      have hmem := hide (List.getElem_mem (l := vsR x) (n := i) (by omega))
      have hsn := hide (List.take_succ_eq_append_getElem (l := vsR x) (i := i) (by omega))
      generalize (vsR x)[i]'(by omega) = s at hcell hmem hsn
      by_cases hs : 300 < s.size
      · have hs' : (300 : Int) < s.size := by omega
        have E := hide (fewR_big hmem.out hs)
        go_wp2
        go_ret
        exact ⟨by rw [E.out]; rfl, hbW⟩
      · have hs' : ¬ (300 : Int) < s.size := by omega
        have hA' := hide (show ∀ y ∈ (vsR x).take (i + 1), y.size ≤ 300 from by
          intro y hy
          rw [hsn.out] at hy
          rcases List.mem_append.1 hy with hy | hy
          · exact hA.out y hy
          · rw [List.mem_singleton] at hy
            subst hy
            omega)
        go_wp2
        exact ⟨⟨trivial, i + 1, by go_num, by omega, hA'⟩, by simp [intOf]; omega⟩
    · obtain rfl : i = 4 := by omega
      have E := hide (fewR_all (x := x) (fun s hs => hA.out s (by rw [List.take_of_length_le (by omega)]; exact hs)))
      have k12 : wr.cell? ⟨w.heap.size, 12, none⟩ = some (.string x.gp) := HM.out.cell 12
      have k13 : wr.cell? ⟨w.heap.size, 13, none⟩ = some (.string x.gg) := HM.out.cell 13
      by_cases h1 : (x.gp.size : Int) ≤ 300
      · rw [decide_eq_true h1, Bool.true_and] at E
        go_wp2
        go_ret
        exact ⟨by rw [E.out]; rfl, hbW⟩
      · rw [decide_eq_false h1, Bool.false_and] at E
        go_wp2
        go_ret
        exact ⟨by rw [E.out]; rfl, hbW⟩
end
end Go.Proofs.YtfjegckomjpkdaaGreatDoor
