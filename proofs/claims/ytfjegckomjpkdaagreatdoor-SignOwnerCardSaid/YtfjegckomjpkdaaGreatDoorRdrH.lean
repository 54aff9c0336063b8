/-
  The contract of code's term, all kinds together. Conditions: at most MaxTerm bytes.
-/
import Derived.Test.YtfjegckomjpkdaaGreatDoorRdrF
set_option linter.unusedVariables false
set_option linter.unusedSimpArgs false
namespace Go.Proofs.YtfjegckomjpkdaaGreatDoor
open Go.RowKit Go.ChangeShapes Go.WideShapes Go.Sort
theorem w64_id {x : Int} (h1 : -9223372036854775808 ≤ x) (h2 : x < 9223372036854775808) : wrap64 x = x := by
  unfold wrap64
  omega
theorem w64_q {q : Nat} (h : q < 256) : wrap64 (q : Int) = q := w64_id (by omega) (by omega)
theorem w64_k {q : Nat} (h : q < 256) : wrap64 ((q : Int) - 240) = (q : Int) - 240 := w64_id (by omega) (by omega)
section
variable {B b g p p0 N : Nat} {s : ByteArray} {T : List Tm} {S : Nat → Prop} {w w0 w1 w2 : World} {c : UInt8} {s1 : List UInt8}
set_option maxHeartbeats 2000000 in
set_option maxRecDepth 100000 in
theorem term_other (IH : TermIH B b g s N) (h : Rd B b g s p T S w) (hN : s.size - p < N + 1) (hd : s.data.toList.drop p = c :: s.data.toList.drop (p + 1)) {q : Nat} (hq : q = c.toNat) (k241 : ¬ q = 241) (k242 : ¬ q = 242) (k243 : ¬ q = 243) (k244 : ¬ q = 244) (k245 : ¬ q = 245) (k246 : ¬ q = 246) (k247 : ¬ q = 247) (k248 : ¬ q = 248) (k249 : ¬ q = 249) (k250 : ¬ q = 250) :
    Calls Tryz.prog 54 #[.pointer (some ⟨b, 0, none⟩)] w (GotT B b g s p T S w) := by
  have HB := hide (fun (W : World) (hb : Below w.heap.size w W) => byte_yes (h.below hb) hd)
  have HIH := hide IH
  have hsr := h.sr_lt
  have hK := h.few
  have hxn : ¬ SR b S w.heap.size := fun h9 => by have := hsr _ h9; omega
  clear h IH hsr
  have hcl := c.toNat_lt
  rw [← hq] at HB
  go_enter Tryz.func54, Tryz.ntmps54
  go_wp2_with fail
  have hx0 := Blk.new w 112 #[.pointer (some ⟨b, 0, none⟩)]
  have hb0 := bel_new (w := w) (.cells #[.pointer (some ⟨b, 0, none⟩)] 112)
  refine (HB.out _ hb0).mono ?_
  rintro e w1 ⟨rfl, hps, hR, hG⟩
  have hx1 := hG.outs.blk hx0 hxn
  have hG0 := (Grown.of_below (S := SR b S) hb0).trans hG
  have hxc : w1.cell? ⟨w.heap.size, 0, none⟩ = some (.pointer (some ⟨b, 0, none⟩)) := hx1.cell 0
  obtain ⟨bx, hbx⟩ : ∃ bx, bx = w.heap.size := ⟨_, rfl⟩
  rw [← hbx] at hx1 hxc hxn ⊢
  clear hx0 hb0 hG HB hbx
  have Hd := hide hd
  have hsz := hR.hs
  have hlen := hR.len
  clear hd
  have f4 : ((q : Int) - 240 == 4) = false := by simp only [beq_eq_false_iff_ne, ne_eq]; omega
  have f5 : ((q : Int) - 240 == 5) = false := by simp only [beq_eq_false_iff_ne, ne_eq]; omega
  have f6 : ((q : Int) - 240 == 6) = false := by simp only [beq_eq_false_iff_ne, ne_eq]; omega
  have f7 : ((q : Int) - 240 == 7) = false := by simp only [beq_eq_false_iff_ne, ne_eq]; omega
  have f8 : ((q : Int) - 240 == 8) = false := by simp only [beq_eq_false_iff_ne, ne_eq]; omega
  have f9 : ((q : Int) - 240 == 9) = false := by simp only [beq_eq_false_iff_ne, ne_eq]; omega
  have f10 : ((q : Int) - 240 == 10) = false := by simp only [beq_eq_false_iff_ne, ne_eq]; omega
  have HW := hide (leaf_other hR ((q : Int) - 240) (by omega) (by omega) (by omega) (by rw [Hd.out]; exact noT_kind (by omega)))
  have h256 : q < 256 := by rw [hq]; exact hcl
  have wq : wrap64 (q : Int) = q := w64_q h256
  have wr : wrap64 ((q : Int) - 240) = (q : Int) - 240 := w64_k h256
  clear hx1 hq hcl
  go_upto_region 5 with fail
  go_wp2_with fail
  refine HW.out.mono ?_
  intro e w2 hg
  have hF := hide (hg.term hG0 hps)
  obtain ⟨T2, m, S2, p2, o2, rfl, _⟩ := hg
  go_wp2_with fail
  go_ret
  exact hF.out
theorem term_step (IH : TermIH B b g s N) (h : Rd B b g s p T S w) (hN : s.size - p < N + 1) :
    Calls Tryz.prog 54 #[.pointer (some ⟨b, 0, none⟩)] w (GotT B b g s p T S w) := by
  by_cases hlt : p < s.size
  · have hd := drop_cons (s := s.data.toList) (p := p) hlt
    generalize s.data.toList[p]'hlt = c at hd
    by_cases k241 : c.toNat = 241
    · exact term_241 IH h hN hd k241
    by_cases k242 : c.toNat = 242
    · exact term_242 IH h hN hd k242
    by_cases k243 : c.toNat = 243
    · exact term_243 IH h hN hd k243
    by_cases k244 : c.toNat = 244
    · exact term_244 IH h hN hd k244
    by_cases k245 : c.toNat = 245
    · exact term_245 IH h hN hd k245
    by_cases k246 : c.toNat = 246
    · exact term_246 IH h hN hd k246
    by_cases k247 : c.toNat = 247
    · exact term_247 IH h hN hd k247
    by_cases k248 : c.toNat = 248
    · exact term_248 IH h hN hd k248
    by_cases k249 : c.toNat = 249
    · exact term_249 IH h hN hd k249
    by_cases k250 : c.toNat = 250
    · exact term_250 IH h hN hd k250
    exact term_other IH h hN hd rfl k241 k242 k243 k244 k245 k246 k247 k248 k249 k250
  · exact term_end h (by have := h.hp; omega)
theorem term_any (b g B : Nat) (s : ByteArray) : ∀ N, TermIH B b g s N := by
  intro N
  induction N with
  | zero => exact fun p T S w h => absurd h (by omega)
  | succ N ih => exact fun p T S w hN h => term_step ih h hN
end
end Go.Proofs.YtfjegckomjpkdaaGreatDoor
