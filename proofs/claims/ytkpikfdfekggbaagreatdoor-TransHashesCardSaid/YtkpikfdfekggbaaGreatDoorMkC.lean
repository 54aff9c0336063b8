/-
  The contract of the law's text: a term more, as the document writes it down. Conditions: numbers fit.
-/
import Derived.Test.YtkpikfdfekggbaaGreatDoorMkB
namespace Go.Proofs.YtkpikfdfekggbaaGreatDoor
open Go.RowKit Go.ChangeShapes Go.WideShapes

theorem rData_s (s : ByteArray) (w : World) (h : s.size ≤ 1000000) : Calls Tryz.prog 69 #[.string s] w (Says (txt (tData s)) w) := rData_any s.data.toList w (by rw [size_len]; omega)
theorem rBase_s (s : ByteArray) (w : World) (h : s.size ≤ 1000000) : Calls Tryz.prog 84 #[.string s] w (Says (txt (tBase s)) w) := rBase_any s.data.toList w (by rw [size_len]; omega)
theorem rSign_s (s : ByteArray) {o p : Option Tm} (ho : fineO o) (hp : fineO p) (w : World) (h : s.size ≤ 1000000) : Calls Tryz.prog 62 #[.string s, .string (bs (txt o)), .string (bs (txt p))] w (Says (txt (tSign s o p)) w) := rSign_any s.data.toList ho hp w (by rw [size_len]; omega)
section
variable {w : World} {T : List Tm} {ms : List (Option Tm)} {v1 v2 : Value}
set_option maxHeartbeats 4000000 in
set_option maxRecDepth 100000 in
theorem mtext_any (hm : Md w T ms v1 v2) (hf : ∀ o ∈ ms, fineO o) (k a b c : Int) (s : ByteArray) (hs : s.size ≤ 1000000) (hml : ms.length ≤ 1000000) :
    Calls Tryz.prog 51 #[.agg #[v1, v2], .agg #[.int .i64 k, .int .i64 a, .int .i64 b, .int .i64 c, .string s]] w (Says (txt (mkO ms ⟨k, a, b, c, s⟩)) w) := by
  obtain ⟨A1, c1, A2, c2, rfl, rfl, _⟩ := hm.open_
  have HA := hide (fun (w2 : World) (hb : Below w.heap.size w w2) => pick_any (hm.below hb) a (by omega))
  have HB := hide (fun (w2 : World) (hb : Below w.heap.size w w2) => pick_any (hm.below hb) b (by omega))
  have HC := hide (fun (w2 : World) (hb : Below w.heap.size w w2) => pick_any (hm.below hb) c (by omega))
  have HL := hide (fun (w2 : World) => letter_any s w2 (by omega))
  have fa := pickO_fine hf a
  have fb := pickO_fine hf b
  have fc := pickO_fine hf c
  obtain ⟨o, ho⟩ : ∃ o, o = mkO ms ⟨k, a, b, c, s⟩ := ⟨_, rfl⟩
  rw [← ho]
  have Ho := hide ho
  clear ho
  by_cases hk : 1 ≤ k ∧ k ≤ 10
  · obtain rfl | rfl | rfl | rfl | rfl | rfl | rfl | rfl | rfl | rfl : k = 1 ∨ k = 2 ∨ k = 3 ∨ k = 4 ∨ k = 5 ∨ k = 6 ∨ k = 7 ∨ k = 8 ∨ k = 9 ∨ k = 10 := by omega
    · have HM := hide (fun (w2 : World) => rData_s s w2 hs)
      have Hr := hide (show o = tData s from Ho.out)
      clear hm hk hf fa fb fc
      go_enter Tryz.func51, Tryz.ntmps51
      go_wp2_with (first
          | (go_at_call 22; (with_reducible refine (HA.out _ (by (repeat (first | exact Below.refl _ _ | refine below_drewN ?_ _ | refine Below.drew ?_ | refine Below.alloc ?_ (by first | omega | (simp; done) | (simp; omega)) _ | refine Below.setCell ?_ (by first | omega | (simp; done) | (simp; omega)) _ | refine bel_alloc ?_ _ | refine bel_trans ?_ (by assumption) | refine Below.trans ?_ (Below.mono (by assumption) (by first | omega | (simp; done) | (simp; omega))))))).mono ?_); rintro e w1 ⟨n1, rfl, hn1, hb1⟩; obtain ⟨hc1, hf1⟩ := bcell hb1; have hz1 : w.heap.size + 1 < w1.heap.size := (by have := hb1.size; (try simp at this); omega); have hy1 : w.heap.size < w1.heap.size := (by omega))
          | (go_at_call 22; (with_reducible refine (HB.out _ (by (repeat (first | exact Below.refl _ _ | refine below_drewN ?_ _ | refine Below.drew ?_ | refine Below.alloc ?_ (by first | omega | (simp; done) | (simp; omega)) _ | refine Below.setCell ?_ (by first | omega | (simp; done) | (simp; omega)) _ | refine bel_alloc ?_ _ | refine bel_trans ?_ (by assumption) | refine Below.trans ?_ (Below.mono (by assumption) (by first | omega | (simp; done) | (simp; omega))))))).mono ?_); rintro e w2 ⟨n2, rfl, hn2, hb2⟩; obtain ⟨hc2, hf2⟩ := bcell hb2; have hz2 : w.heap.size + 1 < w2.heap.size := (by have := hb2.size; (try simp at this); omega); have hy2 : w.heap.size < w2.heap.size := (by omega))
          | (go_at_call 22; (with_reducible refine (HC.out _ (by (repeat (first | exact Below.refl _ _ | refine below_drewN ?_ _ | refine Below.drew ?_ | refine Below.alloc ?_ (by first | omega | (simp; done) | (simp; omega)) _ | refine Below.setCell ?_ (by first | omega | (simp; done) | (simp; omega)) _ | refine bel_alloc ?_ _ | refine bel_trans ?_ (by assumption) | refine Below.trans ?_ (Below.mono (by assumption) (by first | omega | (simp; done) | (simp; omega))))))).mono ?_); rintro e w3 ⟨n3, rfl, hn3, hb3⟩; obtain ⟨hc3, hf3⟩ := bcell hb3; have hz3 : w.heap.size + 1 < w3.heap.size := (by have := hb3.size; (try simp at this); omega); have hy3 : w.heap.size < w3.heap.size := (by omega))
          | (go_at_call 69; refine (HM.out _).mono ?_; rintro e w9 ⟨rfl, hb9⟩))
      go_ret
      rw [Hr.out]
      exact ⟨rfl, by (repeat (first | exact Below.refl _ _ | refine below_drewN ?_ _ | refine Below.drew ?_ | refine Below.alloc ?_ (by first | omega | (simp; done) | (simp; omega)) _ | refine Below.setCell ?_ (by first | omega | (simp; done) | (simp; omega)) _ | refine bel_alloc ?_ _ | refine bel_trans ?_ (by assumption) | refine Below.trans ?_ (Below.mono (by assumption) (by first | omega | (simp; done) | (simp; omega)))))⟩
    · have HM := hide (fun (w2 : World) => rNonce_any a b w2)
      have Hr := hide (show o = tNonce a b from Ho.out)
      clear hm hk hf fa fb fc
      go_enter Tryz.func51, Tryz.ntmps51
      go_wp2_with (first
          | (go_at_call 22; (with_reducible refine (HA.out _ (by (repeat (first | exact Below.refl _ _ | refine below_drewN ?_ _ | refine Below.drew ?_ | refine Below.alloc ?_ (by first | omega | (simp; done) | (simp; omega)) _ | refine Below.setCell ?_ (by first | omega | (simp; done) | (simp; omega)) _ | refine bel_alloc ?_ _ | refine bel_trans ?_ (by assumption) | refine Below.trans ?_ (Below.mono (by assumption) (by first | omega | (simp; done) | (simp; omega))))))).mono ?_); rintro e w1 ⟨n1, rfl, hn1, hb1⟩; obtain ⟨hc1, hf1⟩ := bcell hb1; have hz1 : w.heap.size + 1 < w1.heap.size := (by have := hb1.size; (try simp at this); omega); have hy1 : w.heap.size < w1.heap.size := (by omega))
          | (go_at_call 22; (with_reducible refine (HB.out _ (by (repeat (first | exact Below.refl _ _ | refine below_drewN ?_ _ | refine Below.drew ?_ | refine Below.alloc ?_ (by first | omega | (simp; done) | (simp; omega)) _ | refine Below.setCell ?_ (by first | omega | (simp; done) | (simp; omega)) _ | refine bel_alloc ?_ _ | refine bel_trans ?_ (by assumption) | refine Below.trans ?_ (Below.mono (by assumption) (by first | omega | (simp; done) | (simp; omega))))))).mono ?_); rintro e w2 ⟨n2, rfl, hn2, hb2⟩; obtain ⟨hc2, hf2⟩ := bcell hb2; have hz2 : w.heap.size + 1 < w2.heap.size := (by have := hb2.size; (try simp at this); omega); have hy2 : w.heap.size < w2.heap.size := (by omega))
          | (go_at_call 22; (with_reducible refine (HC.out _ (by (repeat (first | exact Below.refl _ _ | refine below_drewN ?_ _ | refine Below.drew ?_ | refine Below.alloc ?_ (by first | omega | (simp; done) | (simp; omega)) _ | refine Below.setCell ?_ (by first | omega | (simp; done) | (simp; omega)) _ | refine bel_alloc ?_ _ | refine bel_trans ?_ (by assumption) | refine Below.trans ?_ (Below.mono (by assumption) (by first | omega | (simp; done) | (simp; omega))))))).mono ?_); rintro e w3 ⟨n3, rfl, hn3, hb3⟩; obtain ⟨hc3, hf3⟩ := bcell hb3; have hz3 : w.heap.size + 1 < w3.heap.size := (by have := hb3.size; (try simp at this); omega); have hy3 : w.heap.size < w3.heap.size := (by omega))
          | (go_at_call 83; refine (HM.out _).mono ?_; rintro e w9 ⟨rfl, hb9⟩))
      go_ret
      rw [Hr.out]
      exact ⟨rfl, by (repeat (first | exact Below.refl _ _ | refine below_drewN ?_ _ | refine Below.drew ?_ | refine Below.alloc ?_ (by first | omega | (simp; done) | (simp; omega)) _ | refine Below.setCell ?_ (by first | omega | (simp; done) | (simp; omega)) _ | refine bel_alloc ?_ _ | refine bel_trans ?_ (by assumption) | refine Below.trans ?_ (Below.mono (by assumption) (by first | omega | (simp; done) | (simp; omega)))))⟩
    · have HM := hide (fun (w2 : World) => rKey_any a w2)
      have Hr := hide (show o = tKey a from Ho.out)
      clear hm hk hf fa fb fc
      go_enter Tryz.func51, Tryz.ntmps51
      go_wp2_with (first
          | (go_at_call 22; (with_reducible refine (HA.out _ (by (repeat (first | exact Below.refl _ _ | refine below_drewN ?_ _ | refine Below.drew ?_ | refine Below.alloc ?_ (by first | omega | (simp; done) | (simp; omega)) _ | refine Below.setCell ?_ (by first | omega | (simp; done) | (simp; omega)) _ | refine bel_alloc ?_ _ | refine bel_trans ?_ (by assumption) | refine Below.trans ?_ (Below.mono (by assumption) (by first | omega | (simp; done) | (simp; omega))))))).mono ?_); rintro e w1 ⟨n1, rfl, hn1, hb1⟩; obtain ⟨hc1, hf1⟩ := bcell hb1; have hz1 : w.heap.size + 1 < w1.heap.size := (by have := hb1.size; (try simp at this); omega); have hy1 : w.heap.size < w1.heap.size := (by omega))
          | (go_at_call 22; (with_reducible refine (HB.out _ (by (repeat (first | exact Below.refl _ _ | refine below_drewN ?_ _ | refine Below.drew ?_ | refine Below.alloc ?_ (by first | omega | (simp; done) | (simp; omega)) _ | refine Below.setCell ?_ (by first | omega | (simp; done) | (simp; omega)) _ | refine bel_alloc ?_ _ | refine bel_trans ?_ (by assumption) | refine Below.trans ?_ (Below.mono (by assumption) (by first | omega | (simp; done) | (simp; omega))))))).mono ?_); rintro e w2 ⟨n2, rfl, hn2, hb2⟩; obtain ⟨hc2, hf2⟩ := bcell hb2; have hz2 : w.heap.size + 1 < w2.heap.size := (by have := hb2.size; (try simp at this); omega); have hy2 : w.heap.size < w2.heap.size := (by omega))
          | (go_at_call 22; (with_reducible refine (HC.out _ (by (repeat (first | exact Below.refl _ _ | refine below_drewN ?_ _ | refine Below.drew ?_ | refine Below.alloc ?_ (by first | omega | (simp; done) | (simp; omega)) _ | refine Below.setCell ?_ (by first | omega | (simp; done) | (simp; omega)) _ | refine bel_alloc ?_ _ | refine bel_trans ?_ (by assumption) | refine Below.trans ?_ (Below.mono (by assumption) (by first | omega | (simp; done) | (simp; omega))))))).mono ?_); rintro e w3 ⟨n3, rfl, hn3, hb3⟩; obtain ⟨hc3, hf3⟩ := bcell hb3; have hz3 : w.heap.size + 1 < w3.heap.size := (by have := hb3.size; (try simp at this); omega); have hy3 : w.heap.size < w3.heap.size := (by omega))
          | (go_at_call 63; refine (HM.out _).mono ?_; rintro e w9 ⟨rfl, hb9⟩))
      go_ret
      rw [Hr.out]
      exact ⟨rfl, by (repeat (first | exact Below.refl _ _ | refine below_drewN ?_ _ | refine Below.drew ?_ | refine Below.alloc ?_ (by first | omega | (simp; done) | (simp; omega)) _ | refine Below.setCell ?_ (by first | omega | (simp; done) | (simp; omega)) _ | refine bel_alloc ?_ _ | refine bel_trans ?_ (by assumption) | refine Below.trans ?_ (Below.mono (by assumption) (by first | omega | (simp; done) | (simp; omega)))))⟩
    · have HM := hide (fun (w2 : World) => rPub_any fa w2)
      have Hr := hide (show o = tPub (pickO ms a) from Ho.out)
      clear hm hk hf fa fb fc
      go_enter Tryz.func51, Tryz.ntmps51
      go_wp2_with (first
          | (go_at_call 22; (with_reducible refine (HA.out _ (by (repeat (first | exact Below.refl _ _ | refine below_drewN ?_ _ | refine Below.drew ?_ | refine Below.alloc ?_ (by first | omega | (simp; done) | (simp; omega)) _ | refine Below.setCell ?_ (by first | omega | (simp; done) | (simp; omega)) _ | refine bel_alloc ?_ _ | refine bel_trans ?_ (by assumption) | refine Below.trans ?_ (Below.mono (by assumption) (by first | omega | (simp; done) | (simp; omega))))))).mono ?_); rintro e w1 ⟨n1, rfl, hn1, hb1⟩; obtain ⟨hc1, hf1⟩ := bcell hb1; have hz1 : w.heap.size + 1 < w1.heap.size := (by have := hb1.size; (try simp at this); omega); have hy1 : w.heap.size < w1.heap.size := (by omega))
          | (go_at_call 22; (with_reducible refine (HB.out _ (by (repeat (first | exact Below.refl _ _ | refine below_drewN ?_ _ | refine Below.drew ?_ | refine Below.alloc ?_ (by first | omega | (simp; done) | (simp; omega)) _ | refine Below.setCell ?_ (by first | omega | (simp; done) | (simp; omega)) _ | refine bel_alloc ?_ _ | refine bel_trans ?_ (by assumption) | refine Below.trans ?_ (Below.mono (by assumption) (by first | omega | (simp; done) | (simp; omega))))))).mono ?_); rintro e w2 ⟨n2, rfl, hn2, hb2⟩; obtain ⟨hc2, hf2⟩ := bcell hb2; have hz2 : w.heap.size + 1 < w2.heap.size := (by have := hb2.size; (try simp at this); omega); have hy2 : w.heap.size < w2.heap.size := (by omega))
          | (go_at_call 22; (with_reducible refine (HC.out _ (by (repeat (first | exact Below.refl _ _ | refine below_drewN ?_ _ | refine Below.drew ?_ | refine Below.alloc ?_ (by first | omega | (simp; done) | (simp; omega)) _ | refine Below.setCell ?_ (by first | omega | (simp; done) | (simp; omega)) _ | refine bel_alloc ?_ _ | refine bel_trans ?_ (by assumption) | refine Below.trans ?_ (Below.mono (by assumption) (by first | omega | (simp; done) | (simp; omega))))))).mono ?_); rintro e w3 ⟨n3, rfl, hn3, hb3⟩; obtain ⟨hc3, hf3⟩ := bcell hb3; have hz3 : w.heap.size + 1 < w3.heap.size := (by have := hb3.size; (try simp at this); omega); have hy3 : w.heap.size < w3.heap.size := (by omega))
          | (go_at_call 64; refine (HM.out _).mono ?_; rintro e w9 ⟨rfl, hb9⟩))
      go_ret
      rw [Hr.out]
      exact ⟨rfl, by (repeat (first | exact Below.refl _ _ | refine below_drewN ?_ _ | refine Below.drew ?_ | refine Below.alloc ?_ (by first | omega | (simp; done) | (simp; omega)) _ | refine Below.setCell ?_ (by first | omega | (simp; done) | (simp; omega)) _ | refine bel_alloc ?_ _ | refine bel_trans ?_ (by assumption) | refine Below.trans ?_ (Below.mono (by assumption) (by first | omega | (simp; done) | (simp; omega)))))⟩
    · by_cases h5 : a < 0
      · have HM := hide (fun (w2 : World) => rBase_s s w2 hs)
        have Hr := hide (show o = tBase s from by rw [Ho.out]; show (if a < 0 then _ else _) = _; rw [if_pos h5])
        clear hm hk hf fa fb fc
        go_enter Tryz.func51, Tryz.ntmps51
        go_wp2_with (first
            | (go_at_call 22; (with_reducible refine (HA.out _ (by (repeat (first | exact Below.refl _ _ | refine below_drewN ?_ _ | refine Below.drew ?_ | refine Below.alloc ?_ (by first | omega | (simp; done) | (simp; omega)) _ | refine Below.setCell ?_ (by first | omega | (simp; done) | (simp; omega)) _ | refine bel_alloc ?_ _ | refine bel_trans ?_ (by assumption) | refine Below.trans ?_ (Below.mono (by assumption) (by first | omega | (simp; done) | (simp; omega))))))).mono ?_); rintro e w1 ⟨n1, rfl, hn1, hb1⟩; obtain ⟨hc1, hf1⟩ := bcell hb1; have hz1 : w.heap.size + 1 < w1.heap.size := (by have := hb1.size; (try simp at this); omega); have hy1 : w.heap.size < w1.heap.size := (by omega))
            | (go_at_call 22; (with_reducible refine (HB.out _ (by (repeat (first | exact Below.refl _ _ | refine below_drewN ?_ _ | refine Below.drew ?_ | refine Below.alloc ?_ (by first | omega | (simp; done) | (simp; omega)) _ | refine Below.setCell ?_ (by first | omega | (simp; done) | (simp; omega)) _ | refine bel_alloc ?_ _ | refine bel_trans ?_ (by assumption) | refine Below.trans ?_ (Below.mono (by assumption) (by first | omega | (simp; done) | (simp; omega))))))).mono ?_); rintro e w2 ⟨n2, rfl, hn2, hb2⟩; obtain ⟨hc2, hf2⟩ := bcell hb2; have hz2 : w.heap.size + 1 < w2.heap.size := (by have := hb2.size; (try simp at this); omega); have hy2 : w.heap.size < w2.heap.size := (by omega))
            | (go_at_call 22; (with_reducible refine (HC.out _ (by (repeat (first | exact Below.refl _ _ | refine below_drewN ?_ _ | refine Below.drew ?_ | refine Below.alloc ?_ (by first | omega | (simp; done) | (simp; omega)) _ | refine Below.setCell ?_ (by first | omega | (simp; done) | (simp; omega)) _ | refine bel_alloc ?_ _ | refine bel_trans ?_ (by assumption) | refine Below.trans ?_ (Below.mono (by assumption) (by first | omega | (simp; done) | (simp; omega))))))).mono ?_); rintro e w3 ⟨n3, rfl, hn3, hb3⟩; obtain ⟨hc3, hf3⟩ := bcell hb3; have hz3 : w.heap.size + 1 < w3.heap.size := (by have := hb3.size; (try simp at this); omega); have hy3 : w.heap.size < w3.heap.size := (by omega))
            | (go_at_call 84; refine (HM.out _).mono ?_; rintro e w9 ⟨rfl, hb9⟩))
        go_ret
        rw [Hr.out]
        exact ⟨rfl, by (repeat (first | exact Below.refl _ _ | refine below_drewN ?_ _ | refine Below.drew ?_ | refine Below.alloc ?_ (by first | omega | (simp; done) | (simp; omega)) _ | refine Below.setCell ?_ (by first | omega | (simp; done) | (simp; omega)) _ | refine bel_alloc ?_ _ | refine bel_trans ?_ (by assumption) | refine Below.trans ?_ (Below.mono (by assumption) (by first | omega | (simp; done) | (simp; omega)))))⟩
      · have HM := hide (fun (w2 : World) => rExp_any fa fb w2)
        have Hr := hide (show o = tExp (pickO ms a) (pickO ms b) from by rw [Ho.out]; show (if a < 0 then _ else _) = _; rw [if_neg h5])
        clear hm hk hf fa fb fc
        go_enter Tryz.func51, Tryz.ntmps51
        go_wp2_with (first
            | (go_at_call 22; (with_reducible refine (HA.out _ (by (repeat (first | exact Below.refl _ _ | refine below_drewN ?_ _ | refine Below.drew ?_ | refine Below.alloc ?_ (by first | omega | (simp; done) | (simp; omega)) _ | refine Below.setCell ?_ (by first | omega | (simp; done) | (simp; omega)) _ | refine bel_alloc ?_ _ | refine bel_trans ?_ (by assumption) | refine Below.trans ?_ (Below.mono (by assumption) (by first | omega | (simp; done) | (simp; omega))))))).mono ?_); rintro e w1 ⟨n1, rfl, hn1, hb1⟩; obtain ⟨hc1, hf1⟩ := bcell hb1; have hz1 : w.heap.size + 1 < w1.heap.size := (by have := hb1.size; (try simp at this); omega); have hy1 : w.heap.size < w1.heap.size := (by omega))
            | (go_at_call 22; (with_reducible refine (HB.out _ (by (repeat (first | exact Below.refl _ _ | refine below_drewN ?_ _ | refine Below.drew ?_ | refine Below.alloc ?_ (by first | omega | (simp; done) | (simp; omega)) _ | refine Below.setCell ?_ (by first | omega | (simp; done) | (simp; omega)) _ | refine bel_alloc ?_ _ | refine bel_trans ?_ (by assumption) | refine Below.trans ?_ (Below.mono (by assumption) (by first | omega | (simp; done) | (simp; omega))))))).mono ?_); rintro e w2 ⟨n2, rfl, hn2, hb2⟩; obtain ⟨hc2, hf2⟩ := bcell hb2; have hz2 : w.heap.size + 1 < w2.heap.size := (by have := hb2.size; (try simp at this); omega); have hy2 : w.heap.size < w2.heap.size := (by omega))
            | (go_at_call 22; (with_reducible refine (HC.out _ (by (repeat (first | exact Below.refl _ _ | refine below_drewN ?_ _ | refine Below.drew ?_ | refine Below.alloc ?_ (by first | omega | (simp; done) | (simp; omega)) _ | refine Below.setCell ?_ (by first | omega | (simp; done) | (simp; omega)) _ | refine bel_alloc ?_ _ | refine bel_trans ?_ (by assumption) | refine Below.trans ?_ (Below.mono (by assumption) (by first | omega | (simp; done) | (simp; omega))))))).mono ?_); rintro e w3 ⟨n3, rfl, hn3, hb3⟩; obtain ⟨hc3, hf3⟩ := bcell hb3; have hz3 : w.heap.size + 1 < w3.heap.size := (by have := hb3.size; (try simp at this); omega); have hy3 : w.heap.size < w3.heap.size := (by omega))
            | (go_at_call 85; refine (HM.out _).mono ?_; rintro e w9 ⟨rfl, hb9⟩))
        go_ret
        rw [Hr.out]
        exact ⟨rfl, by (repeat (first | exact Below.refl _ _ | refine below_drewN ?_ _ | refine Below.drew ?_ | refine Below.alloc ?_ (by first | omega | (simp; done) | (simp; omega)) _ | refine Below.setCell ?_ (by first | omega | (simp; done) | (simp; omega)) _ | refine bel_alloc ?_ _ | refine bel_trans ?_ (by assumption) | refine Below.trans ?_ (Below.mono (by assumption) (by first | omega | (simp; done) | (simp; omega)))))⟩
    · have HM := hide (fun (w2 : World) => rSign_s s fa fb w2 hs)
      have Hr := hide (show o = tSign s (pickO ms a) (pickO ms b) from Ho.out)
      clear hm hk hf fa fb fc
      go_enter Tryz.func51, Tryz.ntmps51
      go_wp2_with (first
          | (go_at_call 22; (with_reducible refine (HA.out _ (by (repeat (first | exact Below.refl _ _ | refine below_drewN ?_ _ | refine Below.drew ?_ | refine Below.alloc ?_ (by first | omega | (simp; done) | (simp; omega)) _ | refine Below.setCell ?_ (by first | omega | (simp; done) | (simp; omega)) _ | refine bel_alloc ?_ _ | refine bel_trans ?_ (by assumption) | refine Below.trans ?_ (Below.mono (by assumption) (by first | omega | (simp; done) | (simp; omega))))))).mono ?_); rintro e w1 ⟨n1, rfl, hn1, hb1⟩; obtain ⟨hc1, hf1⟩ := bcell hb1; have hz1 : w.heap.size + 1 < w1.heap.size := (by have := hb1.size; (try simp at this); omega); have hy1 : w.heap.size < w1.heap.size := (by omega))
          | (go_at_call 22; (with_reducible refine (HB.out _ (by (repeat (first | exact Below.refl _ _ | refine below_drewN ?_ _ | refine Below.drew ?_ | refine Below.alloc ?_ (by first | omega | (simp; done) | (simp; omega)) _ | refine Below.setCell ?_ (by first | omega | (simp; done) | (simp; omega)) _ | refine bel_alloc ?_ _ | refine bel_trans ?_ (by assumption) | refine Below.trans ?_ (Below.mono (by assumption) (by first | omega | (simp; done) | (simp; omega))))))).mono ?_); rintro e w2 ⟨n2, rfl, hn2, hb2⟩; obtain ⟨hc2, hf2⟩ := bcell hb2; have hz2 : w.heap.size + 1 < w2.heap.size := (by have := hb2.size; (try simp at this); omega); have hy2 : w.heap.size < w2.heap.size := (by omega))
          | (go_at_call 22; (with_reducible refine (HC.out _ (by (repeat (first | exact Below.refl _ _ | refine below_drewN ?_ _ | refine Below.drew ?_ | refine Below.alloc ?_ (by first | omega | (simp; done) | (simp; omega)) _ | refine Below.setCell ?_ (by first | omega | (simp; done) | (simp; omega)) _ | refine bel_alloc ?_ _ | refine bel_trans ?_ (by assumption) | refine Below.trans ?_ (Below.mono (by assumption) (by first | omega | (simp; done) | (simp; omega))))))).mono ?_); rintro e w3 ⟨n3, rfl, hn3, hb3⟩; obtain ⟨hc3, hf3⟩ := bcell hb3; have hz3 : w.heap.size + 1 < w3.heap.size := (by have := hb3.size; (try simp at this); omega); have hy3 : w.heap.size < w3.heap.size := (by omega))
          | (go_at_call 62; refine (HM.out _).mono ?_; rintro e w9 ⟨rfl, hb9⟩))
      go_ret
      rw [Hr.out]
      exact ⟨rfl, by (repeat (first | exact Below.refl _ _ | refine below_drewN ?_ _ | refine Below.drew ?_ | refine Below.alloc ?_ (by first | omega | (simp; done) | (simp; omega)) _ | refine Below.setCell ?_ (by first | omega | (simp; done) | (simp; omega)) _ | refine bel_alloc ?_ _ | refine bel_trans ?_ (by assumption) | refine Below.trans ?_ (Below.mono (by assumption) (by first | omega | (simp; done) | (simp; omega)))))⟩
    · have HM := hide (fun (w2 : World) => rHash_any fa w2)
      have Hr := hide (show o = tHash (pickO ms a) from Ho.out)
      clear hm hk hf fa fb fc
      go_enter Tryz.func51, Tryz.ntmps51
      go_wp2_with (first
          | (go_at_call 22; (with_reducible refine (HA.out _ (by (repeat (first | exact Below.refl _ _ | refine below_drewN ?_ _ | refine Below.drew ?_ | refine Below.alloc ?_ (by first | omega | (simp; done) | (simp; omega)) _ | refine Below.setCell ?_ (by first | omega | (simp; done) | (simp; omega)) _ | refine bel_alloc ?_ _ | refine bel_trans ?_ (by assumption) | refine Below.trans ?_ (Below.mono (by assumption) (by first | omega | (simp; done) | (simp; omega))))))).mono ?_); rintro e w1 ⟨n1, rfl, hn1, hb1⟩; obtain ⟨hc1, hf1⟩ := bcell hb1; have hz1 : w.heap.size + 1 < w1.heap.size := (by have := hb1.size; (try simp at this); omega); have hy1 : w.heap.size < w1.heap.size := (by omega))
          | (go_at_call 22; (with_reducible refine (HB.out _ (by (repeat (first | exact Below.refl _ _ | refine below_drewN ?_ _ | refine Below.drew ?_ | refine Below.alloc ?_ (by first | omega | (simp; done) | (simp; omega)) _ | refine Below.setCell ?_ (by first | omega | (simp; done) | (simp; omega)) _ | refine bel_alloc ?_ _ | refine bel_trans ?_ (by assumption) | refine Below.trans ?_ (Below.mono (by assumption) (by first | omega | (simp; done) | (simp; omega))))))).mono ?_); rintro e w2 ⟨n2, rfl, hn2, hb2⟩; obtain ⟨hc2, hf2⟩ := bcell hb2; have hz2 : w.heap.size + 1 < w2.heap.size := (by have := hb2.size; (try simp at this); omega); have hy2 : w.heap.size < w2.heap.size := (by omega))
          | (go_at_call 22; (with_reducible refine (HC.out _ (by (repeat (first | exact Below.refl _ _ | refine below_drewN ?_ _ | refine Below.drew ?_ | refine Below.alloc ?_ (by first | omega | (simp; done) | (simp; omega)) _ | refine Below.setCell ?_ (by first | omega | (simp; done) | (simp; omega)) _ | refine bel_alloc ?_ _ | refine bel_trans ?_ (by assumption) | refine Below.trans ?_ (Below.mono (by assumption) (by first | omega | (simp; done) | (simp; omega))))))).mono ?_); rintro e w3 ⟨n3, rfl, hn3, hb3⟩; obtain ⟨hc3, hf3⟩ := bcell hb3; have hz3 : w.heap.size + 1 < w3.heap.size := (by have := hb3.size; (try simp at this); omega); have hy3 : w.heap.size < w3.heap.size := (by omega))
          | (go_at_call 75; refine (HM.out _).mono ?_; rintro e w9 ⟨rfl, hb9⟩))
      go_ret
      rw [Hr.out]
      exact ⟨rfl, by (repeat (first | exact Below.refl _ _ | refine below_drewN ?_ _ | refine Below.drew ?_ | refine Below.alloc ?_ (by first | omega | (simp; done) | (simp; omega)) _ | refine Below.setCell ?_ (by first | omega | (simp; done) | (simp; omega)) _ | refine bel_alloc ?_ _ | refine bel_trans ?_ (by assumption) | refine Below.trans ?_ (Below.mono (by assumption) (by first | omega | (simp; done) | (simp; omega)))))⟩
    · have HM := hide (fun (w2 : World) => rDerive_any (letterO s) (letterO_s s) fa fb fc w2)
      have Hr := hide (show o = tDerive (letterO s) (pickO ms a) (pickO ms b) (pickO ms c) from Ho.out)
      clear hm hk hf fa fb fc
      go_enter Tryz.func51, Tryz.ntmps51
      go_wp2_with (first
          | (go_at_call 22; (with_reducible refine (HA.out _ (by (repeat (first | exact Below.refl _ _ | refine below_drewN ?_ _ | refine Below.drew ?_ | refine Below.alloc ?_ (by first | omega | (simp; done) | (simp; omega)) _ | refine Below.setCell ?_ (by first | omega | (simp; done) | (simp; omega)) _ | refine bel_alloc ?_ _ | refine bel_trans ?_ (by assumption) | refine Below.trans ?_ (Below.mono (by assumption) (by first | omega | (simp; done) | (simp; omega))))))).mono ?_); rintro e w1 ⟨n1, rfl, hn1, hb1⟩; obtain ⟨hc1, hf1⟩ := bcell hb1; have hz1 : w.heap.size + 1 < w1.heap.size := (by have := hb1.size; (try simp at this); omega); have hy1 : w.heap.size < w1.heap.size := (by omega))
          | (go_at_call 22; (with_reducible refine (HB.out _ (by (repeat (first | exact Below.refl _ _ | refine below_drewN ?_ _ | refine Below.drew ?_ | refine Below.alloc ?_ (by first | omega | (simp; done) | (simp; omega)) _ | refine Below.setCell ?_ (by first | omega | (simp; done) | (simp; omega)) _ | refine bel_alloc ?_ _ | refine bel_trans ?_ (by assumption) | refine Below.trans ?_ (Below.mono (by assumption) (by first | omega | (simp; done) | (simp; omega))))))).mono ?_); rintro e w2 ⟨n2, rfl, hn2, hb2⟩; obtain ⟨hc2, hf2⟩ := bcell hb2; have hz2 : w.heap.size + 1 < w2.heap.size := (by have := hb2.size; (try simp at this); omega); have hy2 : w.heap.size < w2.heap.size := (by omega))
          | (go_at_call 22; (with_reducible refine (HC.out _ (by (repeat (first | exact Below.refl _ _ | refine below_drewN ?_ _ | refine Below.drew ?_ | refine Below.alloc ?_ (by first | omega | (simp; done) | (simp; omega)) _ | refine Below.setCell ?_ (by first | omega | (simp; done) | (simp; omega)) _ | refine bel_alloc ?_ _ | refine bel_trans ?_ (by assumption) | refine Below.trans ?_ (Below.mono (by assumption) (by first | omega | (simp; done) | (simp; omega))))))).mono ?_); rintro e w3 ⟨n3, rfl, hn3, hb3⟩; obtain ⟨hc3, hf3⟩ := bcell hb3; have hz3 : w.heap.size + 1 < w3.heap.size := (by have := hb3.size; (try simp at this); omega); have hy3 : w.heap.size < w3.heap.size := (by omega))
          | (go_at_call 80; refine (HL.out _).mono ?_; rintro e w4 ⟨rfl, hb4⟩)
          | (go_at_call 86; refine (HM.out _).mono ?_; rintro e w9 ⟨rfl, hb9⟩))
      go_ret
      rw [Hr.out]
      exact ⟨rfl, by (repeat (first | exact Below.refl _ _ | refine below_drewN ?_ _ | refine Below.drew ?_ | refine Below.alloc ?_ (by first | omega | (simp; done) | (simp; omega)) _ | refine Below.setCell ?_ (by first | omega | (simp; done) | (simp; omega)) _ | refine bel_alloc ?_ _ | refine bel_trans ?_ (by assumption) | refine Below.trans ?_ (Below.mono (by assumption) (by first | omega | (simp; done) | (simp; omega)))))⟩
    · have HM := hide (fun (w2 : World) => rSeal_at (IntKind.u32.wrap c) (c % 4294967296).toNat (u32w c) (by omega) fa fb w2)
      have Hr := hide (show o = tSeal (c % 4294967296).toNat (pickO ms a) (pickO ms b) from Ho.out)
      clear hm hk hf fa fb fc
      go_enter Tryz.func51, Tryz.ntmps51
      go_wp2_with (first
          | (go_at_call 22; (with_reducible refine (HA.out _ (by (repeat (first | exact Below.refl _ _ | refine below_drewN ?_ _ | refine Below.drew ?_ | refine Below.alloc ?_ (by first | omega | (simp; done) | (simp; omega)) _ | refine Below.setCell ?_ (by first | omega | (simp; done) | (simp; omega)) _ | refine bel_alloc ?_ _ | refine bel_trans ?_ (by assumption) | refine Below.trans ?_ (Below.mono (by assumption) (by first | omega | (simp; done) | (simp; omega))))))).mono ?_); rintro e w1 ⟨n1, rfl, hn1, hb1⟩; obtain ⟨hc1, hf1⟩ := bcell hb1; have hz1 : w.heap.size + 1 < w1.heap.size := (by have := hb1.size; (try simp at this); omega); have hy1 : w.heap.size < w1.heap.size := (by omega))
          | (go_at_call 22; (with_reducible refine (HB.out _ (by (repeat (first | exact Below.refl _ _ | refine below_drewN ?_ _ | refine Below.drew ?_ | refine Below.alloc ?_ (by first | omega | (simp; done) | (simp; omega)) _ | refine Below.setCell ?_ (by first | omega | (simp; done) | (simp; omega)) _ | refine bel_alloc ?_ _ | refine bel_trans ?_ (by assumption) | refine Below.trans ?_ (Below.mono (by assumption) (by first | omega | (simp; done) | (simp; omega))))))).mono ?_); rintro e w2 ⟨n2, rfl, hn2, hb2⟩; obtain ⟨hc2, hf2⟩ := bcell hb2; have hz2 : w.heap.size + 1 < w2.heap.size := (by have := hb2.size; (try simp at this); omega); have hy2 : w.heap.size < w2.heap.size := (by omega))
          | (go_at_call 22; (with_reducible refine (HC.out _ (by (repeat (first | exact Below.refl _ _ | refine below_drewN ?_ _ | refine Below.drew ?_ | refine Below.alloc ?_ (by first | omega | (simp; done) | (simp; omega)) _ | refine Below.setCell ?_ (by first | omega | (simp; done) | (simp; omega)) _ | refine bel_alloc ?_ _ | refine bel_trans ?_ (by assumption) | refine Below.trans ?_ (Below.mono (by assumption) (by first | omega | (simp; done) | (simp; omega))))))).mono ?_); rintro e w3 ⟨n3, rfl, hn3, hb3⟩; obtain ⟨hc3, hf3⟩ := bcell hb3; have hz3 : w.heap.size + 1 < w3.heap.size := (by have := hb3.size; (try simp at this); omega); have hy3 : w.heap.size < w3.heap.size := (by omega))
          | (go_at_call 87; refine (HM.out _).mono ?_; rintro e w9 ⟨rfl, hb9⟩))
      go_ret
      rw [Hr.out]
      exact ⟨rfl, by (repeat (first | exact Below.refl _ _ | refine below_drewN ?_ _ | refine Below.drew ?_ | refine Below.alloc ?_ (by first | omega | (simp; done) | (simp; omega)) _ | refine Below.setCell ?_ (by first | omega | (simp; done) | (simp; omega)) _ | refine bel_alloc ?_ _ | refine bel_trans ?_ (by assumption) | refine Below.trans ?_ (Below.mono (by assumption) (by first | omega | (simp; done) | (simp; omega)))))⟩
    · have HR := hide (fun (w2 : World) (hb : Below w.heap.size w w2) => run_any (hm.below hb) a b (by omega))
      have hrl : (runO ms a b).length ≤ 40 := by unfold runO; split <;> simp; omega
      have hrf : ∀ o ∈ runO ms a b, fineO o := fun o ho => by
        unfold runO at ho
        split at ho
        · exact hf o (List.mem_of_mem_drop (List.mem_of_mem_take (List.mem_of_mem_take ho)))
        · cases ho
      have HM := hide (fun (w2 : World) (v : Value) (hS : Txs w2 v ((runO ms a b).map txt)) => rList_any hS hrf (by omega))
      have Hr := hide (show o = tList (runO ms a b) from Ho.out)
      clear hm hk hf fa fb fc hrf
      go_enter Tryz.func51, Tryz.ntmps51
      go_wp2_with (first
          | (go_at_call 22; (with_reducible refine (HA.out _ (by (repeat (first | exact Below.refl _ _ | refine below_drewN ?_ _ | refine Below.drew ?_ | refine Below.alloc ?_ (by first | omega | (simp; done) | (simp; omega)) _ | refine Below.setCell ?_ (by first | omega | (simp; done) | (simp; omega)) _ | refine bel_alloc ?_ _ | refine bel_trans ?_ (by assumption) | refine Below.trans ?_ (Below.mono (by assumption) (by first | omega | (simp; done) | (simp; omega))))))).mono ?_); rintro e w1 ⟨n1, rfl, hn1, hb1⟩; obtain ⟨hc1, hf1⟩ := bcell hb1; have hz1 : w.heap.size + 1 < w1.heap.size := (by have := hb1.size; (try simp at this); omega); have hy1 : w.heap.size < w1.heap.size := (by omega))
          | (go_at_call 22; (with_reducible refine (HB.out _ (by (repeat (first | exact Below.refl _ _ | refine below_drewN ?_ _ | refine Below.drew ?_ | refine Below.alloc ?_ (by first | omega | (simp; done) | (simp; omega)) _ | refine Below.setCell ?_ (by first | omega | (simp; done) | (simp; omega)) _ | refine bel_alloc ?_ _ | refine bel_trans ?_ (by assumption) | refine Below.trans ?_ (Below.mono (by assumption) (by first | omega | (simp; done) | (simp; omega))))))).mono ?_); rintro e w2 ⟨n2, rfl, hn2, hb2⟩; obtain ⟨hc2, hf2⟩ := bcell hb2; have hz2 : w.heap.size + 1 < w2.heap.size := (by have := hb2.size; (try simp at this); omega); have hy2 : w.heap.size < w2.heap.size := (by omega))
          | (go_at_call 22; (with_reducible refine (HC.out _ (by (repeat (first | exact Below.refl _ _ | refine below_drewN ?_ _ | refine Below.drew ?_ | refine Below.alloc ?_ (by first | omega | (simp; done) | (simp; omega)) _ | refine Below.setCell ?_ (by first | omega | (simp; done) | (simp; omega)) _ | refine bel_alloc ?_ _ | refine bel_trans ?_ (by assumption) | refine Below.trans ?_ (Below.mono (by assumption) (by first | omega | (simp; done) | (simp; omega))))))).mono ?_); rintro e w3 ⟨n3, rfl, hn3, hb3⟩; obtain ⟨hc3, hf3⟩ := bcell hb3; have hz3 : w.heap.size + 1 < w3.heap.size := (by have := hb3.size; (try simp at this); omega); have hy3 : w.heap.size < w3.heap.size := (by omega))
          | (go_at_call 82; refine (HR.out _ (by (repeat (first | exact Below.refl _ _ | refine below_drewN ?_ _ | refine Below.drew ?_ | refine Below.alloc ?_ (by first | omega | (simp; done) | (simp; omega)) _ | refine Below.setCell ?_ (by first | omega | (simp; done) | (simp; omega)) _ | refine bel_alloc ?_ _ | refine bel_trans ?_ (by assumption) | refine Below.trans ?_ (Below.mono (by assumption) (by first | omega | (simp; done) | (simp; omega))))))).mono ?_; rintro e w4 ⟨u1, u2, ns, rfl, hI, hIn, hTx, hb4⟩)
          | (go_at_call 70; refine (HM.out _ _ hTx).mono ?_; rintro e w9 ⟨rfl, hb9⟩))
      go_ret
      rw [Hr.out]
      exact ⟨rfl, by (repeat (first | exact Below.refl _ _ | refine below_drewN ?_ _ | refine Below.drew ?_ | refine Below.alloc ?_ (by first | omega | (simp; done) | (simp; omega)) _ | refine Below.setCell ?_ (by first | omega | (simp; done) | (simp; omega)) _ | refine bel_alloc ?_ _ | refine bel_trans ?_ (by assumption) | refine Below.trans ?_ (Below.mono (by assumption) (by first | omega | (simp; done) | (simp; omega)))))⟩
  · have Hr := hide (show o = none from by
      rw [Ho.out]
      unfold mkO
      simp only
      repeat rw [if_neg (by omega)])
    have t1 : (k == 1) = false := beq_eq_false_iff_ne.2 (by omega)
    have t2 : (k == 2) = false := beq_eq_false_iff_ne.2 (by omega)
    have t3 : (k == 3) = false := beq_eq_false_iff_ne.2 (by omega)
    have t4 : (k == 4) = false := beq_eq_false_iff_ne.2 (by omega)
    have t5 : (k == 5) = false := beq_eq_false_iff_ne.2 (by omega)
    have t6 : (k == 6) = false := beq_eq_false_iff_ne.2 (by omega)
    have t7 : (k == 7) = false := beq_eq_false_iff_ne.2 (by omega)
    have t8 : (k == 8) = false := beq_eq_false_iff_ne.2 (by omega)
    have t9 : (k == 9) = false := beq_eq_false_iff_ne.2 (by omega)
    have t10 : (k == 10) = false := beq_eq_false_iff_ne.2 (by omega)
    clear hm hk hf fa fb fc
    go_enter Tryz.func51, Tryz.ntmps51
    go_wp2_with (first
      | (go_at_call 22; (with_reducible refine (HA.out _ (by (repeat (first | exact Below.refl _ _ | refine below_drewN ?_ _ | refine Below.drew ?_ | refine Below.alloc ?_ (by first | omega | (simp; done) | (simp; omega)) _ | refine Below.setCell ?_ (by first | omega | (simp; done) | (simp; omega)) _ | refine bel_alloc ?_ _ | refine bel_trans ?_ (by assumption) | refine Below.trans ?_ (Below.mono (by assumption) (by first | omega | (simp; done) | (simp; omega))))))).mono ?_); rintro e w1 ⟨n1, rfl, hn1, hb1⟩; obtain ⟨hc1, hf1⟩ := bcell hb1; have hz1 : w.heap.size + 1 < w1.heap.size := (by have := hb1.size; (try simp at this); omega); have hy1 : w.heap.size < w1.heap.size := (by omega))
      | (go_at_call 22; (with_reducible refine (HB.out _ (by (repeat (first | exact Below.refl _ _ | refine below_drewN ?_ _ | refine Below.drew ?_ | refine Below.alloc ?_ (by first | omega | (simp; done) | (simp; omega)) _ | refine Below.setCell ?_ (by first | omega | (simp; done) | (simp; omega)) _ | refine bel_alloc ?_ _ | refine bel_trans ?_ (by assumption) | refine Below.trans ?_ (Below.mono (by assumption) (by first | omega | (simp; done) | (simp; omega))))))).mono ?_); rintro e w2 ⟨n2, rfl, hn2, hb2⟩; obtain ⟨hc2, hf2⟩ := bcell hb2; have hz2 : w.heap.size + 1 < w2.heap.size := (by have := hb2.size; (try simp at this); omega); have hy2 : w.heap.size < w2.heap.size := (by omega))
      | (go_at_call 22; (with_reducible refine (HC.out _ (by (repeat (first | exact Below.refl _ _ | refine below_drewN ?_ _ | refine Below.drew ?_ | refine Below.alloc ?_ (by first | omega | (simp; done) | (simp; omega)) _ | refine Below.setCell ?_ (by first | omega | (simp; done) | (simp; omega)) _ | refine bel_alloc ?_ _ | refine bel_trans ?_ (by assumption) | refine Below.trans ?_ (Below.mono (by assumption) (by first | omega | (simp; done) | (simp; omega))))))).mono ?_); rintro e w3 ⟨n3, rfl, hn3, hb3⟩; obtain ⟨hc3, hf3⟩ := bcell hb3; have hz3 : w.heap.size + 1 < w3.heap.size := (by have := hb3.size; (try simp at this); omega); have hy3 : w.heap.size < w3.heap.size := (by omega)))
    go_ret
    rw [Hr.out]
    exact ⟨rfl, by (repeat (first | exact Below.refl _ _ | refine below_drewN ?_ _ | refine Below.drew ?_ | refine Below.alloc ?_ (by first | omega | (simp; done) | (simp; omega)) _ | refine Below.setCell ?_ (by first | omega | (simp; done) | (simp; omega)) _ | refine bel_alloc ?_ _ | refine bel_trans ?_ (by assumption) | refine Below.trans ?_ (Below.mono (by assumption) (by first | omega | (simp; done) | (simp; omega)))))⟩
end
end Go.Proofs.YtkpikfdfekggbaaGreatDoor
