/-
  The contracts of law07's Few, awake and Same (of equal messages). Conditions: messages whose slices fit.
-/
import Derived.Test.YtdhopoafpddjpaaDoorEncM
import Derived.Test.YtdhopoafpddjpaaDoorWrg
set_option linter.unusedVariables false
set_option linter.unusedSimpArgs false
namespace Go.Proofs.YtdhopoafpddjpaaDoor
open Go.RowKit Go.ChangeShapes Go.WideShapes Go.Sort
def FewF (x : Fld) : Prop := x.l.length ≤ 20 ∧ x.s.length ≤ 2000 ∧ ∀ y ∈ x.l, y.length ≤ 2000
theorem FewF.sz {x : Fld} (h : FewF x) : SzF x := ⟨by have := h.2.1; omega, by have := h.1; omega, fun y hy => by have := h.2.2 y hy; omega⟩
theorem FewF.fit {x : Fld} (h : FewF x) : fitF x := ⟨by have := h.2.1; omega, fun y hy => by have := h.2.2 y hy; omega⟩
theorem take_all {α : Type} {P : α → Prop} {l : List α} {i : Nat} (h : ∀ x ∈ l.take i, P x) (hi : i < l.length) (hp : P l[i]) : ∀ x ∈ l.take (i + 1), P x := by
  intro x hx
  rw [List.take_succ_eq_append_getElem hi] at hx
  rcases List.mem_append.1 hx with hx | hx
  · exact h x hx
  · simp only [List.mem_singleton] at hx
    subst hx
    exact hp
/-- What Few answers. -/
def FewP (l : List Fld) (w : World) (e : Ending) (w' : World) : Prop := ∃ b, e = .returned (.bool b) ∧ Below w.heap.size w w' ∧ (b = true → l.length ≤ 20 ∧ ∀ x ∈ l, FewF x)
theorem FewP.no {l : List Fld} {w w' : World} (h : Below w.heap.size w w') : FewP l w (.returned (.bool false)) w' := ⟨false, rfl, h, fun h => by cases h⟩
section
variable {w : World}
set_option maxHeartbeats 8000000 in
set_option maxRecDepth 100000 in
theorem few_any (num : Int) {l : List Fld} {A : Option Addr} {c : Nat} (hl : Flds w A l) (hll : l.length ≤ maxLen) (hf : ∀ x ∈ l, FldFit x) :
    Calls Tryd.prog 6 #[.agg #[.int .i64 num, .slice A l.length c], .int .i64 2000] w (FewP l w) := by
  obtain ⟨W0, hW0⟩ : ∃ W0, W0 = w.alloc (.cells #[.int .i64 num, .slice A l.length c] 24) := ⟨_, rfl⟩
  have hb0 : Below w.heap.size w W0 := by rw [hW0]; (repeat (first | exact Below.refl _ _ | refine below_drewN ?_ _ | refine Below.drew ?_ | refine Below.alloc ?_ (by first | omega | (simp; done) | (simp; omega)) _ | refine Below.setCell ?_ (by first | omega | (simp; done) | (simp; omega)) _ | refine bel_alloc ?_ _ | refine bel_trans ?_ (by assumption) | refine Below.trans ?_ (Below.mono (by assumption) (by first | omega | (simp; done) | (simp; omega)))))
  have hM0 : Blk W0 w.heap.size 24 #[.int .i64 num, .slice A l.length c] := by rw [hW0]; exact Blk.new w _ _
  have m1 := hM0.cell 1
  simp at m1
  have HL := hide (hl.below hb0)
  have Hf := hide hf
  have Hb0 := hide hb0
  unfold maxLen at hll
  by_cases h20 : 20 < l.length
  · have h20' : (20 : Int) < l.length := by omega
    clear hl hf hb0 hM0
    go_enter Tryd.func6, Tryd.ntmps6
    go_upto_region 1 with fail
    rw [← hW0]
    clear hW0
    go_wp2_with fail
    go_ret
    exact FewP.no Hb0.out
  · have h20' : ¬ (20 : Int) < l.length := by omega
    have h20n : l.length ≤ 20 := by omega
    clear hl hf hb0 hM0 h20
    go_enter Tryd.func6, Tryd.ntmps6
    go_upto_region 1 with fail
    rw [← hW0]
    clear hW0
    go_wp2_with fail
    go_loop [5, 6] (fun vn vi => ∃ i n : Nat, vn = .int .i64 n ∧ vi = .int .i64 i ∧ i ≤ l.length ∧ n ≤ i * 42000 ∧ Hid (∀ x ∈ l.take i, FewF x)) (fun _ vi => l.length - (intOf vi).toNat)
    case atStart => exact ⟨0, 0, rfl, rfl, Nat.zero_le _, Nat.zero_le _, hide (by simp)⟩
    case round =>
      obtain ⟨i, n, rfl, rfl, hi, hn, H⟩ := hrel
      by_cases hlt : i < l.length
      · have hiI : (i : Int) < l.length := by omega
        obtain ⟨ad, A2, c2, rfl, q0, q1, q2, q3, hTx, hc2, hk⟩ := flds_at HL.out hlt
        have hff := Hf.out _ (List.getElem_mem hlt)
        have hs63 := hff.s
        have hl63 := hff.ll
        unfold maxLen at hs63 hl63
        have Hff := hide hff.l
        have HN := hide (fun (h : FewF l[i]) => take_all H.out hlt h)
        generalize l[i] = x at q0 q1 q2 q3 hTx hc2 hk hs63 hl63 Hff HN
        clear hff
        have hsz : (bs x.s).size = x.s.length := rfl
        by_cases hxl : 20 < x.l.length
        · have hxl' : (20 : Int) < x.l.length := by omega
          clear hTx
          go_wp2_with fail
          go_ret
          exact FewP.no Hb0.out
        · have hxl' : ¬ (20 : Int) < x.l.length := by omega
          by_cases hxs : 2000 < x.s.length
          · have hxs' : (2000 : Int) < (bs x.s).size := by rw [hsz]; omega
            have hxs2 : (2000 : Int) < x.s.length := by omega
            clear hTx
            go_wp2_with fail
            go_ret
            exact FewP.no Hb0.out
          · have hxs' : ¬ (2000 : Int) < (bs x.s).size := by rw [hsz]; omega
            have hxs2 : ¬ (2000 : Int) < x.s.length := by omega
            have HT := hide hTx
            have Hx2 := hide (show x.l.length ≤ 20 ∧ x.s.length ≤ 2000 from ⟨by omega, by omega⟩)
            have hns : n + x.s.length ≤ i * 42000 + 2000 := by omega
            have hi20 : i * 42000 ≤ 840000 := by omega
            have hw : IntKind.i64.wrap ((n : Int) + x.s.length) = ((n + x.s.length : Nat) : Int) := by rw [wrap_small _ (by omega) (by omega)]; omega
            clear hTx
            go_wp2_with fail
            go_loop [5, 7] (fun vn vk => ∃ k m : Nat, vn = .int .i64 m ∧ vk = .int .i64 k ∧ k ≤ x.l.length ∧ m ≤ i * 42000 + 2000 + k * 2000 ∧ Hid (∀ y ∈ x.l.take k, y.length ≤ 2000)) (fun _ vk => x.l.length - (intOf vk).toNat)
            case atStart => exact ⟨0, n + x.s.length, by first | rfl | go_num, rfl, Nat.zero_le _, by omega, hide (by simp)⟩
            case round =>
              obtain ⟨k, m, rfl, rfl, hkk, hm, Hy⟩ := hrel
              by_cases hkl : k < x.l.length
              · have hkI : (k : Int) < x.l.length := by omega
                obtain ⟨A', c', hv, hA⟩ := HT.out.open_
                obtain ⟨rfl, rfl⟩ : A' = A2 ∧ c' = c2 := by injection hv with e1 _ e2; exact ⟨e1.symm, e2.symm⟩
                obtain ⟨a1, rfl, _, hc1⟩ := hA k hkl
                have hyl := Hff.out _ (List.getElem_mem hkl)
                unfold maxLen at hyl
                have HN2 := hide (fun (h : x.l[k].length ≤ 2000) => take_all Hy.out hkl h)
                generalize x.l[k] = y at hc1 hyl HN2
                have hyz : (bs y).size = y.length := rfl
                clear hA hv
                by_cases hy2 : 2000 < y.length
                · have hy' : (2000 : Int) < (bs y).size := by rw [hyz]; omega
                  have hy3 : (2000 : Int) < y.length := by omega
                  go_wp2_with fail
                  go_ret
                  exact FewP.no Hb0.out
                · have hy' : ¬ (2000 : Int) < (bs y).size := by rw [hyz]; omega
                  have hy3 : ¬ (2000 : Int) < y.length := by omega
                  have hw2 : IntKind.i64.wrap ((m : Int) + y.length) = ((m + y.length : Nat) : Int) := by rw [wrap_small _ (by omega) (by omega)]; omega
                  go_wp2_with fail
                  go_round
                  case rel => exact ⟨k + 1, m + y.length, by first | rfl | go_num, by first | rfl | go_num, by omega, by omega, hide (HN2.out (by omega))⟩
                  case measure => simp [intOf]; omega
              · have hkI : ¬ (k : Int) < x.l.length := by omega
                have hke : k = x.l.length := by omega
                have HNF := hide (HN.out ⟨Hx2.out.1, Hx2.out.2, fun y hy => Hy.out y (by rw [List.take_of_length_le (by omega)]; exact hy)⟩)
                go_wp2_with fail
                go_round
                case rel => exact ⟨i + 1, m, rfl, by first | rfl | go_num, by omega, by omega, HNF⟩
                case measure => simp [intOf]; omega
      · have hiI : ¬ (i : Int) < l.length := by omega
        have HR := hide (show l.length ≤ 20 ∧ ∀ x ∈ l, FewF x from ⟨h20n, fun x hx => H.out x (by rw [List.take_of_length_le (by omega)]; exact hx)⟩)
        go_wp2_with fail
        go_ret
        exact ⟨_, rfl, Hb0.out, fun _ => HR.out⟩
theorem flds_one {W : World} {b k : Nat} {n : Int} {s : List UInt8} (h : Blk W b 28 #[.int .u8 k, .int .i64 n, .string (bs s), .slice none 0 0]) (hk : k < 256) : Flds W (some ⟨b, 0, none⟩) [⟨k, n, s, []⟩] := by
  refine ⟨fun i x hx => ?_⟩
  cases i with
  | succ i => simp at hx
  | zero =>
    simp only [List.getElem?_cons_zero, Option.some.injEq] at hx
    subst hx
    refine ⟨⟨b, 0, none⟩, .slice none 0 0, rfl, h.lt, ?_⟩
    rw [Nat.zero_mul, add_zero_]
    exact ⟨h.cell 0, h.cell 1, h.cell 2, h.cell 3, txc_nil W 0, hk⟩
theorem enc_awake : encS 3 [⟨117, 7, [], []⟩] = .ok [3, 0, 0, 0, 7] := by kernel_rfl
theorem awake07_any (w : World) : Calls Tryd.prog 4 #[] w (fun e w' => e = .returned (.bool true) ∧ Below w.heap.size w w') := by
  have hF := flds_one (k := 117) (n := 7) (s := []) (Blk.new w 28 #[.int .u8 117, .int .i64 7, .string ⟨#[]⟩, .slice none 0 0]) (by decide)
  have HE := hide (encode_anyM (w := w.alloc (.cells #[.int .u8 117, .int .i64 7, .string ⟨#[]⟩, .slice none 0 0] 28)) 3 (c := 1) hF (fun x hx => by simp only [List.mem_singleton] at hx; subst hx; exact ⟨by simp, by simp, by simp⟩) (by simp))
  have h5 : ((bs [3, 0, 0, 0, 7]).toList == (⟨#[3, 0, 0, 0, 7]⟩ : ByteArray).toList) = true := by decide +kernel
  have h6 : ((bs [3, 0, 0, 0, 7]).toList == [3, 0, 0, 0, 7]) = true := by decide +kernel
  generalize hb5 : bs [3, 0, 0, 0, 7] = b5 at h5 h6
  have Hb5 := hide hb5
  clear hF hb5
  go_enter Tryd.func4, Tryd.ntmps4
  go_wp2_with fail
  refine HE.out.mono ?_
  rintro e w1 ⟨hb1, ⟨s, hs, rfl⟩ | ⟨b, ps, k, he, rfl, _⟩⟩
  · rw [enc_awake] at hs
    cases hs
    rw [Hb5.out]
    go_wp2_with fail
    go_ret
    exact ⟨rfl, by (repeat (first | exact Below.refl _ _ | refine below_drewN ?_ _ | refine Below.drew ?_ | refine Below.alloc ?_ (by first | omega | (simp; done) | (simp; omega)) _ | refine Below.setCell ?_ (by first | omega | (simp; done) | (simp; omega)) _ | refine bel_alloc ?_ _ | refine bel_trans ?_ (by assumption) | refine Below.trans ?_ (Below.mono (by assumption) (by first | omega | (simp; done) | (simp; omega)))))⟩
  · rw [enc_awake] at he
    cases he
end
end Go.Proofs.YtdhopoafpddjpaaDoor
