/-
  The contracts of sign's Owner and of the reference's. Conditions: terms that fit.
-/
import Derived.Test.YtephdodkijanmaaGreatDoorSign
import Derived.Test.YtephdodkijanmaaGreatDoorRdrE
import Derived.Test.YtephdodkijanmaaGreatDoorParseE
set_option linter.unusedVariables false
set_option linter.unusedSimpArgs false
namespace Go.Proofs.YtephdodkijanmaaGreatDoor
open Go.RowKit Go.ChangeShapes Go.WideShapes Go.Sort
/-- Is it a public key; and whose. -/
def isPb (o : Option Tm) : Bool := match o with
  | some t => t.k == 4
  | none => false
def whoO (o : Option Tm) : Nat := match o with
  | some t => if t.k = 4 then (match t.l with
    | c :: _ => c.a
    | [] => 0) else 0
  | none => 0
theorem pub_one {t : Tm} (h : good t) (hk : t.k = 4) : ∃ c, t.l = [c] ∧ good c ∧ c.k = 3 := by
  cases t with
  | mk k a b s l =>
    simp only [Tm.k] at hk
    subst hk
    simp only [good] at h
    obtain ⟨h1, h2, h3⟩ := h
    have hl : l.length = 1 := by
      simp only [hd] at h1
      omega
    match l, hl with
    | [c], _ =>
      refine ⟨c, rfl, (goods_iff _).1 h3 c (by simp), ?_⟩
      simpa [kids] using h2
section
variable {B g : Nat} {w : World} {T : List Tm} {S : Nat → Prop}
set_option maxHeartbeats 4000000 in
set_option maxRecDepth 100000 in
theorem owner_any (h : Ar B w g T S) {o : Option Tm} {n : Int} (hn : Idn T o n) : Calls Tryz.prog 46 #[.pointer (some ⟨g, 0, none⟩), .int .i64 n] w (fun e w' => e = .returned (.tuple #[.int .i64 (whoO o), .bool (isPb o)]) ∧ Below w.heap.size w w') := by
  have HV := hide (aview_any h n)
  have H := hide h
  cases o with
  | none =>
    go_enter Tryz.func46, Tryz.ntmps46
    go_wp2_with fail
    refine HV.out.mono ?_
    intro e w1 hv
    obtain ⟨rfl, hb⟩ := view_none hn.1 hv
    clear hv
    go_wp2_with fail
    go_ret2
    exact ⟨rfl, hb.alloc hb.size _⟩
  | some t =>
    have hgt := (h.ok.fine t (arg_mem hn.1)).1
    by_cases hk : t.k = 4
    · obtain ⟨c, hc, hgc, _⟩ := pub_one hgt hk
      have hlen : t.l.length = 1 := by rw [hc]; rfl
      have e1 : whoO (some t) = c.a := by
        show (if t.k = 4 then _ else _) = _
        rw [if_pos hk, hc]
      have e2 : isPb (some t) = true := by
        show (t.k == 4) = true
        rw [hk]
        rfl
      rw [e1, e2]
      have Hn := hide hn
      have Hc := hide hc
      have Hl := hide hlen
      have Hk := hide hk
      clear h hn hc e1 e2 hgt hgc hlen hk
      go_enter Tryz.func46, Tryz.ntmps46
      go_wp2_with fail
      refine HV.out.mono ?_
      intro e w1 hv
      obtain ⟨js, A, cc, ha, rfl, hown, hb⟩ := view_some Hn.out.1 hv
      clear hv
      have hjl := ha.len
      rw [Hl.out] at hjl hown ⊢
      obtain ⟨gv, cap, hv2, _, hlt⟩ := hown.form (by omega)
      obtain rfl : A = some ⟨gv, 0, none⟩ := by injection hv2
      obtain ⟨c1, hc1, hT⟩ := ha.at_ (p := 0) (by omega)
      rw [Hc.out] at hc1
      obtain rfl : c = c1 := by simpa using hc1
      have hcell := hown.cells (g := gv) rfl 0 (.int .i64 (js[0]'(by omega) : Nat)) (by rw [List.getElem?_map, List.getElem?_map, List.getElem?_eq_getElem (by omega)]; rfl)
      rw [add_zero_] at hcell
      have harg : arg T (js[0]'(by omega) : Nat) = some c := by rw [arg_at]; exact hT
      have hkk := Hk.out
      rw [hkk] at *
      have hb2 := hb.alloc hb.size (.cells #[.int .i64 (4 : Nat), .int .i64 t.a, .int .i64 t.b, .string t.s, .slice (some ⟨gv, 0, none⟩) 1 cc] 78)
      have HV2 := hide (aview_any (H.out.below hb2) (js[0]'(by omega) : Nat))
      have Harg := hide harg
      generalize ((js[0]'(by omega) : Nat) : Int) = m at hcell HV2 Harg
      clear ha hown hv2 hT hc1 hjl harg
      go_wp2_with fail
      refine HV2.out.mono ?_
      intro e w2 hv
      obtain ⟨js2, A2, cc2, _, rfl, _, hb3⟩ := view_some Harg.out hv
      clear hv
      have hb4 := hb2.trans (hb3.mono hb2.size)
      go_wp2_with fail
      go_ret2
      exact ⟨rfl, hb4.alloc hb4.size _⟩
    · have e1 : whoO (some t) = 0 := by
        show (if t.k = 4 then _ else _) = _
        rw [if_neg hk]
      have e2 : isPb (some t) = false := by
        show (t.k == 4) = false
        simpa using hk
      rw [e1, e2]
      have hki : ((t.k : Int) == 4) = false := by simp only [beq_eq_false_iff_ne, ne_eq]; omega
      have Hn := hide hn
      clear h hn e1 e2 hgt hk
      go_enter Tryz.func46, Tryz.ntmps46
      go_wp2_with fail
      refine HV.out.mono ?_
      intro e w1 hv
      obtain ⟨js, A, cc, ha, rfl, hown, hb⟩ := view_some Hn.out.1 hv
      clear hv
      go_wp2_with fail
      go_ret2
      exact ⟨rfl, hb.alloc hb.size _⟩
end
end Go.Proofs.YtephdodkijanmaaGreatDoor
