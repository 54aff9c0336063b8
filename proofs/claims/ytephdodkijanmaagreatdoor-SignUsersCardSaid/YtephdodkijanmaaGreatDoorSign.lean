/-
  The contracts of sign's Host and CheckHost. Conditions: names that fit; the library's handle is as it was laid.
-/
import Derived.Test.YtephdodkijanmaaGreatDoorFault
import Derived.Test.YtephdodkijanmaaGreatDoorFr
set_option linter.unusedVariables false
set_option linter.unusedSimpArgs false
namespace Go.Proofs.YtephdodkijanmaaGreatDoor
open Go.RowKit Go.ChangeShapes Go.WideShapes Go.Sort
/-- What a maker of several terms answers. -/
def DoneS (B : Nat) (w : World) (g : Nat) (T : List Tm) (S : Nat → Prop) (o : Option Tm) (m : Nat) (e : Ending) (w' : World) : Prop :=
  ∃ T' n S', e = .returned (.int .i64 n) ∧ Idn T' o n ∧ T <+: T' ∧ T'.length ≤ T.length + m ∧ Ar B w' g T' S' ∧ Grown S w S' w'
section
variable {B g : Nat} {w : World} {T : List Tm} {S : Nat → Prop}
theorem Done.s {o : Option Tm} {e : Ending} {w' : World} (h : Done B w g T S o e w') : DoneS B w g T S o 1 e w' := by
  obtain ⟨T', n, S', rfl, hp, hA, hG⟩ := h
  exact ⟨T', n, S', rfl, hp.idn, hp.pre, hp.len, hA, hG⟩
set_option maxHeartbeats 1000000 in
theorem host_any (h : Use B w g T S) {alg : ByteArray} (ha : alg.size ≤ 1000000) (who : Int) {oh : Option Tm} {nh : Int} (hh : Idn T oh nh) (hT : T.length ≤ 100000000) :
    Calls Tryz.prog 13 #[.pointer (some ⟨g, 0, none⟩), .string alg, .int .i64 who, .int .i64 nh] w (DoneS B w g T S (tSign alg (tKey who) oh) 2) := by
  have HK := hide (aKey_any h who)
  have H := hide h
  clear h
  go_enter Tryz.func13, Tryz.ntmps13
  go_wp2_with fail
  refine HK.out.mono ?_
  rintro e w1 ⟨T1, n1, S1, rfl, hp1, hA1, hG1⟩
  have hl1 := hp1.len
  have hU1 := H.out.grown hG1 hA1 (by omega)
  have HS := hide (aSign_any hU1 (s := alg) (by omega) n1 nh)
  rw [hp1.idn.1, (hh.pre hp1.pre).1] at HS
  have Hp := hide hp1.pre
  clear hU1 hA1 hp1
  go_wp2_with fail
  refine HS.out.mono ?_
  rintro e w2 ⟨T2, n2, S2, rfl, hp2, hA2, hG2⟩
  go_wp2_with fail
  go_ret
  exact ⟨T2, n2, S2, rfl, hp2.idn, Hp.out.trans hp2.pre, by have := hp2.len; omega, hA2, hG1.trans hG2⟩
end
def hostB : ByteArray := ⟨#[104, 111, 115, 116]⟩
def keyB : ByteArray := ⟨#[107, 101, 121]⟩
def sigB : ByteArray := ⟨#[115, 105, 103, 110, 97, 116, 117, 114, 101]⟩
/-- What CheckHost answers. -/
def ChkP (B : Nat) (w : World) (g : Nat) (T : List Tm) (S : Nat → Prop) (pub okey want osig : Option Tm) (s1 : ByteArray) (k : Int) (m : Nat) (e : Ending) (w' : World) : Prop :=
  ∃ T' S', T <+: T' ∧ T'.length ≤ T.length + m ∧ Ar B w' g T' S' ∧ Grown S w S' w' ∧
    (((pub = none ∨ pub ≠ okey) ∧ ∃ b1 b2, e = .returned (.iface 139 (.pointer (some ⟨b1, 0, none⟩))) ∧ Flt w' b1 b2 s1 keyB k ∧ ¬ S' b1 ∧ ¬ S' b2) ∨
     ((pub ≠ none ∧ pub = okey ∧ (want = none ∨ want ≠ osig)) ∧ ∃ b1 b2, e = .returned (.iface 139 (.pointer (some ⟨b1, 0, none⟩))) ∧ Flt w' b1 b2 s1 sigB k ∧ ¬ S' b1 ∧ ¬ S' b2) ∨
     ((pub ≠ none ∧ pub = okey ∧ want ≠ none ∧ want = osig) ∧ e = .returned .nilIface))
section
variable {B g : Nat} {w : World} {T : List Tm} {S : Nat → Prop}
set_option maxHeartbeats 4000000 in
theorem checkHost_any (h : Use B w g T S) {alg : ByteArray} (ha : alg.size ≤ 1000000) (who : Int) {okey osig oh : Option Tm} {nk ns nh : Int} (hk : Idn T okey nk) (hs : Idn T osig ns) (hh : Idn T oh nh) (hT : T.length ≤ 50000000) :
    Calls Tryz.prog 21 #[.pointer (some ⟨g, 0, none⟩), .string alg, .int .i64 who, .int .i64 nk, .int .i64 ns, .int .i64 nh] w (ChkP B w g T S (tPub (tKey who)) okey (tSign alg (tKey who) oh) osig hostB 9 4) := by
  have HK := hide (aKey_any h who)
  have H := hide h
  clear h
  go_enter Tryz.func21, Tryz.ntmps21
  go_wp2_with fail
  refine HK.out.mono ?_
  rintro e w1 ⟨T1, n1, S1, rfl, hp1, hA1, hG1⟩
  have hl1 := hp1.len
  have hU1 := H.out.grown hG1 hA1 (by omega)
  have HP := hide (aPub_any hU1 n1)
  rw [hp1.idn.1] at HP
  have HU1 := hide hU1
  have Hp1 := hide hp1.pre
  clear hU1 hA1 hp1
  go_wp2_with fail
  refine HP.out.mono ?_
  rintro e w2 ⟨T2, n2, S2, rfl, hp2, hA2, hG2⟩
  have hl2 := hp2.len
  have hU2 := HU1.out.grown hG2 hA2 (by omega)
  have hG02 := hG1.trans hG2
  have hpre2 := Hp1.out.trans hp2.pre
  have hok2 := hU2.ar.ok
  have hid2 := hp2.idn
  have e1 : n2 = -1 ↔ tPub (tKey who) = none := hid2.none_iff
  have e2 : n2 = nk ↔ tPub (tKey who) = okey := hid2.eq_iff hok2 (hk.pre hpre2)
  have hA2' := hU2.ar
  have HU2 := hide hU2
  clear hp2 hA2 hG1 hG2 hU2 hid2
  have bad : (tPub (tKey who) = none ∨ tPub (tKey who) ≠ okey) → ∀ e w3, (∃ b1 b2, e = .returned (.iface 139 (.pointer (some ⟨b1, 0, none⟩))) ∧ Flt w3 b1 b2 hostB keyB 9 ∧ Below w2.heap.size w2 w3 ∧ w2.heap.size ≤ b1 ∧ w2.heap.size ≤ b2) → ChkP B w g T S (tPub (tKey who)) okey (tSign alg (tKey who) oh) osig hostB 9 4 e w3 := by
    rintro hb e w3 ⟨b1, b2, rfl, hF, hb3, l1, l2⟩
    exact ⟨T2, S2, hpre2, by omega, hA2'.below hb3, hG02.trans (Grown.of_below hb3), .inl ⟨hb, b1, b2, rfl, hF, fun h9 => by have := hA2'.sL _ h9; omega, fun h9 => by have := hA2'.sL _ h9; omega⟩⟩
  have Bad := hide bad
  clear bad
  by_cases c1 : n2 = -1
  · have hc := e1.1 c1
    subst c1
    clear e1 e2 hA2' hok2
    go_wp2_with fail
    refine (wrong_any hostB keyB 9 (by decide) w2).mono ?_
    intro e w3 hw
    have hF := hide (Bad.out (.inl hc) e w3 hw)
    obtain ⟨b1, b2, rfl, _⟩ := hw
    go_wp2_with fail
    go_ret
    exact hF.out
  · by_cases c2 : n2 = nk
    · have hc1 : tPub (tKey who) ≠ none := fun h9 => c1 (e1.2 h9)
      have hc2 := e2.1 c2
      subst c2
      have HH := hide (host_any HU2.out ha who (hh.pre hpre2) (by omega))
      clear e1 e2 hA2' hok2 Bad
      go_wp2_with fail
      refine HH.out.mono ?_
      rintro e w3 ⟨T3, n3, S3, rfl, hid3, hpre3, hl3, hA3, hG3⟩
      have hpre03 := hpre2.trans hpre3
      have e3 : n3 = -1 ↔ tSign alg (tKey who) oh = none := hid3.none_iff
      have e4 : n3 = ns ↔ tSign alg (tKey who) oh = osig := hid3.eq_iff hA3.ok (hs.pre hpre03)
      have HA3 := hide hA3
      have HG3 := hide (hG02.trans hG3)
      have bad : (tSign alg (tKey who) oh = none ∨ tSign alg (tKey who) oh ≠ osig) → ∀ e w4, (∃ b1 b2, e = .returned (.iface 139 (.pointer (some ⟨b1, 0, none⟩))) ∧ Flt w4 b1 b2 hostB sigB 9 ∧ Below w3.heap.size w3 w4 ∧ w3.heap.size ≤ b1 ∧ w3.heap.size ≤ b2) → ChkP B w g T S (tPub (tKey who)) okey (tSign alg (tKey who) oh) osig hostB 9 4 e w4 := by
        rintro hb e w4 ⟨b1, b2, rfl, hF, hb4, l1, l2⟩
        exact ⟨T3, S3, hpre03, by omega, HA3.out.below hb4, HG3.out.trans (Grown.of_below hb4), .inr (.inl ⟨⟨hc1, hc2, hb⟩, b1, b2, rfl, hF, fun h9 => by have := HA3.out.sL _ h9; omega, fun h9 => by have := HA3.out.sL _ h9; omega⟩)⟩
      have Bad := hide bad
      clear bad hA3 hG3 hid3
      by_cases c3 : n3 = -1
      · have hc := e3.1 c3
        subst c3
        clear e3 e4
        go_wp2_with fail
        refine (wrong_any hostB sigB 9 (by decide) w3).mono ?_
        intro e w4 hw
        have hF := hide (Bad.out (.inl hc) e w4 hw)
        obtain ⟨b1, b2, rfl, _⟩ := hw
        go_wp2_with fail
        go_ret
        exact hF.out
      · by_cases c4 : n3 = ns
        · have hc3 : tSign alg (tKey who) oh ≠ none := fun h9 => c3 (e3.2 h9)
          have hc4 := e4.1 c4
          subst c4
          clear e3 e4
          go_wp2_with fail
          go_ret
          exact ⟨T3, S3, hpre03, by omega, HA3.out, HG3.out, .inr (.inr ⟨⟨hc1, hc2, hc3, hc4⟩, rfl⟩)⟩
        · have hc : tSign alg (tKey who) oh ≠ osig := fun h9 => c4 (e4.2 h9)
          clear e3 e4
          go_wp2_with fail
          refine (wrong_any hostB sigB 9 (by decide) w3).mono ?_
          intro e w4 hw
          have hF := hide (Bad.out (.inr hc) e w4 hw)
          obtain ⟨b1, b2, rfl, _⟩ := hw
          go_wp2_with fail
          go_ret
          exact hF.out
    · have hc : tPub (tKey who) ≠ okey := fun h9 => c2 (e2.2 h9)
      clear e1 e2 hA2' hok2
      go_wp2_with fail
      refine (wrong_any hostB keyB 9 (by decide) w2).mono ?_
      intro e w3 hw
      have hF := hide (Bad.out (.inr hc) e w3 hw)
      obtain ⟨b1, b2, rfl, _⟩ := hw
      go_wp2_with fail
      go_ret
      exact hF.out
end
end Go.Proofs.YtephdodkijanmaaGreatDoor
