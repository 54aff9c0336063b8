/-
  The contracts of ref22's Pub, Host and CheckHost. Conditions: terms and names that fit.
-/
import Derived.Test.YtephdodkijanmaaGreatDoorSign
set_option linter.unusedVariables false
set_option linter.unusedSimpArgs false
namespace Go.Proofs.YtephdodkijanmaaGreatDoor
open Go.RowKit Go.ChangeShapes Go.WideShapes Go.Sort
theorem bs_iff {o p : Option Tm} (ho : fineO o) (hp : fineO p) : ((bs (txt o)).toList == (bs (txt p)).toList) = true ↔ o = p := by
  rw [bs_toList, bs_toList, beq_iff_eq]
  exact ⟨fun h => txt_inj (fun t e => (ho t e).1) (fun t e => (hp t e).1) h, fun h => by rw [h]⟩
theorem bs_nil_iff {o : Option Tm} : ((bs (txt o)).toList == []) = true ↔ o = none := by
  rw [bs_toList, beq_iff_eq]
  cases o with
  | none => simp [txt]
  | some t => simp [txt, enc_ne]
/-- What ref22's CheckHost answers. -/
def RChk (pub okey want osig : Option Tm) (e : Ending) : Prop :=
  ((okey = none ∨ okey ≠ pub) ∧ e = .returned (.string keyB)) ∨ ((okey ≠ none ∧ okey = pub ∧ (osig = none ∨ osig ≠ want)) ∧ e = .returned (.string sigB)) ∨ ((okey ≠ none ∧ okey = pub ∧ osig ≠ none ∧ osig = want) ∧ e = .returned (.string ⟨#[]⟩))
section
variable {w : World}
theorem rPub22_any (who : Int) (w : World) : Calls Tryz.prog 19 #[.int .i64 who] w (Says (txt (tPub (tKey who))) w) := by
  have HK := hide (rKey_any who w)
  have HP := hide (fun W => rPub_any (tKey_fine who) W)
  go_enter Tryz.func19, Tryz.ntmps19
  go_wp2_with fail
  refine HK.out.mono ?_
  rintro e w1 ⟨rfl, hb1⟩
  go_wp2_with fail
  refine (HP.out _).mono ?_
  rintro e w2 ⟨rfl, hb2⟩
  go_wp2_with fail
  go_ret
  exact ⟨rfl, hb1.trans (hb2.mono hb1.size)⟩
theorem rHost22_any (alg : ByteArray) (ha : alg.size ≤ 1000000) (who : Int) {oh : Option Tm} (hh : fineO oh) (w : World) : Calls Tryz.prog 15 #[.string alg, .int .i64 who, .string (bs (txt oh))] w (Says (txt (tSign alg (tKey who) oh)) w) := by
  have HK := hide (rKey_any who w)
  have HP := hide (fun W => rSign_any alg.data.toList (tKey_fine who) hh W (by rw [size_len]; omega))
  rw [bs_of] at HP
  go_enter Tryz.func15, Tryz.ntmps15
  go_wp2_with fail
  refine HK.out.mono ?_
  rintro e w1 ⟨rfl, hb1⟩
  go_wp2_with fail
  refine (HP.out _).mono ?_
  rintro e w2 ⟨rfl, hb2⟩
  go_wp2_with fail
  go_ret
  exact ⟨rfl, hb1.trans (hb2.mono hb1.size)⟩
set_option maxHeartbeats 2000000 in
theorem rCheckHost_any (alg : ByteArray) (ha : alg.size ≤ 1000000) (who : Int) {okey osig oh : Option Tm} (hk : fineO okey) (hs : fineO osig) (hh : fineO oh) (w : World) :
    Calls Tryz.prog 22 #[.string alg, .int .i64 who, .string (bs (txt okey)), .string (bs (txt osig)), .string (bs (txt oh))] w (fun e w' => RChk (tPub (tKey who)) okey (tSign alg (tKey who) oh) osig e ∧ Below w.heap.size w w') := by
  have HP := hide (fun W => rPub22_any who W)
  have HH := hide (fun W => rHost22_any alg ha who hh W)
  have fp := tPub_fine (tKey_fine who)
  have fs : fineO (tSign alg (tKey who) oh) := tSign_fine (tKey_fine who) hh
  have I1 := hide (bs_iff hk fp)
  have I2 := hide (bs_iff hs fs)
  have N1 := hide (bs_nil_iff (o := okey))
  have N2 := hide (bs_nil_iff (o := osig))
  clear fp fs hk hs hh
  obtain ⟨K, hK⟩ : ∃ K, K = bs (txt okey) := ⟨_, rfl⟩
  obtain ⟨G, hG⟩ : ∃ G, G = bs (txt osig) := ⟨_, rfl⟩
  rw [← hK] at I1 N1 ⊢
  rw [← hG] at I2 N2 ⊢
  clear hK hG
  generalize tPub (tKey who) = pub at HP I1 ⊢
  generalize tSign alg (tKey who) oh = want at HH I2 ⊢
  cases b1 : (K.toList == []) with
  | true =>
    have h1 := N1.out.1 b1
    go_enter Tryz.func22, Tryz.ntmps22
    go_wp2_with fail
    go_ret
    exact ⟨.inl ⟨.inl h1, rfl⟩, Below.refl _ _⟩
  | false =>
    have h1 : okey ≠ none := fun h => by
      have := N1.out.2 h
      rw [b1] at this
      cases this
    have H1 := hide h1
    clear h1
    go_enter Tryz.func22, Tryz.ntmps22
    go_wp2_with fail
    refine (HP.out _).mono ?_
    rintro e w1 ⟨rfl, hb1⟩
    cases b2 : (K.toList == (bs (txt pub)).toList) with
    | false =>
      have h2 : okey ≠ pub := fun h => by
        have := I1.out.2 h
        rw [b2] at this
        cases this
      have H2 := hide h2
      clear h2
      go_wp2_with fail
      go_ret
      exact ⟨.inl ⟨.inr H2.out, rfl⟩, hb1⟩
    | true =>
      have H2 := hide (I1.out.1 b2)
      cases b3 : (G.toList == []) with
      | true =>
        have H3 := hide (N2.out.1 b3)
        go_wp2_with fail
        go_ret
        exact ⟨.inr (.inl ⟨⟨H1.out, H2.out, .inl H3.out⟩, rfl⟩), hb1⟩
      | false =>
        have h3 : osig ≠ none := fun h => by
          have := N2.out.2 h
          rw [b3] at this
          cases this
        have H3 := hide h3
        clear h3
        go_wp2_with fail
        refine (HH.out _).mono ?_
        rintro e w2 ⟨rfl, hb2⟩
        have hb12 := hb1.trans (hb2.mono hb1.size)
        cases b4 : (G.toList == (bs (txt want)).toList) with
        | false =>
          have h4 : osig ≠ want := fun h => by
            have := I2.out.2 h
            rw [b4] at this
            cases this
          have H4 := hide h4
          clear h4
          go_wp2_with fail
          go_ret
          exact ⟨.inr (.inl ⟨⟨H1.out, H2.out, .inr H4.out⟩, rfl⟩), hb12⟩
        | true =>
          have H4 := hide (I2.out.1 b4)
          go_wp2_with fail
          go_ret
          exact ⟨.inr (.inr ⟨⟨H1.out, H2.out, H3.out, H4.out⟩, rfl⟩), hb12⟩
end
end Go.Proofs.YtephdodkijanmaaGreatDoor
