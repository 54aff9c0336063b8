/-
  The example of law22. Conditions: the library's table and handle are as they were laid.
-/
import Derived.Test.YtephdodkijanmaaGreatDoorSign
import Derived.Test.YtephdodkijanmaaGreatDoorTwo
set_option linter.unusedVariables false
set_option linter.unusedSimpArgs false
namespace Go.Proofs.YtephdodkijanmaaGreatDoor
open Go.RowKit Go.ChangeShapes Go.WideShapes Go.Sort
def sshB : ByteArray := ⟨#[115, 115, 104, 45, 97]⟩
def hO : Option Tm := tHash (tData ⟨#[104]⟩)
theorem pub12 : tPub (tKey 1) ≠ tPub (tKey 2) := fun h => by
  have h2 := congrArg txt h
  exact absurd h2 (by decide +kernel)
theorem pub1 : tPub (tKey 1) ≠ none := fun h => by
  have h2 := congrArg Option.isSome h
  exact absurd h2 (by decide +kernel)
theorem sig1 : tSign sshB (tKey 1) hO ≠ none := fun h => by
  have h2 := congrArg Option.isSome h
  exact absurd h2 (by decide +kernel)
section
variable {w : World}
set_option maxHeartbeats 4000000 in
set_option maxRecDepth 100000 in
theorem awake22_any (hT : Tab w) (hg : Hand w) : Calls Tryz.prog 8 #[] w (fun e w' => e = .returned (.bool true) ∧ Below w.heap.size w w') := by
  have HN := hide (new_any w)
  have HT := hide hT
  have Hg := hide hg
  clear hT hg
  go_enter Tryz.func8, Tryz.ntmps8
  go_wp2_with fail
  refine HN.out.mono ?_
  rintro e w1 ⟨g, S, rfl, hA, hb1⟩
  have hF1 : Fr w.heap.size g w [] S [] w1 := ⟨hb1, use_new2 HT.out (Below.refl _ _) hA hb1, Nat.le_refl _, fun x hx => by simp at hx⟩
  have HF1 := hide hF1
  have HD := hide (aData_any hF1.use (s := ⟨#[104]⟩) (by decide))
  clear hA hb1 hF1 HN
  go_wp2_with fail
  refine HD.out.mono ?_
  rintro e w2 ⟨T2, n2, S2, rfl, hp2, hA2, hG2⟩
  have hl2 := hp2.len
  have hF2 := HF1.out.grown hG2 hA2 (by simp at hl2; omega)
  have HH := hide (aHash_any hF2.use n2)
  rw [hp2.idn.1] at HH
  have HF2 := hide hF2
  clear hA2 hG2 hp2 hF2 HF1 HD
  go_wp2_with fail
  refine HH.out.mono ?_
  rintro e w3 ⟨T3, nh, S3, rfl, hp3, hA3, hG3⟩
  have hl3 := hp3.len
  have hF3 := HF2.out.grown hG3 hA3 (by simp at hl2; omega)
  have ih3 : Idn T3 hO nh := hp3.idn
  have HS := hide (host_any hF3.use (alg := sshB) (by decide) 1 ih3 (by simp at hl2; omega))
  have HF3 := hide hF3
  have Ih3 := hide ih3
  clear hA3 hG3 hp3 hF3 HF2 HH ih3
  go_wp2_with fail
  refine HS.out.mono ?_
  rintro e w4 ⟨T4, ns, S4, rfl, is4, hpre4, hl4, hA4, hG4⟩
  have hF4 := HF3.out.grown hG4 hA4 (by simp at hl2; omega)
  have HK := hide (aKey_any hF4.use 2)
  have HF4 := hide hF4
  have Is4 := hide is4
  have Hp4 := hide hpre4
  clear hA4 hG4 hpre4 hF4 HF3 HS is4
  go_wp2_with fail
  refine HK.out.mono ?_
  rintro e w5 ⟨T5, n5, S5, rfl, hp5, hA5, hG5⟩
  have hl5 := hp5.len
  have hF5 := HF4.out.grown hG5 hA5 (by simp at hl2; omega)
  have HP := hide (aPub_any hF5.use n5)
  rw [hp5.idn.1] at HP
  have HF5 := hide hF5
  have Hp5 := hide hp5.pre
  clear hA5 hG5 hp5 hF5 HF4 HK
  go_wp2_with fail
  refine HP.out.mono ?_
  rintro e w6 ⟨T6, n6, S6, rfl, hp6, hA6, hG6⟩
  have hl6 := hp6.len
  have hF6 := HF5.out.grown hG6 hA6 (by simp at hl2; omega)
  have hpre46 := Hp5.out.trans hp6.pre
  have HC := hide (checkHost_any hF6.use (alg := sshB) (by decide) 1 hp6.idn (Is4.out.pre hpre46) (Ih3.out.pre (Hp4.out.trans hpre46)) (by simp at hl2; omega))
  have HF6 := hide hF6
  have Hp46 := hide hpre46
  clear hA6 hG6 hp6 hF6 HF5 HP hpre46
  go_wp2_with fail
  refine HC.out.mono ?_
  rintro e w7 ⟨T7, S7, hpre7, hl7, hA7, hG7, ⟨_, b1, b2, rfl, hFl, m1, m2⟩ | ⟨⟨_, h9, _⟩, _⟩ | ⟨⟨_, h9, _⟩, _⟩⟩
  · have hF7 := HF6.out.grown hG7 hA7 (by simp at hl2; omega)
    have HK := hide (aKey_any hF7.use 1)
    have HF7 := hide hF7
    have Hp47 := hide (Hp46.out.trans hpre7)
    have HFl := hide hFl
    have M1 := hide m1
    have M2 := hide m2
    clear hA7 hG7 hF7 HF6 HC hFl m1 m2
    go_wp2_with fail
    refine HK.out.mono ?_
    rintro e w8 ⟨T8, n8, S8, rfl, hp8, hA8, hG8⟩
    have hl8 := hp8.len
    have hF8 := HF7.out.grown hG8 hA8 (by simp at hl2; omega)
    have HP := hide (aPub_any hF8.use n8)
    rw [hp8.idn.1] at HP
    have HF8 := hide hF8
    have Hp8 := hide hp8.pre
    have q1 := hG8.outs.blk HFl.out.q1 M1.out
    have q2 := hG8.outs.blk HFl.out.q2 M2.out
    have m1 := hG8.notin2 M1.out HFl.out.q1.lt
    have m2 := hG8.notin2 M2.out HFl.out.q2.lt
    have HFl := hide (Flt.mk q1 q2)
    have M1 := hide m1
    have M2 := hide m2
    clear hA8 hG8 hp8 hF8 HF7 HK q1 q2 m1 m2
    go_wp2_with fail
    refine HP.out.mono ?_
    rintro e w9 ⟨T9, n9, S9, rfl, hp9, hA9, hG9⟩
    have hl9 := hp9.len
    have hF9 := HF8.out.grown hG9 hA9 (by simp at hl2; omega)
    have hpre49 := Hp47.out.trans (Hp8.out.trans hp9.pre)
    have HC := hide (checkHost_any hF9.use (alg := sshB) (by decide) 1 hp9.idn (Is4.out.pre hpre49) (Ih3.out.pre (Hp4.out.trans hpre49)) (by simp at hl2; omega))
    have HF9 := hide hF9
    have q1 := hG9.outs.blk HFl.out.q1 M1.out
    have q2 := hG9.outs.blk HFl.out.q2 M2.out
    have m1 := hG9.notin2 M1.out HFl.out.q1.lt
    have m2 := hG9.notin2 M2.out HFl.out.q2.lt
    have HFl := hide (Flt.mk q1 q2)
    have M1 := hide m1
    have M2 := hide m2
    clear hA9 hG9 hp9 hF9 HF8 HP q1 q2 m1 m2 hpre49
    go_wp2_with fail
    refine HC.out.mono ?_
    rintro e w10 ⟨T10, S10, hpre10, hl10, hA10, hG10, ⟨h9 | h9, _⟩ | ⟨⟨_, _, h9 | h9⟩, _⟩ | ⟨_, rfl⟩⟩
    · exact absurd h9 pub1
    · exact absurd rfl h9
    · exact absurd h9 sig1
    · exact absurd rfl h9
    · have hF10 := HF9.out.grown hG10 hA10 (by simp at hl2; omega)
      have hbw := hF10.bel
      have q1 := hG10.outs.blk HFl.out.q1 M1.out
      have q2 := hG10.outs.blk HFl.out.q2 M2.out
      have HTo := hide (told_two (Hg.out.below hbw) (Flt.mk q1 q2) (by decide) (by decide) (by decide +kernel))
      clear hA10 hG10 hF10 HC q1 q2
      go_wp2_with fail
      refine HTo.out.mono ?_
      rintro e w11 ⟨rfl, hb11⟩
      go_wp2_with fail
      go_ret
      exact ⟨rfl, hbw.trans (hb11.mono hbw.size)⟩
  · exact absurd h9 pub12
  · exact absurd h9 pub12
end
end Go.Proofs.YtephdodkijanmaaGreatDoor
