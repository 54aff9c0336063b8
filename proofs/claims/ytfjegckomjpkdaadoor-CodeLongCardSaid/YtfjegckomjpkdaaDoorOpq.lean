/-
  The contracts of code's Opaque, of ref02's Right and Opaque, and of Decode without an arena. Conditions: at most MaxTerm bytes.
-/
import Derived.Test.YtfjegckomjpkdaaDoorTwo
import Derived.Test.YtfjegckomjpkdaaDoorParseE
set_option linter.unusedVariables false
set_option linter.unusedSimpArgs false
namespace Go.Proofs.YtfjegckomjpkdaaDoor
open Go.RowKit Go.ChangeShapes Go.WideShapes Go.Sort
/-- Are these a term's bytes? -/
def IsT (l : List UInt8) : Prop := ∃ t, good t ∧ l = enc t
theorem head_at {s : ByteArray} {t : Tm} (ht : good t) (he : s.data.toList = enc t) : 0 < s.size ∧ ∀ h : 0 < s.size, s[0].toNat = 240 + t.k := by
  obtain ⟨r, hr⟩ := enc_head t ht
  have hk := good_k ht
  have hl := size_len s
  rw [he, hr] at hl
  have hp : 0 < s.size := by
    rw [← hl]
    simp
  refine ⟨hp, fun h => ?_⟩
  have h0 : s.data.toList = s[0] :: s.data.toList.drop 1 := by
    have := drop_cons (s := s.data.toList) (p := 0) h
    rw [List.drop_zero] at this
    exact this
  rw [he, hr] at h0
  injection h0 with h1 _
  rw [← h1, UInt8.toNat_ofNat']
  omega
section
variable {w : World}
theorem decode_nil (s : ByteArray) (w : World) : Calls Tryd.prog 7 #[.pointer none, .string s] w (fun e w' => e = .returned (.tuple #[.int .i64 (-1), .int .i64 1]) ∧ w' = w) := by
  go_enter Tryd.func7, Tryd.ntmps7
  go_wp2_with fail
  go_ret2
  exact ⟨rfl, rfl⟩
set_option maxHeartbeats 1000000 in
set_option maxRecDepth 100000 in
theorem opq_any (hT : Tab w) (x : ByteArray) (hs : x.size ≤ 131072) : Calls Tryd.prog 8 #[.string x] w (fun e w' => ∃ r, e = .returned (.bool r) ∧ (r = true ↔ ∃ t, good t ∧ x.data.toList = enc t ∧ t.k ≠ 1) ∧ Below w.heap.size w w') := by
  have HN := hide (new_any w)
  have HT := hide hT
  have Hx := hide (fun (W : World) (B g : Nat) (S : Nat → Prop) (hU : Use B W g [] S) => decode_any hU hs (by simp))
  clear hT
  by_cases h0 : x.size = 0
  · have hxn : x.data.toList = [] := List.eq_nil_of_length_eq_zero (by rw [size_len]; exact h0)
    have hx1 : (x.toList == []) = true := by rw [ByteArray.toList_eq, hxn]; rfl
    have Hxn := hide hxn
    clear hxn h0
    go_enter Tryd.func8, Tryd.ntmps8
    go_wp2_with fail
    go_ret
    refine ⟨false, rfl, ?_, Below.refl _ _⟩
    simp only [Bool.false_eq_true, false_iff]
    rintro ⟨t, ht, he, _⟩
    exact enc_ne t (he.symm.trans Hxn.out)
  · have hi : (0 : Int) < x.size := by omega
    have hx1 : (x.toList == []) = false := by
      rw [beq_eq_false_iff_ne, ByteArray.toList_eq]
      intro e
      have := size_len x
      rw [e] at this
      simp at this
      omega
    have Hh := hide (fun t ht he => (head_at (s := x) (t := t) ht he).2 (by omega))
    clear h0
    have hxp : 0 < x.size := by omega
    by_cases hq' : (((x[0]'hxp).toNat : Nat) : Int) = 241
    · have hqb : ((((x[0]'hxp).toNat : Nat) : Int) == 241) = true := by rw [beq_iff_eq]; exact hq'
      have Hq := hide hq'
      clear hq'
      go_enter Tryd.func8, Tryd.ntmps8
      go_wp2_with fail
      have hq' := Hq.out
      go_ret
      refine ⟨false, rfl, ?_, Below.refl _ _⟩
      simp only [Bool.false_eq_true, false_iff]
      rintro ⟨t, ht, he, hk⟩
      have := Hh.out t ht he
      omega
    · have hqb : ((((x[0]'hxp).toNat : Nat) : Int) == 241) = false := by rw [beq_eq_false_iff_ne]; exact hq'
      have Hq := hide hq'
      clear hq'
      go_enter Tryd.func8, Tryd.ntmps8
      go_wp2_with fail
      have hq' := Hq.out
      refine HN.out.mono ?_
      rintro e w1 ⟨g, S, rfl, hA, hb1⟩
      have hU : Use w.heap.size w1 g [] S := use_new2 HT.out (Below.refl _ _) hA hb1
      have hD := hide (Hx.out w1 w.heap.size g S hU)
      clear hU hA
      go_wp2_with fail
      refine hD.out.mono ?_
      rintro e w2 ⟨T', S', n, k, o, rfl, hid, ho, hA2, hG2, _, _⟩
      have hsB := hA2.sB
      have hb2 := hG2.below hb1.size (fun i hi => hsB i (hG2.sub i hi))
      rcases ho with ⟨t, rfl, ht, he, rfl⟩ | ⟨rfl, rfl, hno⟩
      · go_wp2_with fail
        go_ret
        refine ⟨true, rfl, ?_, hb1.trans hb2⟩
        simp only [true_iff]
        refine ⟨t, ht, he, fun hk => ?_⟩
        have := Hh.out t ht he
        omega
      · go_wp2_with fail
        go_ret
        refine ⟨false, rfl, ?_, hb1.trans hb2⟩
        simp only [Bool.false_eq_true, false_iff]
        rintro ⟨t, ht, he, _⟩
        exact hno t ht he
set_option maxHeartbeats 1000000 in
set_option maxRecDepth 100000 in
theorem right_any (s : ByteArray) (hs : s.size ≤ 131072) (w : World) : Calls Tryd.prog 10 #[.string s] w (fun e w' => ∃ r, e = .returned (.bool r) ∧ (r = true ↔ IsT s.data.toList) ∧ Below w.heap.size w w') := by
  have HP := hide (parse_any s hs s.size 0 w (by omega) (Nat.zero_le _))
  have hi : ¬ (131072 : Int) < s.size := by omega
  go_enter Tryd.func10, Tryd.ntmps10
  go_wp2_with fail
  refine HP.out.mono ?_
  rintro e w1 ⟨hb, ⟨hn, rfl⟩ | ⟨t, q, A, n, c, ht, hpq, hq, he, hT, rfl⟩⟩
  · go_wp2_with fail
    go_ret
    refine ⟨false, rfl, ?_, hb.alloc hb.size _⟩
    simp only [Bool.false_eq_true, false_iff]
    rintro ⟨t, ht, he⟩
    exact hn t [] ht (by rw [List.drop_zero, he, List.append_nil])
  · have hb2 := hb.alloc hb.size (.cells #[.int .i64 t.k, .int .i64 t.a, .int .i64 t.b, .string t.s, .slice A n c] 48)
    rw [List.drop_zero] at he
    by_cases hqs : q = s.size
    · subst hqs
      have Hq := hide he
      clear he hT
      go_wp2_with fail
      go_ret
      refine ⟨true, by simp, ?_, hb2⟩
      simp only [true_iff]
      refine ⟨t, ht, ?_⟩
      have := Hq.out
      rw [List.drop_of_length_le (by rw [size_len]; omega), List.append_nil] at this
      exact this
    · have hqi : ((q : Int) == s.size) = false := by simp; omega
      have Hq := hide he
      clear he hT
      go_wp2_with fail
      go_ret
      refine ⟨false, by simp [hqs], ?_, hb2⟩
      simp only [Bool.false_eq_true, false_iff]
      rintro ⟨u, hu, e⟩
      have h3 : enc t ++ s.data.toList.drop q = enc u ++ [] := by rw [← Hq.out, e, List.append_nil]
      have h4 := congrArg List.length (enc_inj t u _ _ ht hu h3).2
      rw [List.length_drop, size_len] at h4
      simp at h4
      omega
/-- Kind, of a term's bytes. -/
theorem rkind_of (s : ByteArray) {t : Tm} (ht : good t) (he : s.data.toList = enc t) (hl : s.size ≤ 131072) (w : World) : Calls Tryd.prog 13 #[.string s] w fun e w' => e = .returned (.int .i64 t.k) ∧ w = w' := by
  have hf : fine t := ⟨ht, by rw [← he, size_len]; exact hl⟩
  have h := rKind_any (fineO_some hf) w
  have e1 : tx (some t) = s := by
    show bs (enc t) = s
    rw [← he]
    rfl
  rw [e1] at h
  exact h
set_option maxHeartbeats 1000000 in
set_option maxRecDepth 100000 in
theorem ropq_any (s : ByteArray) (hs : s.size ≤ 131072) (w : World) : Calls Tryd.prog 9 #[.string s] w (fun e w' => ∃ r, e = .returned (.bool r) ∧ (r = true ↔ ∃ t, good t ∧ s.data.toList = enc t ∧ t.k ≠ 1) ∧ Below w.heap.size w w') := by
  have HR := hide (right_any s hs w)
  have HK := hide (fun t ht he W => rkind_of s (t := t) ht he hs W)
  go_enter Tryd.func9, Tryd.ntmps9
  go_wp2_with fail
  refine HR.out.mono ?_
  rintro e w1 ⟨r, rfl, hr, hb⟩
  have Hr := hide hr
  cases r with
  | false =>
    clear hr HK
    go_wp2_with fail
    go_ret
    refine ⟨false, rfl, ?_, hb⟩
    simp only [Bool.false_eq_true, false_iff]
    rintro ⟨t, ht, he, _⟩
    have := Hr.out.2 ⟨t, ht, he⟩
    cases this
  | true =>
    obtain ⟨t, ht, he⟩ := hr.1 rfl
    have HK2 := hide (HK.out t ht he w1)
    have He := hide he
    clear he HK hr
    go_wp2_with fail
    refine HK2.out.mono ?_
    rintro e w2 ⟨rfl, rfl⟩
    go_wp2_with fail
    go_ret
    refine ⟨((t.k : Int) != 1), rfl, ?_, hb⟩
    · rw [bne_iff_ne, show (((t.k : Nat) : Int) ≠ 1 ↔ t.k ≠ 1) by omega]
      constructor
      · exact fun hk => ⟨t, ht, He.out, hk⟩
      · rintro ⟨u, hu, e, hk⟩
        obtain ⟨rfl, _⟩ := enc_inj t u [] [] ht hu (by rw [List.append_nil, List.append_nil, ← He.out, e])
        exact hk
end
end Go.Proofs.YtfjegckomjpkdaaDoor
