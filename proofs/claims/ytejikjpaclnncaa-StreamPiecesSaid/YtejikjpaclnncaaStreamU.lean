/-
  The contracts of stream.unit, (*Stream).Line and (*Stream).Unit, and those of a nil stream. Conditions: texts of up to a million bytes.
-/
import Derived.Test.YtejikjpaclnncaaStream
namespace Go.Proofs.Ytejikjpaclnncaa
open Go.RowKit

/-- The unit that bytes begin with. -/
def sunF (l : List UInt8) : List UInt8 × Int × Int :=
  if (needF l).2 ≠ 0 then ([], 0, (needF l).2) else if (l.length : Int) < (needF l).1 then ([], 0, 4) else (l.take (needF l).1.toNat, (needF l).1, 0)
theorem sunF_1 {l : List UInt8} {n x : Int} (h : needF l = (n, x)) (hx : x ≠ 0) : sunF l = ([], 0, x) := by rw [sunF, h]; exact if_pos hx
theorem sunF_2 {l : List UInt8} {n : Int} (h : needF l = (n, 0)) (hn : (l.length : Int) < n) : sunF l = ([], 0, 4) := by rw [sunF, h, if_neg (by simp)]; exact if_pos hn
theorem sunF_3 {l : List UInt8} {n : Int} (h : needF l = (n, 0)) (hn : n ≤ l.length) : sunF l = (l.take n.toNat, n, 0) := by rw [sunF, h, if_neg (by simp)]; exact if_neg (Int.not_lt.2 hn)
theorem sunF_ok {l : List UInt8} (h : (sunF l).2.2 = 0) : 0 ≤ (sunF l).2.1 ∧ (sunF l).2.1 ≤ l.length := by
  rcases e : needF l with ⟨n, x⟩
  by_cases hx : x = 0
  · subst hx
    by_cases hn : (l.length : Int) < n
    · rw [sunF_2 e hn] at h
      cases h
    · have hok := needF_ok (l := l) (by rw [e])
      rw [e] at hok
      rw [sunF_3 e (Int.not_lt.1 hn)]
      exact ⟨by show 0 ≤ n; omega, Int.not_lt.1 hn⟩
  · rw [sunF_1 e hx] at h
    exact absurd h hx
theorem sunit_any (s : ByteArray) (w : World) (hs : s.size ≤ 9223372036854775807) : Calls Try.prog 50 #[.string s] w fun e w' => ∃ r, e = .returned (.tuple #[.string r, .int .i64 (sunF s.data.toList).2.1, .int .i64 (sunF s.data.toList).2.2]) ∧ r.data.toList = (sunF s.data.toList).1 ∧ Below w.heap.size w w' := by
  have hsz : (s.data.toList.length : Int) = s.size := rfl
  rcases en : needF s.data.toList with ⟨n, x⟩
  have H := need_any s w hs
  rw [en] at H
  by_cases hx : x = 0
  · subst hx
    have hok := needF_ok (l := s.data.toList) (by rw [en])
    rw [en] at hok
    obtain ⟨_, hn1, hn2⟩ := hok
    have hn3 : 5 ≤ n := hn1
    clear hn1 hn2
    obtain ⟨k, rfl⟩ := Int.eq_ofNat_of_zero_le (show 0 ≤ n by omega)
    by_cases hk : s.size < k
    · have f := hide (sunF_2 en (by omega))
      have HH := hide H
      clear en H
      go_enter Try.func50, Try.ntmps50
      go_wp2_with (go_at_call 15; refine HH.out.mono ?_; rintro e w2 ⟨rfl, hb⟩)
      go_ret3
      exact ⟨⟨#[]⟩, by rw [f.out]; rfl, by rw [f.out], hb⟩
    · have f := hide (sunF_3 en (by omega))
      have HH := hide H
      clear en H
      go_enter Try.func50, Try.ntmps50
      go_wp2_with (go_at_call 15; refine HH.out.mono ?_; rintro e w2 ⟨rfl, hb⟩)
      go_ret3
      refine ⟨s.extract 0 k, by rw [f.out]; rfl, ?_, hb⟩
      rw [f.out, Lib.extract_data]
      simp
  · have f := hide (sunF_1 en hx)
    have e1 : (x != 0) = true := by simp [hx]
    have HH := hide H
    clear en H hx
    go_enter Try.func50, Try.ntmps50
    go_wp2_with (go_at_call 15; refine HH.out.mono ?_; rintro e w2 ⟨rfl, hb⟩)
    go_ret3
    exact ⟨⟨#[]⟩, by rw [f.out]; rfl, by rw [f.out], hb⟩
/-- What a line, a unit takes out of a stream that has the bytes l and is broken by e: what is returned, and what stays. -/
def lineD (l : List UInt8) (e : Int) : (List UInt8 × Bool × Int) × (List UInt8 × Int) := tkR (scanF l).2.2 (scanF l).2.1 (scanF l).1 l e
def unitD (l : List UInt8) (e : Int) : (List UInt8 × Bool × Int) × (List UInt8 × Int) := tkR (sunF l).2.2 (sunF l).2.1 (sunF l).1 l e
theorem line_any {s : ByteArray} {g : Nat} {e0 : Int} {w : World} (h : Stm w g s e0) (hs : s.size ≤ 1000000) :
    Calls Try.prog 29 #[.pointer (some ⟨g, 0, none⟩)] w fun e w' => ∃ r t, e = .returned (.tuple #[.string r, .bool (lineD s.data.toList e0).1.2.1, .int .i64 (lineD s.data.toList e0).1.2.2]) ∧
      r.data.toList = (lineD s.data.toList e0).1.1 ∧ Stm w' g t (lineD s.data.toList e0).2.2 ∧ t.data.toList = (lineD s.data.toList e0).2.1 ∧ w.grownBy w' (some g) := sline_any h hs
theorem unitU_any {s : ByteArray} {g : Nat} {e0 : Int} {w : World} (h : Stm w g s e0) (hs : s.size ≤ 1000000) :
    Calls Try.prog 31 #[.pointer (some ⟨g, 0, none⟩)] w fun e w' => ∃ r t, e = .returned (.tuple #[.string r, .bool (unitD s.data.toList e0).1.2.1, .int .i64 (unitD s.data.toList e0).1.2.2]) ∧
      r.data.toList = (unitD s.data.toList e0).1.1 ∧ Stm w' g t (unitD s.data.toList e0).2.2 ∧ t.data.toList = (unitD s.data.toList e0).2.1 ∧ w.grownBy w' (some g) := by
  have H := hide (stakeU_any h (fun W => sunit_any s W (by omega)) (sunF_ok (l := s.data.toList)))
  have ed := hide (show unitD s.data.toList e0 = tkR (sunF s.data.toList).2.2 (sunF s.data.toList).2.1 (sunF s.data.toList).1 s.data.toList e0 from rfl)
  rw [ed.out]
  clear ed
  generalize tkR (sunF s.data.toList).2.2 (sunF s.data.toList).2.1 (sunF s.data.toList).1 s.data.toList e0 = p at H
  go_enter Try.func31, Try.ntmps31
  go_wp2_with (go_at_call 47; refine H.out.mono ?_; rintro e w4 ⟨r, t, rfl, hr, hst, ht, ho⟩; have Hr := hide hr; have Ht := hide ht; clear hr ht)
  go_ret3
  exact ⟨r, t, rfl, Hr.out, hst, Ht.out, ho⟩
-- a nil stream
theorem nbroken_any (w : World) : Calls Try.prog 26 #[.pointer none] w fun e w' => e = .returned (.int .i64 1) ∧ w = w' := by
  go_enter Try.func26, Try.ntmps26
  go_wp2
  go_ret
  exact ⟨rfl, rfl⟩
theorem nleft_any (w : World) : Calls Try.prog 25 #[.pointer none] w fun e w' => e = .returned (.int .i64 0) ∧ w = w' := by
  go_enter Try.func25, Try.ntmps25
  go_wp2
  go_ret
  exact ⟨rfl, rfl⟩
theorem nfeed_any (t : ByteArray) (w : World) : Calls Try.prog 23 #[.pointer none, .string t] w fun e w' => e = .returned (.tuple #[]) ∧ w = w' := by
  go_enter Try.func23, Try.ntmps23
  go_wp2
  go_end0
  exact ⟨rfl, rfl⟩
theorem nclose_any (w : World) : Calls Try.prog 33 #[.pointer none] w fun e w' => e = .returned (.tuple #[]) ∧ w = w' := by
  go_enter Try.func33, Try.ntmps33
  go_wp2_with (go_at_call 26; refine (nbroken_any _).mono ?_; rintro e w2 ⟨rfl, rfl⟩)
  go_end0
  exact ⟨rfl, rfl⟩
theorem ntake_any (w : World) : Calls Try.prog 47 #[.pointer none, .func (.func 48) #[] #[]] w fun e w' => e = .returned (.tuple #[.string ⟨#[]⟩, .bool false, .int .i64 1]) ∧ w = w' := by
  go_enter Try.func47, Try.ntmps47
  go_wp2_with (go_at_call 26; refine (nbroken_any _).mono ?_; rintro e w2 ⟨rfl, rfl⟩)
  go_ret3
  exact ⟨rfl, rfl⟩
theorem nline_any (w : World) : Calls Try.prog 29 #[.pointer none] w fun e w' => e = .returned (.tuple #[.string ⟨#[]⟩, .bool false, .int .i64 1]) ∧ w = w' := by
  go_enter Try.func29, Try.ntmps29
  go_wp2_with (go_at_call 47; refine (ntake_any _).mono ?_; rintro e w2 ⟨rfl, rfl⟩)
  go_ret3
  exact ⟨rfl, rfl⟩
end Go.Proofs.Ytejikjpaclnncaa
