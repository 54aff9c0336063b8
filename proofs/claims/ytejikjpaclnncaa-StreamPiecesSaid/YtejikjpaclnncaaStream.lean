/-
  The contracts of package stream. Conditions: texts of up to a million bytes.
-/
import Derived.Test.YtejikjpaclnncaaLineRef
import Derived.Test.YtejikjpaclnncaaFrameBody
namespace Go.Proofs.Ytejikjpaclnncaa
open Go.RowKit

/-- A stream in block g: its bytes, and what broke it. -/
def Stm (w : World) (g : Nat) (s : ByteArray) (e : Int) : Prop := Blk w g 71 #[.string s, .int .i64 e]
theorem snew_any (w : World) : Calls Try.prog 22 #[] w fun e w' => e = .returned (.pointer (some ⟨w.heap.size, 0, none⟩)) ∧ Stm w' w.heap.size ⟨#[]⟩ 0 ∧ Below w.heap.size w w' := by
  go_enter Try.func22, Try.ntmps22
  go_wp2
  go_ret
  exact ⟨rfl, Blk.new _ _ _, by (repeat (first | exact Below.refl _ _ | refine below_drewN ?_ _ | refine Below.drew ?_ | refine Below.alloc ?_ (by first | omega | (simp; done) | (simp; omega)) _ | refine Below.setCell ?_ (by first | omega | (simp; done) | (simp; omega)) _ | refine bel_alloc ?_ _ | refine bel_trans ?_ (by assumption) | refine Below.trans ?_ (Below.mono (by assumption) (by first | omega | (simp; done) | (simp; omega)))))⟩
theorem sbroken_any {s : ByteArray} {g : Nat} {x : Int} {w : World} (h : Stm w g s x) : Calls Try.prog 26 #[.pointer (some ⟨g, 0, none⟩)] w fun e w' => e = .returned (.int .i64 x) ∧ w = w' := by
  have h0 : w.cell? ⟨g, 1, none⟩ = some (.int .i64 x) := Blk.cell h 1
  go_enter Try.func26, Try.ntmps26
  go_wp2
  go_ret
  exact ⟨rfl, rfl⟩
theorem sleft_any {s : ByteArray} {g : Nat} {x : Int} {w : World} (h : Stm w g s x) : Calls Try.prog 25 #[.pointer (some ⟨g, 0, none⟩)] w fun e w' => e = .returned (.int .i64 s.size) ∧ w = w' := by
  have h0 : w.cell? ⟨g, 0, none⟩ = some (.string s) := Blk.cell h 0
  go_enter Try.func25, Try.ntmps25
  go_wp2
  go_ret
  exact ⟨rfl, rfl⟩
theorem sbreaks_any {s : ByteArray} {g : Nat} {x y : Int} {w : World} (h : Stm w g s x) : Calls Try.prog 51 #[.pointer (some ⟨g, 0, none⟩), .int .i64 y] w fun e w' => e = .returned (.tuple #[]) ∧ Stm w' g ⟨#[]⟩ y ∧ w.grownBy w' (some g) := by
  have h0 : w.cell? ⟨g, 0, none⟩ = some (.string s) := Blk.cell h 0
  have h1 : w.cell? ⟨g, 1, none⟩ = some (.int .i64 x) := Blk.cell h 1
  have f0 : w.frozen? ⟨g, 0, none⟩ = false := Blk.frozen h 0
  have f1 : w.frozen? ⟨g, 1, none⟩ = false := Blk.frozen h 1
  have hb := hide (Blk.set_ (Blk.set_ (show Blk w g 71 #[.string s, .int .i64 x] from h) 0 (.string ⟨#[]⟩)) 1 (.int .i64 y))
  have ho := hide (only_setCell (only_setCell (only_refl w (some g)) (.inl rfl) (.string ⟨#[]⟩)) (.inl rfl) (.int .i64 y) : w.grownBy ((w.setCell ⟨g, 0, none⟩ (.string ⟨#[]⟩)).setCell ⟨g, 1, none⟩ (.int .i64 y)) (some g))
  clear h
  go_enter Try.func51, Try.ntmps51
  go_wp2
  go_end0
  exact ⟨rfl, hb.out, ho.out⟩
theorem sfeed_any {s t : ByteArray} {g : Nat} {w : World} (h : Stm w g s 0) (hs : s.size + t.size ≤ 1000000) : Calls Try.prog 23 #[.pointer (some ⟨g, 0, none⟩), .string t] w fun e w' => e = .returned (.tuple #[]) ∧ Stm w' g (s ++ t) 0 ∧ w.grownBy w' (some g) := by
  have h0 : w.cell? ⟨g, 0, none⟩ = some (.string s) := Blk.cell h 0
  have h1 : w.cell? ⟨g, 1, none⟩ = some (.int .i64 0) := Blk.cell h 1
  have f0 : w.frozen? ⟨g, 0, none⟩ = false := Blk.frozen h 0
  go_enter Try.func23, Try.ntmps23
  go_wp2
  go_end0
  exact ⟨rfl, Blk.set_ h 0 _, only_setCell (only_refl _ _) (.inl rfl) _⟩
theorem sfeed_broken {s t : ByteArray} {g : Nat} {x : Int} {w : World} (h : Stm w g s x) (hx : x ≠ 0) : Calls Try.prog 23 #[.pointer (some ⟨g, 0, none⟩), .string t] w fun e w' => e = .returned (.tuple #[]) ∧ w = w' := by
  have h1 : w.cell? ⟨g, 1, none⟩ = some (.int .i64 x) := Blk.cell h 1
  have hx1 : (x == 0) = false := by simp [hx]
  go_enter Try.func23, Try.ntmps23
  go_wp2
  go_end0
  exact ⟨rfl, rfl⟩
theorem sclose_any {s : ByteArray} {g : Nat} {x : Int} {w : World} (h : Stm w g s x) : Calls Try.prog 33 #[.pointer (some ⟨g, 0, none⟩)] w fun e w' => e = .returned (.tuple #[]) ∧ Stm w' g (if x = 0 then ⟨#[]⟩ else s) (if x = 0 then 1 else x) ∧ w.grownBy w' (some g) := by
  by_cases hx : x = 0
  · subst hx
    go_enter Try.func33, Try.ntmps33
    go_wp2_with (first
      | (go_at_call 26; refine (sbroken_any h).mono ?_; rintro e w2 ⟨rfl, rfl⟩)
      | (go_at_call 51; refine (sbreaks_any h).mono ?_; rintro e w2 ⟨rfl, h2, ho⟩))
    go_end0
    exact ⟨rfl, h2, ho⟩
  · have hx1 : (x == 0) = false := by simp [hx]
    rw [if_neg hx, if_neg hx]
    go_enter Try.func33, Try.ntmps33
    go_wp2_with (go_at_call 26; refine (sbroken_any h).mono ?_; rintro e w2 ⟨rfl, rfl⟩)
    go_end0
    exact ⟨rfl, h, only_refl _ _⟩
def tkR (x n : Int) (R l : List UInt8) (e : Int) : (List UInt8 × Bool × Int) × (List UInt8 × Int) :=
  if e ≠ 0 then (([], false, e), (l, e)) else if x = 0 then ((R, true, 0), (l.drop n.toNat, 0)) else if x = 4 then (([], false, 0), (l, 0)) else (([], false, x), ([], x))
theorem stakeL_any {s : ByteArray} {g : Nat} {e0 x n : Int} {R : List UInt8} {w : World} (h : Stm w g s e0)
    (hf : ∀ W, Calls Try.prog 48 #[.string s] W fun e W' => ∃ r, e = .returned (.tuple #[.string r, .int .i64 n, .int .i64 x]) ∧ r.data.toList = R ∧ Below W.heap.size W W') (hn : x = 0 → 0 ≤ n ∧ n ≤ s.size) :
    Calls Try.prog 47 #[.pointer (some ⟨g, 0, none⟩), .func (.func 48) #[] #[]] w fun e w' => ∃ r t, e = .returned (.tuple #[.string r, .bool (tkR x n R s.data.toList e0).1.2.1, .int .i64 (tkR x n R s.data.toList e0).1.2.2]) ∧
      r.data.toList = (tkR x n R s.data.toList e0).1.1 ∧ Stm w' g t (tkR x n R s.data.toList e0).2.2 ∧ t.data.toList = (tkR x n R s.data.toList e0).2.1 ∧ w.grownBy w' (some g) := by
  have Hf := hide hf
  clear hf
  by_cases he : e0 = 0
  · subst he
    have h0 : w.cell? ⟨g, 0, none⟩ = some (.string s) := Blk.cell h 0
    by_cases hx : x = 0
    · subst hx
      obtain ⟨hn0, hn1⟩ := hn rfl
      obtain ⟨k, rfl⟩ := Int.eq_ofNat_of_zero_le hn0
      have ht : tkR 0 (k : Int) R s.data.toList 0 = ((R, true, 0), (s.data.toList.drop k, 0)) := rfl
      have Ht := hide ht
      clear ht hn
      go_enter Try.func47, Try.ntmps47
      go_wp2_with (go_at_call 26; refine (sbroken_any h).mono ?_; rintro e w2 ⟨rfl, rfl⟩)
      go_at_call 48
      refine (Hf.out _).mono ?_
      rintro e w3 ⟨r, rfl, hr, hb⟩
      have Hr := hide hr
      have h3 : Stm w3 g s 0 := Blk.below h hb (Blk.lt h)
      have h30 : w3.cell? ⟨g, 0, none⟩ = some (.string s) := Blk.cell h3 0
      have f30 : w3.frozen? ⟨g, 0, none⟩ = false := Blk.frozen h3 0
      have ho3 := only_of_below hb (some g)
      clear hr h0
      go_wp2
      go_ret3
      refine ⟨r, s.extract k s.size, by rw [Ht.out]; rfl, by rw [Ht.out]; exact Hr.out, ?_, ?_, only_trans ho3 (only_setCell (only_refl _ _) (.inl rfl) _)⟩
      · rw [Ht.out]
        exact Blk.set_ h3 0 _
      · rw [Ht.out, Lib.extract_data]
        have hsz : s.data.toList.length = s.size := rfl
        rw [List.take_of_length_le (by rw [List.length_drop, hsz]; exact Nat.le_refl _)]
    by_cases hx4 : x = 4
    · subst hx4
      have Ht := hide (show tkR 4 n R s.data.toList 0 = (([], false, 0), (s.data.toList, 0)) from rfl)
      clear hn
      go_enter Try.func47, Try.ntmps47
      go_wp2_with (go_at_call 26; refine (sbroken_any h).mono ?_; rintro e w2 ⟨rfl, rfl⟩)
      go_at_call 48
      refine (Hf.out _).mono ?_
      rintro e w3 ⟨r, rfl, hr, hb⟩
      have Hr := hide hr
      have h3 : Stm w3 g s 0 := Blk.below h hb (Blk.lt h)
      have h30 : w3.cell? ⟨g, 0, none⟩ = some (.string s) := Blk.cell h3 0
      have f30 : w3.frozen? ⟨g, 0, none⟩ = false := Blk.frozen h3 0
      have ho3 := only_of_below hb (some g)
      clear hr h0
      go_wp2
      go_ret3
      exact ⟨⟨#[]⟩, s, by rw [Ht.out]; rfl, by rw [Ht.out], by rw [Ht.out]; exact h3, by rw [Ht.out], ho3⟩
    · have Ht := hide (show tkR x n R s.data.toList 0 = (([], false, x), ([], x)) by rw [tkR, if_neg (by simp), if_neg hx, if_neg hx4])
      have e1 : (x == 0) = false := by simp [hx]
      have e2 : (x == 4) = false := by simp [hx4]
      clear hn hx hx4
      go_enter Try.func47, Try.ntmps47
      go_wp2_with (go_at_call 26; refine (sbroken_any h).mono ?_; rintro e w2 ⟨rfl, rfl⟩)
      go_at_call 48
      refine (Hf.out _).mono ?_
      rintro e w3 ⟨r, rfl, hr, hb⟩
      have Hr := hide hr
      have h3 : Stm w3 g s 0 := Blk.below h hb (Blk.lt h)
      have h30 : w3.cell? ⟨g, 0, none⟩ = some (.string s) := Blk.cell h3 0
      have f30 : w3.frozen? ⟨g, 0, none⟩ = false := Blk.frozen h3 0
      have ho3 := only_of_below hb (some g)
      clear hr h0
      go_wp2_with (go_at_call 51; refine (sbreaks_any h3).mono ?_; rintro e w4 ⟨rfl, h4, ho4⟩)
      go_ret3
      exact ⟨⟨#[]⟩, ⟨#[]⟩, by rw [Ht.out]; rfl, by rw [Ht.out], by rw [Ht.out]; exact h4, by rw [Ht.out], only_trans ho3 ho4⟩
  · have Ht := hide (show tkR x n R s.data.toList e0 = (([], false, e0), (s.data.toList, e0)) by rw [tkR, if_pos he])
    have e1 : (e0 != 0) = true := by simp [he]
    clear he hn
    go_enter Try.func47, Try.ntmps47
    go_wp2_with (go_at_call 26; refine (sbroken_any h).mono ?_; rintro e w2 ⟨rfl, rfl⟩)
    go_ret3
    exact ⟨⟨#[]⟩, s, by rw [Ht.out]; rfl, by rw [Ht.out], by rw [Ht.out]; exact h, by rw [Ht.out], only_refl _ _⟩
theorem stakeU_any {s : ByteArray} {g : Nat} {e0 x n : Int} {R : List UInt8} {w : World} (h : Stm w g s e0)
    (hf : ∀ W, Calls Try.prog 50 #[.string s] W fun e W' => ∃ r, e = .returned (.tuple #[.string r, .int .i64 n, .int .i64 x]) ∧ r.data.toList = R ∧ Below W.heap.size W W') (hn : x = 0 → 0 ≤ n ∧ n ≤ s.size) :
    Calls Try.prog 47 #[.pointer (some ⟨g, 0, none⟩), .func (.func 50) #[] #[]] w fun e w' => ∃ r t, e = .returned (.tuple #[.string r, .bool (tkR x n R s.data.toList e0).1.2.1, .int .i64 (tkR x n R s.data.toList e0).1.2.2]) ∧
      r.data.toList = (tkR x n R s.data.toList e0).1.1 ∧ Stm w' g t (tkR x n R s.data.toList e0).2.2 ∧ t.data.toList = (tkR x n R s.data.toList e0).2.1 ∧ w.grownBy w' (some g) := by
  have Hf := hide hf
  clear hf
  by_cases he : e0 = 0
  · subst he
    have h0 : w.cell? ⟨g, 0, none⟩ = some (.string s) := Blk.cell h 0
    by_cases hx : x = 0
    · subst hx
      obtain ⟨hn0, hn1⟩ := hn rfl
      obtain ⟨k, rfl⟩ := Int.eq_ofNat_of_zero_le hn0
      have ht : tkR 0 (k : Int) R s.data.toList 0 = ((R, true, 0), (s.data.toList.drop k, 0)) := rfl
      have Ht := hide ht
      clear ht hn
      go_enter Try.func47, Try.ntmps47
      go_wp2_with (go_at_call 26; refine (sbroken_any h).mono ?_; rintro e w2 ⟨rfl, rfl⟩)
      go_at_call 50
      refine (Hf.out _).mono ?_
      rintro e w3 ⟨r, rfl, hr, hb⟩
      have Hr := hide hr
      have h3 : Stm w3 g s 0 := Blk.below h hb (Blk.lt h)
      have h30 : w3.cell? ⟨g, 0, none⟩ = some (.string s) := Blk.cell h3 0
      have f30 : w3.frozen? ⟨g, 0, none⟩ = false := Blk.frozen h3 0
      have ho3 := only_of_below hb (some g)
      clear hr h0
      go_wp2
      go_ret3
      refine ⟨r, s.extract k s.size, by rw [Ht.out]; rfl, by rw [Ht.out]; exact Hr.out, ?_, ?_, only_trans ho3 (only_setCell (only_refl _ _) (.inl rfl) _)⟩
      · rw [Ht.out]
        exact Blk.set_ h3 0 _
      · rw [Ht.out, Lib.extract_data]
        have hsz : s.data.toList.length = s.size := rfl
        rw [List.take_of_length_le (by rw [List.length_drop, hsz]; exact Nat.le_refl _)]
    by_cases hx4 : x = 4
    · subst hx4
      have Ht := hide (show tkR 4 n R s.data.toList 0 = (([], false, 0), (s.data.toList, 0)) from rfl)
      clear hn
      go_enter Try.func47, Try.ntmps47
      go_wp2_with (go_at_call 26; refine (sbroken_any h).mono ?_; rintro e w2 ⟨rfl, rfl⟩)
      go_at_call 50
      refine (Hf.out _).mono ?_
      rintro e w3 ⟨r, rfl, hr, hb⟩
      have Hr := hide hr
      have h3 : Stm w3 g s 0 := Blk.below h hb (Blk.lt h)
      have h30 : w3.cell? ⟨g, 0, none⟩ = some (.string s) := Blk.cell h3 0
      have f30 : w3.frozen? ⟨g, 0, none⟩ = false := Blk.frozen h3 0
      have ho3 := only_of_below hb (some g)
      clear hr h0
      go_wp2
      go_ret3
      exact ⟨⟨#[]⟩, s, by rw [Ht.out]; rfl, by rw [Ht.out], by rw [Ht.out]; exact h3, by rw [Ht.out], ho3⟩
    · have Ht := hide (show tkR x n R s.data.toList 0 = (([], false, x), ([], x)) by rw [tkR, if_neg (by simp), if_neg hx, if_neg hx4])
      have e1 : (x == 0) = false := by simp [hx]
      have e2 : (x == 4) = false := by simp [hx4]
      clear hn hx hx4
      go_enter Try.func47, Try.ntmps47
      go_wp2_with (go_at_call 26; refine (sbroken_any h).mono ?_; rintro e w2 ⟨rfl, rfl⟩)
      go_at_call 50
      refine (Hf.out _).mono ?_
      rintro e w3 ⟨r, rfl, hr, hb⟩
      have Hr := hide hr
      have h3 : Stm w3 g s 0 := Blk.below h hb (Blk.lt h)
      have h30 : w3.cell? ⟨g, 0, none⟩ = some (.string s) := Blk.cell h3 0
      have f30 : w3.frozen? ⟨g, 0, none⟩ = false := Blk.frozen h3 0
      have ho3 := only_of_below hb (some g)
      clear hr h0
      go_wp2_with (go_at_call 51; refine (sbreaks_any h3).mono ?_; rintro e w4 ⟨rfl, h4, ho4⟩)
      go_ret3
      exact ⟨⟨#[]⟩, ⟨#[]⟩, by rw [Ht.out]; rfl, by rw [Ht.out], by rw [Ht.out]; exact h4, by rw [Ht.out], only_trans ho3 ho4⟩
  · have Ht := hide (show tkR x n R s.data.toList e0 = (([], false, e0), (s.data.toList, e0)) by rw [tkR, if_pos he])
    have e1 : (e0 != 0) = true := by simp [he]
    clear he hn
    go_enter Try.func47, Try.ntmps47
    go_wp2_with (go_at_call 26; refine (sbroken_any h).mono ?_; rintro e w2 ⟨rfl, rfl⟩)
    go_ret3
    exact ⟨⟨#[]⟩, s, by rw [Ht.out]; rfl, by rw [Ht.out], by rw [Ht.out]; exact h, by rw [Ht.out], only_refl _ _⟩
theorem scanF_ok {l : List UInt8} (h : (scanF l).2.2 = 0) : 0 ≤ (scanF l).2.1 ∧ (scanF l).2.1 ≤ l.length := by
  by_cases c : 253 < plains l
  · rw [scanF_1 c] at h
    cases h
  · have hp := plains_le l
    rw [scanF_2 (by omega)] at h ⊢
    rw [scanR_eq] at h ⊢
    split at h
    · cases h
    · split at h
      · rename_i h1 h2
        rw [if_neg h1, if_pos h2]
        have := congrArg List.length h2
        rw [List.length_take, List.length_drop] at this
        simp at this
        show 0 ≤ (plains l : Int) + 2 ∧ (plains l : Int) + 2 ≤ l.length
        omega
      · cases h
theorem sline_any {s : ByteArray} {g : Nat} {e0 : Int} {w : World} (h : Stm w g s e0) (hs : s.size ≤ 1000000) :
    Calls Try.prog 29 #[.pointer (some ⟨g, 0, none⟩)] w fun e w' => ∃ r t, e = .returned (.tuple #[.string r, .bool (tkR (scanF s.data.toList).2.2 (scanF s.data.toList).2.1 (scanF s.data.toList).1 s.data.toList e0).1.2.1, .int .i64 (tkR (scanF s.data.toList).2.2 (scanF s.data.toList).2.1 (scanF s.data.toList).1 s.data.toList e0).1.2.2]) ∧
      r.data.toList = (tkR (scanF s.data.toList).2.2 (scanF s.data.toList).2.1 (scanF s.data.toList).1 s.data.toList e0).1.1 ∧ Stm w' g t (tkR (scanF s.data.toList).2.2 (scanF s.data.toList).2.1 (scanF s.data.toList).1 s.data.toList e0).2.2 ∧ t.data.toList = (tkR (scanF s.data.toList).2.2 (scanF s.data.toList).2.1 (scanF s.data.toList).1 s.data.toList e0).2.1 ∧ w.grownBy w' (some g) := by
  have H := hide (stakeL_any h (fun W => (scan_any s W hs).mono fun e W' ⟨r, h1, h2, h3⟩ => ⟨r, h1, h2, h3 ▸ Below.refl _ _⟩) (scanF_ok (l := s.data.toList)))
  generalize tkR (scanF s.data.toList).2.2 (scanF s.data.toList).2.1 (scanF s.data.toList).1 s.data.toList e0 = p at H
  go_enter Try.func29, Try.ntmps29
  go_wp2_with (go_at_call 47; refine H.out.mono ?_; rintro e w4 ⟨r, t, rfl, hr, hst, ht, ho⟩; have Hr := hide hr; have Ht := hide ht; clear hr ht)
  go_ret3
  exact ⟨r, t, rfl, Hr.out, hst, Ht.out, ho⟩
end Go.Proofs.Ytejikjpaclnncaa
