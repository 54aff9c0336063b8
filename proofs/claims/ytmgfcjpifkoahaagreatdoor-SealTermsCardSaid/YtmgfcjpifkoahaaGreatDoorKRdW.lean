/-
  The contracts of package wire's reader. Conditions: texts of at most 1,000,000 bytes.
-/
import Derived.Test.YtmgfcjpifkoahaaGreatDoorKMsgG
import Derived.Test.YtmgfcjpifkoahaaGreatDoorKRefA
import Derived.Test.YtmgfcjpifkoahaaGreatDoorKWholeA
import Derived.Deep.RegionHeld3
import Derived.Deep.DeepCutAuto
set_option linter.unusedVariables false
set_option linter.unusedSimpArgs false
namespace Go.Proofs.YtmgfcjpifkoahaaGreatDoor
open Go.RowKit Go.ChangeShapes Go.WideShapes Go.Sort
def numb (l : List UInt8) : Nat := l.foldl (fun a b => a * 256 % 4294967296 + b.toNat) 0
theorem numb_snoc (l : List UInt8) (b : UInt8) : numb (l ++ [b]) = numb l * 256 % 4294967296 + b.toNat := by
 unfold numb
 rw [List.foldl_append]
 rfl
theorem numb4lt (l : List UInt8) : numb l < 4294967296 := by
 have h : ∀ (l : List UInt8) (a : Nat), a < 4294967296 → l.foldl (fun a b => a * 256 % 4294967296 + b.toNat) a < 4294967296 := by
  intro l
  induction l with
  | nil => exact fun a h => h
  | cons b l ih =>
   intro a _
   refine ih _ ?_
   have := b.toNat_lt
   show a * 256 % 4294967296 + b.toNat < 4294967296
   omega
 exact h l 0 (by omega)
theorem numb4 (l : List UInt8) (h : l.length = 4) : numb l = n4 l := by
 match l, h with
 | [x, y, z, u], _ =>
  have h1 := x.toNat_lt
  have h2 := y.toNat_lt
  have h3 := z.toNat_lt
  have h4 := u.toNat_lt
  simp only [numb, n4, List.foldl_cons, List.foldl_nil]
  omega
theorem or_low (y b : Nat) (hb : b < 256) : bits .or .u32 ((y : Int) * 256 % 4294967296) ((b : Int) % 4294967296) = ((y * 256 % 4294967296 + b : Nat) : Int) := by
 have e1 : ((y : Int) * 256 % 4294967296) = ((y * 256 % 4294967296 : Nat) : Int) := by omega
 have e2 : ((b : Int) % 4294967296) = ((b : Nat) : Int) := by omega
 rw [e1, e2, u32_or_nat _ _ (by omega) (by omega)]
 have e3 : y * 256 % 4294967296 = (y % 16777216) <<< 8 := by rw [Nat.shiftLeft_eq]; omega
 rw [e3, Nat.shiftLeft_add_eq_or_of_lt (by omega)]
theorem wnumber_any (s : ByteArray) (w : World) (hs : s.size ≤ 9223372036854775807) : Calls Tryz.prog 177 #[.string s] w fun e w' => e = .returned (.int .u32 (numb s.data.toList)) ∧ w' = w := by
 go_enter Tryz.func177, Tryz.ntmps177
 go_wp2
 go_loop [3, 7] (fun v i => ∃ k y : Nat, y < 4294967296 ∧ k ≤ s.size ∧ i = .int .i64 k ∧ v = .int .u32 y ∧ Hid (y = numb (s.data.toList.take k))) (fun _ i => s.size - (intOf i).toNat)
 case atStart => exact ⟨0, 0, by omega, Nat.zero_le _, rfl, rfl, hide rfl⟩
 case round =>
  obtain ⟨k, y, hy, hk, rfl, rfl, H⟩ := hrel
  by_cases hlt : k < s.size
  ·have Hb := hide (or_low y s[k].toNat s[k].toNat_lt)
   go_wp2
   rw [Hb.out]
   go_round
   case rel =>
    refine ⟨k + 1, _, ?_, hlt, by go_num, rfl, hide ?_⟩
    ·have := s[k].toNat_lt
     omega
    ·rw [H.out]
     have hl : k < s.data.toList.length := hlt
     rw [List.take_succ_eq_append_getElem hl, numb_snoc]
     rfl
   case measure => simp [intOf]; omega
  ·go_wp2
   go_ret
   exact ⟨ret_int (by rw [H.out, List.take_of_length_le (by show s.size ≤ k; omega)]), rfl⟩
def Rdr (w : World) (g : Nat) (s : ByteArray) (p : Nat) (e : Int) : Prop := Blk w g 184 #[.string s, .int .i64 p, .int .i64 e]
theorem Rdr.below {w w' : World} {g : Nat} {s : ByteArray} {p : Nat} {e : Int} (h : Rdr w g s p e) (hb : Below w.heap.size w w') : Rdr w' g s p e := Blk.below h hb (Blk.lt h)
theorem wnew_any (s : ByteArray) (w : World) : Calls Tryz.prog 110 #[.string s] w fun e w' => e = .returned (.pointer (some ⟨w.heap.size, 0, none⟩)) ∧ Rdr w' w.heap.size s 0 0 ∧ Below w.heap.size w w' := by
 go_enter Tryz.func110, Tryz.ntmps110
 go_wp2
 go_ret
 exact ⟨rfl, Blk.new _ _ _, by exact bel_by⟩
section
variable {w : World} {g p : Nat} {s : ByteArray} {x : Int}
theorem werr_any (h : Rdr w g s p x) : Calls Tryz.prog 149 #[.pointer (some ⟨g, 0, none⟩)] w fun e w' => e = .returned (.int .i64 x) ∧ w' = w := by
 have h0 : w.cell? ⟨g, 2, none⟩ = some (.int .i64 x) := Blk.cell h 2
 go_enter Tryz.func149, Tryz.ntmps149
 go_wp2
 go_ret
 exact ⟨rfl, rfl⟩
theorem wleft_any (h : Rdr w g s p x) (hp : p ≤ s.size) (hs : s.size ≤ 1000000) : Calls Tryz.prog 151 #[.pointer (some ⟨g, 0, none⟩)] w fun e w' => e = .returned (.int .i64 ((s.size : Int) - p)) ∧ ∃ n, w' = w.drewN n := by
 have h0 : w.cell? ⟨g, 0, none⟩ = some (.string s) := Blk.cell h 0
 have h1 : w.cell? ⟨g, 1, none⟩ = some (.int .i64 p) := Blk.cell h 1
 go_enter Tryz.func151, Tryz.ntmps151
 go_wp2
 go_quiet (fail)
 go_wp2
 go_ret
 exact ⟨rfl, _, rfl⟩
end
theorem wall_any (s : ByteArray) (w : World) : Calls Tryz.prog 179 #[.string s] w fun e w' => e = .returned (.bool true) ∧ w' = w := by
 go_enter Tryz.func179, Tryz.ntmps179
 go_wp2
 go_ret
 exact ⟨rfl, rfl⟩
theorem wbit_any (s : ByteArray) (hs : s.size = 1) (w : World) : Calls Tryz.prog 192 #[.string s] w fun e w' => e = .returned (.bool (decide (s[0].toNat ≤ 1))) ∧ w' = w := by
 have h0 : 0 < s.size := by omega
 have e1 : (decide ((s[0].toNat : Int) ≤ 1)) = decide (s[0].toNat ≤ 1) := by
  rw [Bool.eq_iff_iff]
  simp only [decide_eq_true_eq]
  omega
 generalize decide (s[0].toNat ≤ 1) = b at e1
 by_cases h1 : s[0].toNat ≤ 1
 ·have h1' : (s[0].toNat : Int) ≤ 1 := by omega
  rw [decide_eq_true h1'] at e1
  subst e1
  go_enter Tryz.func192, Tryz.ntmps192
  go_wp2_with fail
  go_ret
  exact ⟨rfl, rfl⟩
 ·have h1' : ¬ (s[0].toNat : Int) ≤ 1 := by omega
  rw [decide_eq_false h1'] at e1
  subst e1
  go_enter Tryz.func192, Tryz.ntmps192
  go_wp2_with fail
  go_ret
  exact ⟨rfl, rfl⟩
set_option maxRecDepth 100000 in
theorem wwhole_any (s : ByteArray) (hs : s.size ≤ 1000000) (w : World) : Calls Tryz.prog 195 #[.string s] w fun e w' => e = .returned (.bool (wholeK s.data.toList)) ∧ w' = w := by
 by_cases h0 : s = ⟨#[]⟩
 ·subst h0
  go_enter Tryz.func195, Tryz.ntmps195
  go_wp2_with fail
  go_ret
  exact ⟨rfl, rfl⟩
 ·have hne := bytes_ne h0
  have hne2 := bytes_some h0
  obtain ⟨l, rfl⟩ : ∃ l, s = bs l := ⟨s.data.toList, rfl⟩
  have hsz : (bs l).size = l.length := rfl
  rw [bs_data]
  cases l with
  | nil => exact absurd rfl h0
  | cons c r =>
   have hpos : 0 < (bs (c :: r)).size := by rw [hsz]; simp
   have g0 : (bs (c :: r))[0] = c := rfl
   have hcl := c.toNat_lt
   by_cases h1 : 128 ≤ c.toNat
   ·have h1' : (128 : Int) ≤ (bs (c :: r))[0].toNat := by rw [g0]; omega
    have E := hide (show wholeK (c :: r) = false by simp [wholeK, h1])
    go_enter Tryz.func195, Tryz.ntmps195
    go_wp2_with fail
    go_ret
    exact ⟨by rw [E.out]; rfl, rfl⟩
   ·have h1' : ¬ (128 : Int) ≤ (bs (c :: r))[0].toNat := by rw [g0]; omega
    by_cases h2 : c.toNat = 0
    ·have h2' : (((bs (c :: r))[0].toNat : Int) == 0) = true := by rw [g0, h2]; rfl
     cases r with
     | nil =>
      have hl : ¬ (1 : Int) < (bs [c]).size := by rw [hsz]; simp
      have E := hide (show wholeK [c] = false by simp [wholeK, h1, h2])
      clear g0
      go_enter Tryz.func195, Tryz.ntmps195
      go_wp2_with fail
      go_ret
      exact ⟨by rw [E.out]; rfl, rfl⟩
     | cons d q =>
      have hl : (1 : Int) < (bs (c :: d :: q)).size := by rw [hsz]; simp; omega
      have hl2 : 1 < (bs (c :: d :: q)).size := by rw [hsz]; simp
      have g1 : (bs (c :: d :: q))[1] = d := rfl
      by_cases h3 : 128 ≤ d.toNat
      ·have h3' : (128 : Int) ≤ (bs (c :: d :: q))[1].toNat := by rw [g1]; omega
       have E := hide (show wholeK (c :: d :: q) = true by simp [wholeK, h1, h2, h3])
       clear g0 g1
       go_enter Tryz.func195, Tryz.ntmps195
       go_wp2_with fail
       go_ret
       exact ⟨by rw [E.out]; rfl, rfl⟩
      ·have h3' : ¬ (128 : Int) ≤ (bs (c :: d :: q))[1].toNat := by rw [g1]; omega
       have E := hide (show wholeK (c :: d :: q) = false by simp [wholeK, h1, h2, h3])
       have h4' := decide_eq_false h3'
       clear g0 g1
       go_enter Tryz.func195, Tryz.ntmps195
       go_wp2_with fail
       go_ret
       exact ⟨by rw [E.out]; rfl, rfl⟩
    ·have h2' : (((bs (c :: r))[0].toNat : Int) == 0) = false := by rw [g0, beq_eq_false_iff_ne]; omega
     have E := hide (show wholeK (c :: r) = true by simp [wholeK, h1, h2])
     clear g0
     go_enter Tryz.func195, Tryz.ntmps195
     go_wp2_with fail
     go_ret
     exact ⟨by rw [E.out]; rfl, rfl⟩
def Took (w : World) (g : Nat) (s : ByteArray) (t : ByteArray) (p' : Nat) (x' : Int) (e : Ending) (w' : World) : Prop := e = .returned (.string t) ∧ Rdr w' g s p' x' ∧ w.grownBy w' (some g)
section
variable {w : World} {g p k n : Nat} {s : ByteArray} {x : Int}

theorem take_errA (h : Rdr w g s p x) (hx : (x == 0) = false) (m q : Int) : Calls Tryz.prog 178 #[.pointer (some ⟨g, 0, none⟩), .int .i64 m, .int .i64 q, .func (.func 179) #[] #[]] w (Took w g s ⟨#[]⟩ p x) := by
 go_enter Tryz.func178, Tryz.ntmps178
 go_wp2_with fail
 refine (werr_any h).mono ?_
 rintro e w1 ⟨rfl, rfl⟩
 go_wp2_with fail
 go_ret
 exact ⟨rfl, h, only_refl _ _⟩
set_option maxHeartbeats 1000000 in
theorem take_shortA (h : Rdr w g s p 0) (hs : s.size ≤ 1000000) (hp : p ≤ s.size) (hk : k ≤ 4) (hn : n < 4294967296) (hfit : s.size < p + k + n) :
  Calls Tryz.prog 178 #[.pointer (some ⟨g, 0, none⟩), .int .i64 k, .int .i64 n, .func (.func 179) #[] #[]] w (Took w g s ⟨#[]⟩ p 4) := by
 have f1 : w.frozen? ⟨g, 2, none⟩ = false := Blk.frozen h 2
 have h2 : w.cell? ⟨g, 2, none⟩ = some (.int .i64 0) := Blk.cell h 2
 have i1 : ¬ (n : Int) < 0 := by omega
 have i2 : (s.size : Int) - p < (k : Int) + n := by omega
 go_enter Tryz.func178, Tryz.ntmps178
 go_wp2_with fail
 refine (werr_any h).mono ?_
 rintro e w1 ⟨rfl, rfl⟩
 go_wp2_with (first | (go_at_call 151; refine (wleft_any h hp hs).mono ?_; rintro e w2 ⟨rfl, m2, rfl⟩) | fail)
 go_ret
 refine ⟨rfl, ?_, only_setCell (only_drewN (only_refl _ _) _) (.inl rfl) _⟩
 exact Blk.set_ (Blk.drewN h _) 2 _
set_option maxHeartbeats 1000000 in
theorem take_yesA (h : Rdr w g s p 0) (hs : s.size ≤ 1000000) (hfit : p + k + n ≤ s.size) (HM : Hid (∀ W, Calls Tryz.prog 179 #[.string (s.extract (p + k) (p + k + n))] W fun e w' => e = .returned (.bool true) ∧ w' = W)) :
  Calls Tryz.prog 178 #[.pointer (some ⟨g, 0, none⟩), .int .i64 k, .int .i64 n, .func (.func 179) #[] #[]] w (Took w g s (s.extract (p + k) (p + k + n)) (p + k + n) 0) := by
 have h0 : w.cell? ⟨g, 0, none⟩ = some (.string s) := Blk.cell h 0
 have h1 : w.cell? ⟨g, 1, none⟩ = some (.int .i64 p) := Blk.cell h 1
 have f1 : w.frozen? ⟨g, 1, none⟩ = false := Blk.frozen h 1
 go_enter Tryz.func178, Tryz.ntmps178
 go_wp2_with fail
 refine (werr_any h).mono ?_
 rintro e w1 ⟨rfl, rfl⟩
 go_wp2_with (first | (go_at_call 151; refine (wleft_any h (by omega) hs).mono ?_; rintro e w2 ⟨rfl, m2, rfl⟩) | fail)
 go_quiet (fail)
 go_wp2_with (first | (go_at_call 179; refine (HM.out _).mono ?_; rintro e w3 ⟨rfl, rfl⟩) | fail)
 go_ret
 refine ⟨rfl, ?_, only_setCell (only_drewN (only_refl _ _) _) (.inl rfl) _⟩
 have e : ((p + k + n : Nat) : Int) = (p : Int) + ((k : Int) + n) := by omega
 rw [Rdr, e]
 exact Blk.set_ (Blk.drewN h _) 1 _

set_option maxHeartbeats 1000000 in
theorem take_shortB (h : Rdr w g s p 0) (hs : s.size ≤ 1000000) (hp : p ≤ s.size) (hk : k ≤ 4) (hn : n < 4294967296) (hfit : s.size < p + k + n) :
  Calls Tryz.prog 178 #[.pointer (some ⟨g, 0, none⟩), .int .i64 k, .int .i64 n, .func (.func 192) #[] #[]] w (Took w g s ⟨#[]⟩ p 4) := by
 have f1 : w.frozen? ⟨g, 2, none⟩ = false := Blk.frozen h 2
 have h2 : w.cell? ⟨g, 2, none⟩ = some (.int .i64 0) := Blk.cell h 2
 have i1 : ¬ (n : Int) < 0 := by omega
 have i2 : (s.size : Int) - p < (k : Int) + n := by omega
 go_enter Tryz.func178, Tryz.ntmps178
 go_wp2_with fail
 refine (werr_any h).mono ?_
 rintro e w1 ⟨rfl, rfl⟩
 go_wp2_with (first | (go_at_call 151; refine (wleft_any h hp hs).mono ?_; rintro e w2 ⟨rfl, m2, rfl⟩) | fail)
 go_ret
 refine ⟨rfl, ?_, only_setCell (only_drewN (only_refl _ _) _) (.inl rfl) _⟩
 exact Blk.set_ (Blk.drewN h _) 2 _
set_option maxHeartbeats 1000000 in
theorem take_badB (h : Rdr w g s p 0) (hs : s.size ≤ 1000000) (hfit : p + k + n ≤ s.size) (HM : Hid (∀ W, Calls Tryz.prog 192 #[.string (s.extract (p + k) (p + k + n))] W fun e w' => e = .returned (.bool false) ∧ w' = W)) :
  Calls Tryz.prog 178 #[.pointer (some ⟨g, 0, none⟩), .int .i64 k, .int .i64 n, .func (.func 192) #[] #[]] w (Took w g s ⟨#[]⟩ p 3) := by
 have h0 : w.cell? ⟨g, 0, none⟩ = some (.string s) := Blk.cell h 0
 have h1 : w.cell? ⟨g, 1, none⟩ = some (.int .i64 p) := Blk.cell h 1
 have f1 : w.frozen? ⟨g, 2, none⟩ = false := Blk.frozen h 2
 have h2 : w.cell? ⟨g, 2, none⟩ = some (.int .i64 0) := Blk.cell h 2
 go_enter Tryz.func178, Tryz.ntmps178
 go_wp2_with fail
 refine (werr_any h).mono ?_
 rintro e w1 ⟨rfl, rfl⟩
 go_wp2_with (first | (go_at_call 151; refine (wleft_any h (by omega) hs).mono ?_; rintro e w2 ⟨rfl, m2, rfl⟩) | fail)
 go_quiet (fail)
 go_wp2_with (first | (go_at_call 192; refine (HM.out _).mono ?_; rintro e w3 ⟨rfl, rfl⟩) | fail)
 go_ret
 refine ⟨rfl, ?_, only_setCell (only_drewN (only_refl _ _) _) (.inl rfl) _⟩
 exact Blk.set_ (Blk.drewN h _) 2 _
set_option maxHeartbeats 1000000 in
theorem take_yesB (h : Rdr w g s p 0) (hs : s.size ≤ 1000000) (hfit : p + k + n ≤ s.size) (HM : Hid (∀ W, Calls Tryz.prog 192 #[.string (s.extract (p + k) (p + k + n))] W fun e w' => e = .returned (.bool true) ∧ w' = W)) :
  Calls Tryz.prog 178 #[.pointer (some ⟨g, 0, none⟩), .int .i64 k, .int .i64 n, .func (.func 192) #[] #[]] w (Took w g s (s.extract (p + k) (p + k + n)) (p + k + n) 0) := by
 have h0 : w.cell? ⟨g, 0, none⟩ = some (.string s) := Blk.cell h 0
 have h1 : w.cell? ⟨g, 1, none⟩ = some (.int .i64 p) := Blk.cell h 1
 have f1 : w.frozen? ⟨g, 1, none⟩ = false := Blk.frozen h 1
 go_enter Tryz.func178, Tryz.ntmps178
 go_wp2_with fail
 refine (werr_any h).mono ?_
 rintro e w1 ⟨rfl, rfl⟩
 go_wp2_with (first | (go_at_call 151; refine (wleft_any h (by omega) hs).mono ?_; rintro e w2 ⟨rfl, m2, rfl⟩) | fail)
 go_quiet (fail)
 go_wp2_with (first | (go_at_call 192; refine (HM.out _).mono ?_; rintro e w3 ⟨rfl, rfl⟩) | fail)
 go_ret
 refine ⟨rfl, ?_, only_setCell (only_drewN (only_refl _ _) _) (.inl rfl) _⟩
 have e : ((p + k + n : Nat) : Int) = (p : Int) + ((k : Int) + n) := by omega
 rw [Rdr, e]
 exact Blk.set_ (Blk.drewN h _) 1 _

set_option maxHeartbeats 1000000 in
theorem take_shortW (h : Rdr w g s p 0) (hs : s.size ≤ 1000000) (hp : p ≤ s.size) (hk : k ≤ 4) (hn : n < 4294967296) (hfit : s.size < p + k + n) :
  Calls Tryz.prog 178 #[.pointer (some ⟨g, 0, none⟩), .int .i64 k, .int .i64 n, .func (.func 195) #[] #[]] w (Took w g s ⟨#[]⟩ p 4) := by
 have f1 : w.frozen? ⟨g, 2, none⟩ = false := Blk.frozen h 2
 have h2 : w.cell? ⟨g, 2, none⟩ = some (.int .i64 0) := Blk.cell h 2
 have i1 : ¬ (n : Int) < 0 := by omega
 have i2 : (s.size : Int) - p < (k : Int) + n := by omega
 go_enter Tryz.func178, Tryz.ntmps178
 go_wp2_with fail
 refine (werr_any h).mono ?_
 rintro e w1 ⟨rfl, rfl⟩
 go_wp2_with (first | (go_at_call 151; refine (wleft_any h hp hs).mono ?_; rintro e w2 ⟨rfl, m2, rfl⟩) | fail)
 go_ret
 refine ⟨rfl, ?_, only_setCell (only_drewN (only_refl _ _) _) (.inl rfl) _⟩
 exact Blk.set_ (Blk.drewN h _) 2 _
set_option maxHeartbeats 1000000 in
theorem take_badW (h : Rdr w g s p 0) (hs : s.size ≤ 1000000) (hfit : p + k + n ≤ s.size) (HM : Hid (∀ W, Calls Tryz.prog 195 #[.string (s.extract (p + k) (p + k + n))] W fun e w' => e = .returned (.bool false) ∧ w' = W)) :
  Calls Tryz.prog 178 #[.pointer (some ⟨g, 0, none⟩), .int .i64 k, .int .i64 n, .func (.func 195) #[] #[]] w (Took w g s ⟨#[]⟩ p 3) := by
 have h0 : w.cell? ⟨g, 0, none⟩ = some (.string s) := Blk.cell h 0
 have h1 : w.cell? ⟨g, 1, none⟩ = some (.int .i64 p) := Blk.cell h 1
 have f1 : w.frozen? ⟨g, 2, none⟩ = false := Blk.frozen h 2
 have h2 : w.cell? ⟨g, 2, none⟩ = some (.int .i64 0) := Blk.cell h 2
 go_enter Tryz.func178, Tryz.ntmps178
 go_wp2_with fail
 refine (werr_any h).mono ?_
 rintro e w1 ⟨rfl, rfl⟩
 go_wp2_with (first | (go_at_call 151; refine (wleft_any h (by omega) hs).mono ?_; rintro e w2 ⟨rfl, m2, rfl⟩) | fail)
 go_quiet (fail)
 go_wp2_with (first | (go_at_call 195; refine (HM.out _).mono ?_; rintro e w3 ⟨rfl, rfl⟩) | fail)
 go_ret
 refine ⟨rfl, ?_, only_setCell (only_drewN (only_refl _ _) _) (.inl rfl) _⟩
 exact Blk.set_ (Blk.drewN h _) 2 _
set_option maxHeartbeats 1000000 in
theorem take_yesW (h : Rdr w g s p 0) (hs : s.size ≤ 1000000) (hfit : p + k + n ≤ s.size) (HM : Hid (∀ W, Calls Tryz.prog 195 #[.string (s.extract (p + k) (p + k + n))] W fun e w' => e = .returned (.bool true) ∧ w' = W)) :
  Calls Tryz.prog 178 #[.pointer (some ⟨g, 0, none⟩), .int .i64 k, .int .i64 n, .func (.func 195) #[] #[]] w (Took w g s (s.extract (p + k) (p + k + n)) (p + k + n) 0) := by
 have h0 : w.cell? ⟨g, 0, none⟩ = some (.string s) := Blk.cell h 0
 have h1 : w.cell? ⟨g, 1, none⟩ = some (.int .i64 p) := Blk.cell h 1
 have f1 : w.frozen? ⟨g, 1, none⟩ = false := Blk.frozen h 1
 go_enter Tryz.func178, Tryz.ntmps178
 go_wp2_with fail
 refine (werr_any h).mono ?_
 rintro e w1 ⟨rfl, rfl⟩
 go_wp2_with (first | (go_at_call 151; refine (wleft_any h (by omega) hs).mono ?_; rintro e w2 ⟨rfl, m2, rfl⟩) | fail)
 go_quiet (fail)
 go_wp2_with (first | (go_at_call 195; refine (HM.out _).mono ?_; rintro e w3 ⟨rfl, rfl⟩) | fail)
 go_ret
 refine ⟨rfl, ?_, only_setCell (only_drewN (only_refl _ _) _) (.inl rfl) _⟩
 have e : ((p + k + n : Nat) : Int) = (p : Int) + ((k : Int) + n) := by omega
 rw [Rdr, e]
 exact Blk.set_ (Blk.drewN h _) 1 _

theorem text_errA (h : Rdr w g s p x) (hx : (x == 0) = false) : Calls Tryz.prog 194 #[.pointer (some ⟨g, 0, none⟩), .func (.func 179) #[] #[]] w (Took w g s ⟨#[]⟩ p x) := by
 have hx2 : (x != 0) = true := by simp only [bne, hx, Bool.not_false]
 go_enter Tryz.func194, Tryz.ntmps194
 go_wp2_with fail
 refine (werr_any h).mono ?_
 rintro e w1 ⟨rfl, rfl⟩
 go_wp2_with fail
 refine (take_errA h hx 0 4).mono ?_
 rintro e w2 ⟨rfl, hr, ho⟩
 go_wp2_with fail
 go_ret
 exact ⟨rfl, hr, ho⟩
theorem text_fourA (h : Rdr w g s p 0) (hs : s.size ≤ 1000000) (hp : p ≤ s.size) (hfit : s.size < p + 4) : Calls Tryz.prog 194 #[.pointer (some ⟨g, 0, none⟩), .func (.func 179) #[] #[]] w (Took w g s ⟨#[]⟩ p 4) := by
 have i2 : (s.size : Int) - p < 4 := by omega
 go_enter Tryz.func194, Tryz.ntmps194
 go_wp2_with fail
 refine (werr_any h).mono ?_
 rintro e w1 ⟨rfl, rfl⟩
 go_wp2_with (first | (go_at_call 151; refine (wleft_any h hp hs).mono ?_; rintro e w2 ⟨rfl, m2, rfl⟩) | fail)
 have h2 : Rdr (w1.drewN m2) g s p 0 := Blk.drewN h _
 refine (take_shortA (k := 0) (n := 4) h2 hs hp (by omega) (by omega) (by omega)).mono ?_
 rintro e w3 ⟨rfl, hr, ho⟩
 go_wp2_with fail
 go_ret
 exact ⟨rfl, hr, only_trans (only_drewN (only_refl _ _) _) ho⟩
set_option maxHeartbeats 1000000 in
set_option maxRecDepth 100000 in
theorem text_goA {R : ByteArray → World → Prop} (h : Rdr w g s p 0) (hs : s.size ≤ 1000000) (hfit : p + 4 ≤ s.size)
  (HT : Hid (∀ W, Rdr W g s p 0 → w.grownBy W (some g) → Calls Tryz.prog 178 #[.pointer (some ⟨g, 0, none⟩), .int .i64 4, .int .i64 (numb (s.extract p (p + 4)).data.toList), .func (.func 179) #[] #[]] W (fun e w' => ∃ t, e = .returned (.string t) ∧ R t w'))) :
  Calls Tryz.prog 194 #[.pointer (some ⟨g, 0, none⟩), .func (.func 179) #[] #[]] w (fun e w' => ∃ t, e = .returned (.string t) ∧ R t w') := by
 have h0 : w.cell? ⟨g, 0, none⟩ = some (.string s) := Blk.cell h 0
 have h1 : w.cell? ⟨g, 1, none⟩ = some (.int .i64 p) := Blk.cell h 1
 have i2 : ¬ (s.size : Int) - p < 4 := by omega
 have hnl : (s.extract p (p + 4)).size ≤ 9223372036854775807 := by rw [ByteArray.size_extract]; omega
 have HN := hide (fun W => wnumber_any (s.extract p (p + 4)) W hnl)
 have hq := numb4lt (s.extract p (p + 4)).data.toList
 generalize numb (s.extract p (p + 4)).data.toList = q at HN HT hq
 have hq2 : (q : Int) < 4294967296 := by omega
 have HX := hide (And.intro hfit hs)
 have hwp : IntKind.i64.wrap ((p : Int) + 4) = ((p + 4 : Nat) : Int) := by rw [wrap_small _ (by omega) (by omega)]; omega
 have hw : IntKind.i64.wrap (q : Int) = q := wrap_small _ (by omega) (by omega)
 clear hnl hq hq2
 go_enter Tryz.func194, Tryz.ntmps194
 go_wp2_with fail
 refine (werr_any h).mono ?_
 rintro e w1 ⟨rfl, rfl⟩
 go_upto_region 3 with (first | (go_at_call 151; refine (wleft_any h (by have := HX.out; omega) hs).mono ?_; rintro e w2 ⟨rfl, m2, rfl⟩) | fail)
 go_quiet ((go_at_call 177; exact (HN.out _).mono fun _ _ h9 => ⟨h9.1, _, h9.2⟩))
 go_wp2_with fail
 refine (HT.out _ (Blk.drewN h _) (only_drewN (only_refl _ _) _)).mono ?_
 rintro e w3 ⟨t, rfl, hQ⟩
 go_wp2_with fail
 go_ret
 exact ⟨t, rfl, hQ⟩

theorem text_fourW (h : Rdr w g s p 0) (hs : s.size ≤ 1000000) (hp : p ≤ s.size) (hfit : s.size < p + 4) : Calls Tryz.prog 194 #[.pointer (some ⟨g, 0, none⟩), .func (.func 195) #[] #[]] w (Took w g s ⟨#[]⟩ p 4) := by
 have i2 : (s.size : Int) - p < 4 := by omega
 go_enter Tryz.func194, Tryz.ntmps194
 go_wp2_with fail
 refine (werr_any h).mono ?_
 rintro e w1 ⟨rfl, rfl⟩
 go_wp2_with (first | (go_at_call 151; refine (wleft_any h hp hs).mono ?_; rintro e w2 ⟨rfl, m2, rfl⟩) | fail)
 have h2 : Rdr (w1.drewN m2) g s p 0 := Blk.drewN h _
 refine (take_shortA (k := 0) (n := 4) h2 hs hp (by omega) (by omega) (by omega)).mono ?_
 rintro e w3 ⟨rfl, hr, ho⟩
 go_wp2_with fail
 go_ret
 exact ⟨rfl, hr, only_trans (only_drewN (only_refl _ _) _) ho⟩
set_option maxHeartbeats 1000000 in
set_option maxRecDepth 100000 in
theorem text_goW {R : ByteArray → World → Prop} (h : Rdr w g s p 0) (hs : s.size ≤ 1000000) (hfit : p + 4 ≤ s.size)
  (HT : Hid (∀ W, Rdr W g s p 0 → w.grownBy W (some g) → Calls Tryz.prog 178 #[.pointer (some ⟨g, 0, none⟩), .int .i64 4, .int .i64 (numb (s.extract p (p + 4)).data.toList), .func (.func 195) #[] #[]] W (fun e w' => ∃ t, e = .returned (.string t) ∧ R t w'))) :
  Calls Tryz.prog 194 #[.pointer (some ⟨g, 0, none⟩), .func (.func 195) #[] #[]] w (fun e w' => ∃ t, e = .returned (.string t) ∧ R t w') := by
 have h0 : w.cell? ⟨g, 0, none⟩ = some (.string s) := Blk.cell h 0
 have h1 : w.cell? ⟨g, 1, none⟩ = some (.int .i64 p) := Blk.cell h 1
 have i2 : ¬ (s.size : Int) - p < 4 := by omega
 have hnl : (s.extract p (p + 4)).size ≤ 9223372036854775807 := by rw [ByteArray.size_extract]; omega
 have HN := hide (fun W => wnumber_any (s.extract p (p + 4)) W hnl)
 have hq := numb4lt (s.extract p (p + 4)).data.toList
 generalize numb (s.extract p (p + 4)).data.toList = q at HN HT hq
 have hq2 : (q : Int) < 4294967296 := by omega
 have HX := hide (And.intro hfit hs)
 have hwp : IntKind.i64.wrap ((p : Int) + 4) = ((p + 4 : Nat) : Int) := by rw [wrap_small _ (by omega) (by omega)]; omega
 have hw : IntKind.i64.wrap (q : Int) = q := wrap_small _ (by omega) (by omega)
 clear hnl hq hq2
 go_enter Tryz.func194, Tryz.ntmps194
 go_wp2_with fail
 refine (werr_any h).mono ?_
 rintro e w1 ⟨rfl, rfl⟩
 go_upto_region 3 with (first | (go_at_call 151; refine (wleft_any h (by have := HX.out; omega) hs).mono ?_; rintro e w2 ⟨rfl, m2, rfl⟩) | fail)
 go_quiet ((go_at_call 177; exact (HN.out _).mono fun _ _ h9 => ⟨h9.1, _, h9.2⟩))
 go_wp2_with fail
 refine (HT.out _ (Blk.drewN h _) (only_drewN (only_refl _ _) _)).mono ?_
 rintro e w3 ⟨t, rfl, hQ⟩
 go_wp2_with fail
 go_ret
 exact ⟨t, rfl, hQ⟩

set_option maxHeartbeats 1000000 in
theorem take_negA (h : Rdr w g s p 0) : Calls Tryz.prog 178 #[.pointer (some ⟨g, 0, none⟩), .int .i64 0, .int .i64 (-1), .func (.func 179) #[] #[]] w (Took w g s ⟨#[]⟩ p 4) := by
 have f1 : w.frozen? ⟨g, 2, none⟩ = false := Blk.frozen h 2
 have h2 : w.cell? ⟨g, 2, none⟩ = some (.int .i64 0) := Blk.cell h 2
 go_enter Tryz.func178, Tryz.ntmps178
 go_wp2_with fail
 refine (werr_any h).mono ?_
 rintro e w1 ⟨rfl, rfl⟩
 go_wp2_with fail
 go_ret
 refine ⟨rfl, ?_, only_setCell (only_refl _ _) (.inl rfl) _⟩
 exact Blk.set_ h 2 _

end
end Go.Proofs.YtmgfcjpifkoahaaGreatDoor
