/-
  The contracts of code's reader: byte1, number, text. Conditions: at most a million bytes.
-/
import Derived.Test.YtmgfcjpifkoahaaGreatDoorKRefA
import Derived.Test.YtmgfcjpifkoahaaGreatDoorKMakeA
set_option linter.unusedVariables false
set_option linter.unusedSimpArgs false
namespace Go.Proofs.YtmgfcjpifkoahaaGreatDoor
open Go.RowKit Go.ChangeShapes Go.WideShapes Go.Sort

def Bk (w : World) (b g : Nat) (s : ByteArray) (p : Nat) : Prop := Blk w b 181 #[.pointer (some ⟨g, 0, none⟩), .string s, .int .i64 p]
section
variable {w wr : World} {b g : Nat} {s : ByteArray} {p : Nat}
theorem Bk.set_ (h : Bk w b g s p) (q : Nat) : Bk (w.setCell ⟨b, 2, none⟩ (.int .i64 q)) b g s q := by
 have := Blk.set_ (cs := #[.pointer (some ⟨g, 0, none⟩), .string s, .int .i64 p]) h 2 (.int .i64 q)
 simpa [Bk] using this
theorem Bk.drewN (h : Bk w b g s p) (n : Nat) : Bk (w.drewN n) b g s p := Blk.below h (below_drewN (Below.refl _ _) n) (Blk.lt h)
def B1 (s : ByteArray) (p : Nat) (b g : Nat) (w : World) (e : Ending) (w' : World) : Prop :=
 ∃ p', (if h : p < s.size then e = .returned (.tuple #[.int .u8 s[p].toNat, .bool true]) ∧ p' = p + 1 else e = .returned (.tuple #[.int .u8 0, .bool false]) ∧ p' = p) ∧ Bk w' b g s p' ∧ w.grownBy w' (some b)
set_option maxHeartbeats 1000000 in
set_option maxRecDepth 100000 in
theorem byte1_any (h : Bk w b g s p) (hs : s.size ≤ 1000000) (hp : p ≤ s.size) : Calls Tryz.prog 180 #[.pointer (some ⟨b, 0, none⟩)] w (B1 s p b g w) := by
 have H := hide h
 have c1 : w.cell? ⟨b, 1, none⟩ = some (.string s) := Blk.cell h 1
 have c2 : w.cell? ⟨b, 2, none⟩ = some (.int .i64 p) := Blk.cell h 2
 have f2 := Blk.frozen h 2
 clear h
 by_cases hlt : p < s.size
 ·have hle : ¬ (s.size : Int) ≤ p := by omega
  have w1 : IntKind.i64.wrap ((p : Int) + 1) = ((p + 1 : Nat) : Int) := by rw [IntKind.wrap_i64]; omega
  have d1 : (w.setCell ⟨b, 2, none⟩ (.int .i64 ((p + 1 : Nat) : Int))).cell? ⟨b, 1, none⟩ = some (.string s) := Blk.cell (H.out.set_ (p + 1)) 1
  have d2 : (w.setCell ⟨b, 2, none⟩ (.int .i64 ((p + 1 : Nat) : Int))).cell? ⟨b, 2, none⟩ = some (.int .i64 ((p + 1 : Nat) : Int)) := Blk.cell (H.out.set_ (p + 1)) 2
  go_enter Tryz.func180, Tryz.ntmps180
  go_wp2
  go_quiet (fail)
  go_wp2
  go_quiet (fail)
  go_wp2
  go_ret2
  exact ⟨p + 1, by rw [dif_pos hlt]; exact ⟨rfl, rfl⟩, ((H.out.drewN _).set_ (p + 1)).drewN _, only_drewN (only_setCell (only_drewN (only_refl _ _) _) (.inl rfl) _) _⟩
 ·have hle : (s.size : Int) ≤ p := by omega
  go_enter Tryz.func180, Tryz.ntmps180
  go_wp2
  go_quiet (fail)
  go_wp2
  go_ret2
  exact ⟨p, by rw [dif_neg hlt]; exact ⟨rfl, rfl⟩, H.out.drewN _, only_drewN (only_refl _ _) _⟩
theorem cNum_no (h : Bk w b g s p) (hs : s.size ≤ 1000000) (hp : p ≤ s.size) (hn : s.size < p + 4) : Calls Tryz.prog 188 #[.pointer (some ⟨b, 0, none⟩)] w fun e w' => e = .returned (.tuple #[.int .i64 0, .bool false]) ∧ Bk w' b g s p ∧ w.grownBy w' (some b) := by
 have H := hide h
 have c1 : w.cell? ⟨b, 1, none⟩ = some (.string s) := Blk.cell h 1
 have c2 : w.cell? ⟨b, 2, none⟩ = some (.int .i64 p) := Blk.cell h 2
 clear h
 have hi : ((s.size : Int) - (p : Int)) < 4 := by omega
 go_enter Tryz.func188, Tryz.ntmps188
 go_wp2
 go_quiet (fail)
 go_wp2
 go_ret2
 exact ⟨rfl, H.out.drewN _, only_drewN (only_refl _ _) _⟩
def nbP (l : List UInt8) (i : Nat) : Nat := (l.take i).foldl (fun n c => n * 256 + c.toNat) 0
theorem nb_step {l : List UInt8} {i : Nat} {c : UInt8} (h : l[i]? = some c) : nbP l (i + 1) = nbP l i * 256 + c.toNat := by
 unfold nbP
 rw [List.take_add_one, h]
 simp
theorem nb_lt (l : List UInt8) (i : Nat) : nbP l i < 256 ^ i := by
 induction i with
 | zero => simp [nbP]
 | succ i ih =>
  cases h : l[i]? with
  | none =>
   have : nbP l (i + 1) = nbP l i := by unfold nbP; rw [List.take_add_one, h]; simp
   rw [this, Nat.pow_succ]
   omega
  | some c =>
   rw [nb_step h, Nat.pow_succ]
   have := c.toNat_lt
   omega
theorem nb_four {l : List UInt8} (h : 4 ≤ l.length) : nbP l 4 = n4 l := by
 match l, h with
 | x :: y :: z :: u :: r, _ =>
  simp only [nbP, List.take_succ_cons, List.take_zero, List.foldl_cons, List.foldl_nil, n4]
  omega
theorem or_i64 {n c : Nat} (hn : n < 16777216) (hc : c < 256) : bits .or .i64 ((n * 256 : Nat) : Int) (c : Int) = ((n * 256 + c : Nat) : Int) := by
 have h := bits_join .i64 63 (by decide) (fun x h0 h1 => by rw [IntKind.wrap_i64]; omega) 8 ((n * 256 : Nat) : Int) (c : Int) (by omega) (by omega) (by omega) (by omega) (by omega) (by omega)
 rw [h]
 omega
set_option maxHeartbeats 1000000 in
set_option maxRecDepth 100000 in
theorem cNum_yes (h : Bk w b g s p) (hs : s.size ≤ 1000000) (hn : p + 4 ≤ s.size) : Calls Tryz.prog 188 #[.pointer (some ⟨b, 0, none⟩)] w fun e w' => e = .returned (.tuple #[.int .i64 (n4 (s.data.toList.drop p)), .bool true]) ∧ Bk w' b g s (p + 4) ∧ w.grownBy w' (some b) := by
 have H := hide h
 have c1 : w.cell? ⟨b, 1, none⟩ = some (.string s) := Blk.cell h 1
 have c2 : w.cell? ⟨b, 2, none⟩ = some (.int .i64 p) := Blk.cell h 2
 clear h
 have hi : ¬ ((s.size : Int) - (p : Int)) < 4 := by omega
 go_enter Tryz.func188, Tryz.ntmps188
 go_wp2
 go_quiet (fail)
 go_wp2_with fail
 go_loopw [16, 4] (fun vi vn wr => ∃ i : Nat, vi = .int .i64 i ∧ i ≤ 4 ∧ vn = .int .i64 (nbP (s.data.toList.drop p) i) ∧ Hid (Bk wr b g s (p + i)) ∧ Hid (w.grownBy wr (some b))) (fun vi _ _ => 4 - (intOf vi).toNat)
 case atStart => exact ⟨0, rfl, by omega, rfl, hide (H.out.drewN _), hide (only_drewN (only_refl _ _) _)⟩
 case round =>
  obtain ⟨i, rfl, hi4, rfl, hB, hG⟩ := hrel
  by_cases h4 : i < 4
  ·have hii : (i : Int) < 4 := by omega
   obtain ⟨q, hq⟩ : ∃ q, q = p + i := ⟨_, rfl⟩
   rw [← hq] at hB
   have e1 : wr.cell? ⟨b, 1, none⟩ = some (.string s) := Blk.cell hB.out 1
   have e2 : wr.cell? ⟨b, 2, none⟩ = some (.int .i64 q) := Blk.cell hB.out 2
   have f2 := Blk.frozen hB.out 2
   have hb := nb_lt (s.data.toList.drop p) i
   have hlt : q < s.size := by omega
   have hpw : 256 ^ i ≤ 16777216 := by
    obtain rfl | rfl | rfl | rfl : i = 0 ∨ i = 1 ∨ i = 2 ∨ i = 3 := by omega
    all_goals decide
   have hc : (s.data.toList.drop p)[i]? = some (s[q]) := by
    rw [List.getElem?_drop, ← hq, List.getElem?_eq_getElem (by exact hlt)]
    rfl
   have Hst := hide (nb_step hc)
   have hclt := s[q].toNat_lt
   generalize nbP (s.data.toList.drop p) i = n at Hst hb ⊢
   have hqi : (q : Int) < s.size := by omega
   have hq0 : (0 : Int) ≤ q := by omega
   have w8 : IntKind.i64.wrap ((n : Int) * 256) = ((n * 256 : Nat) : Int) := by rw [IntKind.wrap_i64]; omega
   have wq : IntKind.i64.wrap ((q : Int) + 1) = ((q + 1 : Nat) : Int) := by rw [IntKind.wrap_i64]; omega
   have Hq := hide hq
   have Ho := hide (or_i64 (n := n) (c := s[q].toNat) (by omega) hclt)
   clear hq hc
   go_wp2
   go_quiet (fail)
   go_wp2
   refine ⟨⟨i + 1, by go_num, by omega, ?_, hide ?_, hide ?_⟩, by simp [intOf]; omega⟩
   ·rw [Hst.out, show ((n : Int) * 256) = ((n * 256 : Nat) : Int) by omega, Ho.out]
   ·rw [← Nat.add_assoc, ← Hq.out]
    exact (hB.out.drewN _).set_ (q + 1)
   ·exact only_setCell (only_drewN hG.out _) (.inl rfl) _
  ·obtain rfl : i = 4 := by omega
   have HN := hide (nb_four (l := s.data.toList.drop p) (by rw [List.length_drop, size_len]; omega))
   go_wp2
   go_ret2
   exact ⟨by rw [HN.out]; rfl, hB.out, hG.out⟩
set_option maxHeartbeats 1000000 in
set_option maxRecDepth 100000 in
theorem cText1_no1 (h : Bk w b g s p) (hs : s.size ≤ 1000000) (hp : p ≤ s.size) (h4 : s.size < p + 4) : Calls Tryz.prog 185 #[.pointer (some ⟨b, 0, none⟩)] w fun e w' => e = .returned (.tuple #[.string ⟨#[]⟩, .bool false]) ∧ Bk w' b g s p ∧ w.grownBy w' (some b) := by
 have HN := hide (cNum_no h hs hp h4)
 clear h
 go_enter Tryz.func185, Tryz.ntmps185
 go_wp2_with (go_at_call 188; refine HN.out.mono ?_; rintro e w1 ⟨rfl, hB1, hG1⟩)
 refine wp_region_quiet_lit (by kernel_rfl) (by kernel_rfl) ?_
 repeat (first | go_big_quiet_skip | quiet_step (fail))
 refine wpQuiet_nil ?_
 intro _ hw'
 obtain ⟨nq, hw''⟩ := hw'
 subst hw''
 go_wp2
 go_ret2
 exact ⟨rfl, hB1.drewN _, only_drewN hG1 _⟩
set_option maxHeartbeats 1000000 in
set_option maxRecDepth 100000 in
theorem cText1_no2 (h : Bk w b g s p) (hs : s.size ≤ 1000000) {n : Nat} (hn : n = n4 (s.data.toList.drop p)) (h4 : p + 4 ≤ s.size) (h5 : s.size < p + 4 + n) : Calls Tryz.prog 185 #[.pointer (some ⟨b, 0, none⟩)] w fun e w' => e = .returned (.tuple #[.string ⟨#[]⟩, .bool false]) ∧ Bk w' b g s (p + 4) ∧ w.grownBy w' (some b) := by
 have HN := hide (cNum_yes h hs h4)
 rw [← hn] at HN
 have hi : (s.size : Int) - ((p + 4 : Nat) : Int) < n := by omega
 generalize p + 4 = q at HN hi h4 h5 ⊢
 have hi2 : (s.size : Int) < (n : Int) + q := by omega
 have hi3 : (s.size : Int) < (q : Int) + n := by omega
 have hi4 : s.size < n + q := by omega
 have hi5 : ¬ n ≤ s.size - q ∨ True := .inr trivial
 have wq : IntKind.i64.wrap ((s.size : Int) - q) = (s.size : Int) - q := by rw [IntKind.wrap_i64]; omega
 clear h hn h4 hi5
 go_enter Tryz.func185, Tryz.ntmps185
 go_wp2_with (go_at_call 188; refine HN.out.mono ?_; rintro e w1 ⟨rfl, hB1, hG1⟩; have e1 : w1.cell? ⟨b, 1, none⟩ = some (.string s) := Blk.cell hB1 1; have e2 : w1.cell? ⟨b, 2, none⟩ = some (.int .i64 q) := Blk.cell hB1 2)
 go_quiet (fail)
 go_wp2
 go_ret2
 exact ⟨rfl, hB1.drewN _, only_drewN hG1 _⟩
set_option maxHeartbeats 1000000 in
set_option maxRecDepth 100000 in
theorem cText1_yes (h : Bk w b g s p) (hs : s.size ≤ 1000000) {n : Nat} (hn : n = n4 (s.data.toList.drop p)) (h5 : p + 4 + n ≤ s.size) : Calls Tryz.prog 185 #[.pointer (some ⟨b, 0, none⟩)] w fun e w' => e = .returned (.tuple #[.string (bs ((s.data.toList.drop (p + 4)).take n)), .bool true]) ∧ Bk w' b g s (p + 4 + n) ∧ w.grownBy w' (some b) := by
 have HN := hide (cNum_yes h hs (by omega))
 rw [← hn] at HN
 have He := hide (show s.extract (p + 4) (p + 4 + n) = bs ((s.data.toList.drop (p + 4)).take n) by rw [ext_bs]; congr 2; omega)
 generalize p + 4 = q at HN He h5 ⊢
 have hi2 : ¬ (s.size : Int) < (n : Int) + q := by omega
 have hi3 : ¬ (s.size : Int) < (q : Int) + n := by omega
 have hi4 : ¬ s.size < n + q := by omega
 have hi : ¬ (s.size : Int) - (q : Int) < n := by omega
 have wq : IntKind.i64.wrap ((s.size : Int) - q) = (s.size : Int) - q := by rw [IntKind.wrap_i64]; omega
 obtain ⟨q2, hq2⟩ : ∃ q2, q2 = q + n := ⟨_, rfl⟩
 have w1' : IntKind.i64.wrap ((q : Int) + n) = (q2 : Int) := by rw [IntKind.wrap_i64]; omega
 have w2' : (q : Int) + n = (q2 : Int) := by omega
 have w3' : (q2 : Int) - n = (q : Int) := by omega
 have b1 : (0 : Int) ≤ q := by omega
 have b2 : (q : Int) ≤ q2 := by omega
 have b3 : (q2 : Int) ≤ s.size := by omega
 rw [← hq2] at He h5 ⊢
 clear h hn hq2
 go_enter Tryz.func185, Tryz.ntmps185
 go_wp2_with (go_at_call 188; refine HN.out.mono ?_; rintro e w1 ⟨rfl, hB1, hG1⟩; have e1 : w1.cell? ⟨b, 1, none⟩ = some (.string s) := Blk.cell hB1 1; have e2 : w1.cell? ⟨b, 2, none⟩ = some (.int .i64 q) := Blk.cell hB1 2; have f2 := Blk.frozen hB1 2)
 go_quiet (fail)
 go_wp2
 go_quiet (fail)
 go_wp2
 go_ret2
 exact ⟨by rw [← He.out]; rfl, ((hB1.drewN _).set_ q2).drewN _, only_drewN (only_setCell (only_drewN hG1 _) (.inl rfl) _) _⟩
end
end Go.Proofs.YtmgfcjpifkoahaaGreatDoor
