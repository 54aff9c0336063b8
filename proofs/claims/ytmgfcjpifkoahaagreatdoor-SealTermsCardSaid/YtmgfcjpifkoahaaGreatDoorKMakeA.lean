/-
  Several of my texts in one: Make, Exp, New.
-/
import Derived.Test.YtmgfcjpifkoahaaGreatDoorKPut
import Derived.Test.YtmgfcjpifkoahaaGreatDoorKSortA
set_option linter.unusedVariables false
set_option linter.unusedSimpArgs false
/-
  The contracts of an arena's makers but Exp. Conditions: numbers fit; the library's table is as it was laid.
-/
namespace Go.Proofs.YtmgfcjpifkoahaaGreatDoor
open Go.RowKit Go.ChangeShapes Go.WideShapes Go.Sort

section
variable {B g : Nat} {w w2 : World} {T : List Tm} {S : Nat → Prop}
theorem Done.from_ {o : Option Tm} {e : Ending} {w' : World} (h : Done B w2 g T S o e w') (hb : Below w.heap.size w w2) : Done B w g T S o e w' := by
 obtain ⟨T', n, S', h1, h2, h3, h4⟩ := h
 exact ⟨T', n, S', h1, h2, h3, (Grown.of_below hb).trans h4⟩
structure Use (B : Nat) (w : World) (g : Nat) (T : List Tm) (S : Nat → Prop) : Prop where
 ar : Ar B w g T S
 old : ∃ w0 : World, Tab w0 ∧ w0.heap.size ≤ B ∧ Below w0.heap.size w0 w
 base : B ≤ w.heap.size
 few : T.length ≤ 1000000000
theorem Use.tab (h : Use B w g T S) : Tab w := by
 obtain ⟨w0, h1, _, h2⟩ := h.old
 exact h1.below h2
theorem Use.below (h : Use B w g T S) (hb : Below w.heap.size w w2) : Use B w2 g T S := by
 obtain ⟨w0, h1, h2, h3⟩ := h.old
 exact ⟨h.ar.below hb, ⟨w0, h1, h2, h3.trans (hb.mono h3.size)⟩, Nat.le_trans h.base hb.size, h.few⟩
theorem Use.grown (h : Use B w g T S) {T' : List Tm} {S' : Nat → Prop} (hg : Grown S w S' w2) (ha : Ar B w2 g T' S') (hf : T'.length ≤ 1000000000) : Use B w2 g T' S' := by
 obtain ⟨w0, h1, h2, h3⟩ := h.old
 exact ⟨ha, ⟨w0, h1, h2, h3.trans ((hg.below h.base h.ar.sB).mono h2)⟩, Nat.le_trans h.base hg.size, hf⟩
theorem Use.kept {row : Option Nat} (h : Use B w g T S) (k : w.grownBy w2 row) (hr : ∀ b, row = some b → ¬ S b ∧ B ≤ b) : Use B w2 g T S := by
 obtain ⟨w0, h1, h2, h3⟩ := h.old
 refine ⟨h.ar.kept k fun b e => (hr b e).1, ⟨w0, h1, h2, ?_⟩, Nat.le_trans h.base k.size, h.few⟩
 exact ⟨k.os.trans h3.os, k.tape.trans h3.tape, k.output.trans h3.output, Nat.le_trans h3.size k.size, fun i hi => (k.block i (Nat.lt_of_lt_of_le hi h3.size) (fun e => by have := (hr i e.symm).2; omega)).trans (h3.block i hi)⟩
theorem put_at (h : Use B w g T S) (hbw : Below w.heap.size w w2) {k a b : Nat} {s : ByteArray} {av : Value} {ns : List Int} (hI : Ids w2 av ns) (ha : a < 4294967296) (hb : b < 4294967296) (hs : s.size ≤ 1000000) (hn : ns.length ≤ 40)
  (hh : ∀ l, argl T ns = some l → hd k a b s l.length ∧ kids k l) (x y z : Int) (hx : x = k) (hy : y = a) (hz : z = b) :
  Calls Tryz.prog 40 #[.pointer (some ⟨g, 0, none⟩), .agg #[.int .i64 x, .int .i64 y, .int .i64 z, .string s, av]] w2 (Done B w g T S (nodeO T k a b s ns)) := by
 subst hx hy hz
 have h2 := h.below hbw
 exact (put_any h2.ar h2.tab h2.base h2.few hI ha hb hs hn hh).mono fun e w' hd => hd.from_ hbw
theorem eB_size : eB.size ≤ 1000000 := Nat.zero_le _
theorem argl_nil {T l : List Tm} (h : argl T [] = some l) : l = [] := by
 unfold argl at h
 simp only [List.map_nil, alls, Option.some.injEq] at h
 exact h.symm
theorem ids_blk {w : World} {b : Nat} {t : TypeId} {ns : List Int} (h : Blk w b t (ns.map (Value.int .i64)).toArray) (v : Value) (c : Nat) (hv : v = .slice (some ⟨b, 0, none⟩) ns.length c) : Ids w v ns := by
 subst hv
 exact ⟨_, _, rfl, by simp, fun _ => ⟨_, rfl, Nat.zero_le _, h.lt, fun j u hu => by rw [add_zero_, h.cell j]; simpa using hu⟩⟩
theorem ids_new1 (w : World) (t : TypeId) (n : Int) : Ids (w.alloc (.cells #[.int .i64 n] t)) (.slice (some ⟨w.heap.size, 0, none⟩) 1 1) [n] := ids_blk (Blk.new w t _) _ 1 rfl
theorem ids_new2 (w : World) (t : TypeId) (n m : Int) : Ids (w.alloc (.cells #[.int .i64 n, .int .i64 m] t)) (.slice (some ⟨w.heap.size, 0, none⟩) 2 2) [n, m] := ids_blk (Blk.new w t _) _ 2 rfl
theorem ids_new3 (w : World) (t : TypeId) (n m p : Int) : Ids (w.alloc (.cells #[.int .i64 n, .int .i64 m, .int .i64 p] t)) (.slice (some ⟨w.heap.size, 0, none⟩) 3 3) [n, m, p] := ids_blk (Blk.new w t _) _ 3 rfl
theorem bel_new {w : World} (o : Obj) : Below w.heap.size w (w.alloc o) := (Below.refl _ _).alloc (Nat.le_refl _) o
theorem number_any (n : Int) (w : World) : Calls Tryz.prog 101 #[.int .i64 n] w fun e w' => e = .returned (.bool (okN n)) ∧ w = w' := by
 go_enter Tryz.func101, Tryz.ntmps101
 go_wp2
 all_goals go_ret
 all_goals exact ⟨ret_bool (by unfold okN; (first | (simp_all; done) | (simp_all; omega) | (rw [Bool.eq_iff_iff]; simp_all; done) | (rw [Bool.eq_iff_iff]; simp_all; omega))), rfl⟩
def okT (s : ByteArray) (m : Int) : Bool := decide (1 ≤ s.size ∧ (s.size : Int) ≤ m)
theorem text_any (s : ByteArray) (m : Int) (w : World) (hs : s.size ≤ 9223372036854775807) : Calls Tryz.prog 129 #[.string s, .int .i64 m] w fun e w' => e = .returned (.bool (okT s m)) ∧ w = w' := by
 go_enter Tryz.func129, Tryz.ntmps129
 go_wp2
 all_goals go_ret
 all_goals exact ⟨ret_bool (by unfold okT; (first | (simp_all; done) | (simp_all; omega) | (rw [Bool.eq_iff_iff]; simp_all; done) | (rw [Bool.eq_iff_iff]; simp_all; omega))), rfl⟩
theorem okT_iff {s : ByteArray} {m : Int} : okT s m = true ↔ 1 ≤ s.size ∧ (s.size : Int) ≤ m := by simp [okT]
set_option maxHeartbeats 400000 in
theorem aData_any (h : Use B w g T S) {s : ByteArray} (hs : s.size ≤ 1000000) :
  Calls Tryz.prog 18 #[.pointer (some ⟨g, 0, none⟩), .string s] w (Done B w g T S (tData s)) := by
 have HP := hide (fun w2 (hb : Below w.heap.size w w2) => put_at h hb (k := 1) (a := 0) (b := 0) (s := s) (av := .slice none 0 0) (ids_nil w2 0) (by omega) (by omega) hs (by simp) (fun l hl => by rw [argl_nil hl]; exact ⟨⟨rfl, rfl, rfl, by omega⟩, trivial⟩) 1 0 0 rfl rfl rfl)
 clear h
 go_enter Tryz.func18, Tryz.ntmps18
 go_wp2_with (go_at_call 40; refine (HP.out _ (by exact bel_by)).mono ?_; rintro e w' ⟨T', n, S', rfl, hp, hA, hG⟩)
 go_ret
 exact ⟨T', n, S', rfl, hp, hA, hG⟩
set_option maxHeartbeats 400000 in
theorem aNonce_any (h : Use B w g T S) (who n : Int) :
  Calls Tryz.prog 70 #[.pointer (some ⟨g, 0, none⟩), .int .i64 who, .int .i64 n] w (Done B w g T S (tNonce who n)) := by
 by_cases h1 : okN who = true
 ·by_cases h2 : okN n = true
  ·have HP := hide (fun w2 (hb : Below w.heap.size w w2) => put_at h hb (k := 2) (a := who.toNat) (b := n.toNat) (s := eB) (av := .slice none 0 0) (ids_nil w2 0) (by have := okN_iff.1 h1; omega) (by have := okN_iff.1 h2; omega) eB_size (by simp) (fun l hl => by rw [argl_nil hl]; have := okN_iff.1 h1; have := okN_iff.1 h2; exact ⟨⟨by omega, by omega, rfl, rfl⟩, trivial⟩) 2 who n rfl (by have := okN_iff.1 h1; omega) (by have := okN_iff.1 h2; omega))
   rw [nodeO_nonce h1 h2] at HP
   clear h
   go_enter Tryz.func70, Tryz.ntmps70
   go_wp2_with (first
    | (go_at_call 101; refine (number_any _ _).mono ?_; rintro e w1 ⟨rfl, rfl⟩)
    | (go_at_call 40; refine (HP.out _ (by exact bel_by)).mono ?_; rintro e w' ⟨T', n, S', rfl, hp, hA, hG⟩))
   go_ret
   exact ⟨T', _, S', rfl, hp, hA, hG⟩
  ·have h2 : okN n = false := by simpa using h2
   have Hn := hide (Done.none_ h.ar (Below.refl _ _))
   have Ho := hide (show tNonce who n = none by unfold tNonce; rw [h1, h2]; rfl)
   clear h
   go_enter Tryz.func70, Tryz.ntmps70
   go_wp2_with (go_at_call 101; refine (number_any _ _).mono ?_; rintro e w1 ⟨rfl, rfl⟩)
   go_ret
   rw [Ho.out]
   exact Hn.out
 ·have h1 : okN who = false := by simpa using h1
  have Hn := hide (Done.none_ h.ar (Below.refl _ _))
  have Ho := hide (show tNonce who n = none by unfold tNonce; rw [h1]; rfl)
  clear h
  go_enter Tryz.func70, Tryz.ntmps70
  go_wp2_with (go_at_call 101; refine (number_any _ _).mono ?_; rintro e w1 ⟨rfl, rfl⟩)
  go_ret
  rw [Ho.out]
  exact Hn.out
set_option maxHeartbeats 400000 in
theorem aKey_any (h : Use B w g T S) (who : Int) :
  Calls Tryz.prog 42 #[.pointer (some ⟨g, 0, none⟩), .int .i64 who] w (Done B w g T S (tKey who)) := by
 by_cases h1 : okN who = true
 ·have HP := hide (fun w2 (hb : Below w.heap.size w w2) => put_at h hb (k := 3) (a := who.toNat) (b := 0) (s := eB) (av := .slice none 0 0) (ids_nil w2 0) (by have := okN_iff.1 h1; omega) (by omega) eB_size (by simp) (fun l hl => by rw [argl_nil hl]; have := okN_iff.1 h1; exact ⟨⟨by omega, rfl, rfl, rfl⟩, trivial⟩) 3 who 0 rfl (by have := okN_iff.1 h1; omega) rfl)
  rw [nodeO_key h1] at HP
  clear h
  go_enter Tryz.func42, Tryz.ntmps42
  go_wp2_with (first
   | (go_at_call 101; refine (number_any _ _).mono ?_; rintro e w1 ⟨rfl, rfl⟩)
   | (go_at_call 40; refine (HP.out _ (by exact bel_by)).mono ?_; rintro e w' ⟨T', n, S', rfl, hp, hA, hG⟩))
  go_ret
  exact ⟨T', _, S', rfl, hp, hA, hG⟩
 ·have h1 : okN who = false := by simpa using h1
  have Hn := hide (Done.none_ h.ar (Below.refl _ _))
  have Ho := hide (show tKey who = none by unfold tKey; rw [h1]; rfl)
  clear h
  go_enter Tryz.func42, Tryz.ntmps42
  go_wp2_with (go_at_call 101; refine (number_any _ _).mono ?_; rintro e w1 ⟨rfl, rfl⟩)
  go_ret
  rw [Ho.out]
  exact Hn.out
theorem isK_isKo (T : List Tm) (n k : Int) : isK T n k = isKo (arg T n) k := rfl
theorem argl_one {T l : List Tm} {n : Int} (h : argl T [n] = some l) : ∃ t, arg T n = some t ∧ l = [t] := by
 unfold argl at h
 simp only [List.map_cons, List.map_nil] at h
 cases e : arg T n with
 | none => rw [e] at h; cases h
 | some t => rw [e] at h; simp only [alls, Option.some.injEq] at h; exact ⟨t, rfl, h.symm⟩
theorem argl_two {T l : List Tm} {n m : Int} (h : argl T [n, m] = some l) : ∃ t u, arg T n = some t ∧ l = [t, u] := by
 unfold argl at h
 simp only [List.map_cons, List.map_nil] at h
 cases e : arg T n with
 | none => rw [e] at h; cases h
 | some t => cases e2 : arg T m with
  | none => rw [e, e2] at h; cases h
  | some u => rw [e, e2] at h; simp only [alls, Option.some.injEq] at h; exact ⟨t, u, rfl, h.symm⟩
set_option maxHeartbeats 400000 in
theorem aPub_any (h : Use B w g T S) (n : Int) :
  Calls Tryz.prog 71 #[.pointer (some ⟨g, 0, none⟩), .int .i64 n] w (Done B w g T S (tPub (arg T n))) := by
 have HI := hide (ais_any h.ar n 3)
 cases h1 : isK T n 3 with
 | true =>
  rw [h1] at HI
  rw [isK_isKo] at h1
  have hok := h.ar.ok
  have HP := hide (fun w2 (hb : Below w.heap.size w w2) (av : Value) (hI : Ids w2 av [n]) => put_at h hb (k := 4) (a := 0) (b := 0) (s := eB) hI (by omega) (by omega) eB_size (by simp) (fun l hl => by
   obtain ⟨t, ht, rfl⟩ := argl_one hl
   obtain ⟨t', ht', hk⟩ := isKo_some (k := 3) h1
   rw [ht] at ht'
   cases ht'
   exact ⟨⟨rfl, rfl, rfl, rfl⟩, by simpa [kids] using hk⟩) 4 0 0 rfl rfl rfl)
  rw [nodeO_pub hok h1] at HP
  clear h h1 hok
  go_enter Tryz.func71, Tryz.ntmps71
  go_wp2_with (first
   | (go_at_call 128; refine HI.out.mono ?_; rintro e w1 ⟨rfl, rfl⟩)
   | (go_at_call 40; refine (HP.out _ (by exact bel_by) _ (ids_new1 _ _ _)).mono ?_; rintro e w' ⟨T', n, S', rfl, hp, hA, hG⟩))
  go_ret
  exact ⟨T', _, S', rfl, hp, hA, hG⟩
 | false =>
  rw [h1] at HI
  rw [isK_isKo] at h1
  have Hn := hide (Done.none_ h.ar (Below.refl _ _))
  have Ho := hide (tPub_no h1)
  clear h h1
  go_enter Tryz.func71, Tryz.ntmps71
  go_wp2_with (go_at_call 128; refine HI.out.mono ?_; rintro e w1 ⟨rfl, rfl⟩)
  go_ret
  rw [Ho.out]
  exact Hn.out
theorem tBase_no {s : ByteArray} (h : okT s 2100 = false) : tBase s = none := by
 unfold tBase
 rw [if_neg]
 rintro ⟨h1, h2⟩
 have : okT s 2100 = true := okT_iff.2 ⟨h1, by omega⟩
 rw [this] at h
 cases h
set_option maxHeartbeats 400000 in
theorem aBase_any (h : Use B w g T S) {s : ByteArray} (hs : s.size ≤ 9223372036854775807) :
  Calls Tryz.prog 72 #[.pointer (some ⟨g, 0, none⟩), .string s] w (Done B w g T S (tBase s)) := by
 cases h1 : okT s 2100 with
 | true =>
  have h2 := okT_iff.1 h1
  have HP := hide (fun w2 (hb : Below w.heap.size w w2) => put_at h hb (k := 5) (a := 0) (b := 0) (s := s) (av := .slice none 0 0) (ids_nil w2 0) (by omega) (by omega) (by omega) (by simp) (fun l hl => by rw [argl_nil hl]; exact ⟨⟨rfl, rfl, by simp, by omega, by omega⟩, by simp, List.Pairwise.nil⟩) 5 0 0 rfl rfl rfl)
  rw [nodeO_base ⟨h2.1, by omega⟩] at HP
  clear h h2
  go_enter Tryz.func72, Tryz.ntmps72
  go_wp2_with (first
   | (go_at_call 129; refine (text_any _ _ _ hs).mono ?_; rintro e w1 ⟨rfl, rfl⟩)
   | (go_at_call 40; refine (HP.out _ (by exact bel_by)).mono ?_; rintro e w' ⟨T', n, S', rfl, hp, hA, hG⟩))
  go_ret
  exact ⟨T', _, S', rfl, hp, hA, hG⟩
 | false =>
  have Hn := hide (Done.none_ h.ar (Below.refl _ _))
  have Ho := hide (tBase_no h1)
  clear h
  go_enter Tryz.func72, Tryz.ntmps72
  go_wp2_with (go_at_call 129; refine (text_any _ _ _ hs).mono ?_; rintro e w1 ⟨rfl, rfl⟩)
  go_ret
  rw [Ho.out]
  exact Hn.out
set_option maxHeartbeats 400000 in
theorem aSign_any (h : Use B w g T S) {s : ByteArray} (hs : s.size ≤ 9223372036854775807) (n m : Int) :
  Calls Tryz.prog 74 #[.pointer (some ⟨g, 0, none⟩), .string s, .int .i64 n, .int .i64 m] w (Done B w g T S (tSign s (arg T n) (arg T m))) := by
 have HI := hide (ais_any h.ar n 3)
 cases h0 : okT s 64 with
 | false =>
  have Hn := hide (Done.none_ h.ar (Below.refl _ _))
  have Ho := hide (tSign_no (alg := s) (o := arg T n) (p := arg T m) (.inl (fun hc => by
   have : okT s 64 = true := okT_iff.2 ⟨hc.1, by omega⟩
   rw [this] at h0
   cases h0)))
  clear h
  go_enter Tryz.func74, Tryz.ntmps74
  go_wp2_with (go_at_call 129; refine (text_any _ _ _ hs).mono ?_; rintro e w1 ⟨rfl, rfl⟩)
  go_ret
  rw [Ho.out]
  exact Hn.out
 | true =>
 have h2 := okT_iff.1 h0
 cases h1 : isK T n 3 with
 | true =>
  rw [h1] at HI
  rw [isK_isKo] at h1
  have HP := hide (fun w2 (hb : Below w.heap.size w w2) (av : Value) (hI : Ids w2 av [n, m]) => put_at h hb (k := 6) (a := 0) (b := 0) (s := s) hI (by omega) (by omega) (by omega) (by simp) (fun l hl => by
   obtain ⟨t, u, ht, rfl⟩ := argl_two hl
   obtain ⟨t', ht', hk⟩ := isKo_some (k := 3) h1
   rw [ht] at ht'
   cases ht'
   exact ⟨⟨rfl, rfl, rfl, by omega, by omega⟩, by simpa [kids] using hk⟩) 6 0 0 rfl rfl rfl)
  rw [nodeO_sign (alg := s) ⟨h2.1, by omega⟩ h1] at HP
  clear h h1 h2
  go_enter Tryz.func74, Tryz.ntmps74
  go_wp2_with (first
   | (go_at_call 129; refine (text_any _ _ _ hs).mono ?_; rintro e w1 ⟨rfl, rfl⟩)
   | (go_at_call 128; refine HI.out.mono ?_; rintro e w1 ⟨rfl, rfl⟩)
   | (go_at_call 40; refine (HP.out _ (by exact bel_by) _ (ids_new2 _ _ _ _)).mono ?_; rintro e w' ⟨T', n, S', rfl, hp, hA, hG⟩))
  go_ret
  exact ⟨T', _, S', rfl, hp, hA, hG⟩
 | false =>
  rw [h1] at HI
  rw [isK_isKo] at h1
  have Hn := hide (Done.none_ h.ar (Below.refl _ _))
  have Ho := hide (tSign_no (alg := s) (o := arg T n) (p := arg T m) (.inr h1))
  clear h h1 h2
  go_enter Tryz.func74, Tryz.ntmps74
  go_wp2_with (first
   | (go_at_call 129; refine (text_any _ _ _ hs).mono ?_; rintro e w1 ⟨rfl, rfl⟩)
   | (go_at_call 128; refine HI.out.mono ?_; rintro e w1 ⟨rfl, rfl⟩))
  go_ret
  rw [Ho.out]
  exact Hn.out
set_option maxHeartbeats 400000 in
theorem aHash_any (h : Use B w g T S) (n : Int) :
  Calls Tryz.prog 75 #[.pointer (some ⟨g, 0, none⟩), .int .i64 n] w (Done B w g T S (tHash (arg T n))) := by
 have HP := hide (fun w2 (hb : Below w.heap.size w w2) (av : Value) (hI : Ids w2 av [n]) => put_at h hb (k := 7) (a := 0) (b := 0) (s := eB) hI (by omega) (by omega) eB_size (by simp) (fun l hl => by
  obtain ⟨t, ht, rfl⟩ := argl_one hl
  exact ⟨⟨rfl, rfl, rfl, rfl⟩, trivial⟩) 7 0 0 rfl rfl rfl)
 rw [nodeO_hash] at HP
 clear h
 go_enter Tryz.func75, Tryz.ntmps75
 go_wp2_with (go_at_call 40; refine (HP.out _ (by exact bel_by) _ (ids_new1 _ _ _)).mono ?_; rintro e w' ⟨T', n, S', rfl, hp, hA, hG⟩)
 go_ret
 exact ⟨T', _, S', rfl, hp, hA, hG⟩
set_option maxHeartbeats 400000 in
theorem aDerive_any (h : Use B w g T S) (c : Nat) (hc : c < 256) (n m p : Int) :
  Calls Tryz.prog 76 #[.pointer (some ⟨g, 0, none⟩), .int .u8 c, .int .i64 n, .int .i64 m, .int .i64 p] w (Done B w g T S (tDerive c (arg T n) (arg T m) (arg T p))) := by
 have HP := hide (fun w2 (hb : Below w.heap.size w w2) (av : Value) (hI : Ids w2 av [n, m, p]) => put_at h hb (k := 8) (a := 0) (b := c) (s := eB) hI (by omega) (by omega) eB_size (by simp) (fun l hl => by
  have := argl_len hl
  exact ⟨⟨rfl, by omega, this, rfl⟩, trivial⟩) 8 0 c rfl rfl rfl)
 rw [nodeO_derive] at HP
 clear h
 have hc1 : (c : Int) < 256 := by omega
 have hc0 : (0 : Int) ≤ c := by omega
 go_enter Tryz.func76, Tryz.ntmps76
 go_wp2_with (go_at_call 40; refine (HP.out _ (by exact bel_by) _ (ids_new3 _ _ _ _ _)).mono ?_; rintro e w' ⟨T', n, S', rfl, hp, hA, hG⟩)
 go_ret
 exact ⟨T', _, S', rfl, hp, hA, hG⟩
set_option maxHeartbeats 400000 in
theorem aSeal_any (h : Use B w g T S) (c : Nat) (hc : c < 4294967296) (n m : Int) :
  Calls Tryz.prog 78 #[.pointer (some ⟨g, 0, none⟩), .int .i64 n, .int .u32 c, .int .i64 m] w (Done B w g T S (tSeal c (arg T n) (arg T m))) := by
 have HP := hide (fun w2 (hb : Below w.heap.size w w2) (av : Value) (hI : Ids w2 av [n, m]) => put_at h hb (k := 9) (a := 0) (b := c) (s := eB) hI (by omega) (by omega) eB_size (by simp) (fun l hl => by
  have := argl_len hl
  exact ⟨⟨rfl, by omega, this, rfl⟩, trivial⟩) 9 0 c rfl rfl rfl)
 rw [nodeO_seal] at HP
 clear h
 have hc1 : (c : Int) < 4294967296 := by omega
 have hc0 : (0 : Int) ≤ c := by omega
 go_enter Tryz.func78, Tryz.ntmps78
 go_wp2_with (go_at_call 40; refine (HP.out _ (by exact bel_by) _ (ids_new2 _ _ _ _)).mono ?_; rintro e w' ⟨T', n, S', rfl, hp, hA, hG⟩)
 go_ret
 exact ⟨T', _, S', rfl, hp, hA, hG⟩
set_option maxHeartbeats 400000 in
theorem aList_any (h : Use B w g T S) {av : Value} {ns : List Int} (hI : Ids w av ns) (hn : ns.length ≤ 1000000000) :
  Calls Tryz.prog 17 #[.pointer (some ⟨g, 0, none⟩), av] w (Done B w g T S (tList (ns.map (arg T)))) := by
 obtain ⟨A, c, rfl, hr⟩ := hI
 by_cases h1 : ns.length ≤ 32
 ·have HP := hide (fun w2 (hb : Below w.heap.size w w2) => put_at h hb (k := 10) (a := 0) (b := 0) (s := eB) (Ids.below ⟨A, c, rfl, hr⟩ hb) (by omega) (by omega) eB_size (by omega) (fun l hl => by
   have := argl_len hl
   exact ⟨⟨rfl, rfl, by omega, rfl⟩, trivial⟩) 10 0 0 rfl rfl rfl)
  rw [nodeO_list h1] at HP
  clear h hr
  have hi : ¬ (32 : Int) < ns.length := by omega
  go_enter Tryz.func17, Tryz.ntmps17
  go_wp2_with (go_at_call 40; refine (HP.out _ (by exact bel_by)).mono ?_; rintro e w' ⟨T', n, S', rfl, hp, hA, hG⟩)
  go_ret
  exact ⟨T', _, S', rfl, hp, hA, hG⟩
 ·have Hn := hide (Done.none_ h.ar (Below.refl _ _))
  have Ho := hide (tList_long (l := ns.map (arg T)) (by simpa using h1))
  clear h hr
  have hi : (32 : Int) < ns.length := by omega
  go_enter Tryz.func17, Tryz.ntmps17
  go_wp2
  go_ret
  rw [Ho.out]
  exact Hn.out
end
end Go.Proofs.YtmgfcjpifkoahaaGreatDoor

/-
  The contract of an arena's Exp. Conditions: numbers fit; the library's table is as it was laid.
-/
namespace Go.Proofs.YtmgfcjpifkoahaaGreatDoor
open Go.RowKit Go.ChangeShapes Go.WideShapes

theorem own_row {w : World} {b n : Nat} {v : Value} {js : List Nat} (h : w.ownsRow b 25 1 v n ((js.map Int.ofNat).map (Value.int .i64))) (hn : n = js.length) (h0 : 0 < n) : ∃ gb cap, v = .slice (some ⟨gb, 0, none⟩) n cap ∧ b ≤ gb ∧ RowW w w gb js := by
 rcases h.2 with ⟨_, h1⟩ | ⟨gb, cap, cur, rfl, hb, hh, hnc, _, _, hx⟩
 ·omega
 ·refine ⟨gb, cap, rfl, hb, only_refl _ _, cur, hh, fun k v hk => ?_⟩
  have h1 : (cur.toList.take (n * 1))[k]? = some (.int .i64 v) := by
   rw [hx]
   simp [hk]
  have hk2 := (List.getElem?_eq_some_iff.1 hk).1
  rw [List.getElem?_take_of_lt (by omega)] at h1
  simpa using h1
theorem RowW.ids {w0 w : World} {gb : Nat} {vs : List Nat} (h : RowW w0 w gb vs) {n cap : Nat} (hn : n = vs.length) : Ids w (.slice (some ⟨gb, 0, none⟩) n cap) (vs.map Int.ofNat) := by
 subst hn
 refine ⟨some ⟨gb, 0, none⟩, cap, by simp, by simp, fun _ => ⟨_, rfl, Nat.zero_le _, h.lt, fun j u hu => ?_⟩⟩
 rw [add_zero_]
 simp only [List.getElem?_map, Option.map_eq_some_iff] at hu
 obtain ⟨y, ⟨z, hz, rfl⟩, rfl⟩ := hu
 exact h.cell hz
theorem args_argl {T l : List Tm} {js : List Nat} (h : Args T l js) : argl T (js.map Int.ofNat) = some l := by
 unfold argl
 rw [List.map_map]
 have : js.map (arg T ∘ Int.ofNat) = l.map some := by
  rw [← h]
  exact List.map_congr_left fun j _ => arg_at
 rw [this, alls_some]
theorem share_good {t : Tm} (h : good t) (hk : t.k = 5) : hd 5 0 0 t.s t.l.length ∧ (∀ x ∈ t.l, x.k = 2) ∧ t.l.Pairwise tle ∧ goods t.l := by
 obtain ⟨k, a, b, s, l⟩ := t
 simp only [Tm.k] at hk
 subst hk
 simp only [good, hd, kids, true_and] at h
 obtain ⟨⟨_, _, h3⟩, h4, h5⟩ := h
 exact ⟨⟨rfl, rfl, h3⟩, h4.1, h4.2, h5⟩
theorem encs_nonces {l : List Tm} (hg : goods l) (hk : ∀ x ∈ l, x.k = 2) : (encs l).length = 9 * l.length := by
 induction l with
 | nil => rfl
 | cons t l ih =>
  simp only [goods] at hg
  simp only [encs, List.length_append, List.length_cons]
  rw [nonce_len hg.1 (hk t (by simp)), ih hg.2 fun x hx => hk x (by simp [hx])]
  omega
theorem tExp_no {o p : Option Tm} (h : isKo o 5 = false ∨ isKo p 2 = false) : tExp o p = none := by
 cases o with
 | none => rfl
 | some s => cases p with
  | none => rfl
  | some x =>
   show (if _ then _ else none) = none
   rw [if_neg]
   rintro ⟨h1, h2, _⟩
   rcases h with h | h
   ·exact isKo_not (k := 5) h rfl h1
   ·exact isKo_not (k := 2) h rfl h2
theorem infoID8 : (Tryz.prog.info? 25).map (fun i => (i.zero, i.size, i.bytes)) = some (some (.int .i64 0), 1, 8) := by kernel_rfl
section
variable {B g : Nat} {w : World} {T : List Tm} {S : Nat → Prop}
theorem nodeO_exp (hT : AOK T) {s x : Tm} (hs : s ∈ T) (hx : x ∈ T) (ks : s.k = 5) (kx : x.k = 2) (h8 : s.l.length < 8) {vs : List Nat} (hv : Args T (ins x s.l) vs) :
  nodeO T 5 0 0 s.s (vs.map Int.ofNat) = tExp (some s) (some x) ∧ ∀ l, argl T (vs.map Int.ofNat) = some l → hd 5 0 0 s.s l.length ∧ kids 5 l := by
 have gs := share_good (hT.fine s hs).1 ks
 have gx := (hT.fine x hx).1
 have e := args_argl hv
 have hkk : ∀ z ∈ ins x s.l, z.k = 2 := fun z hz => by
  rcases mem_ins.1 hz with rfl | hz
  ·exact kx
  ·exact gs.2.1 z hz
 have hgg : goods (ins x s.l) := (goods_iff _).2 fun z hz => by
  rcases mem_ins.1 hz with rfl | hz
  ·exact gx
  ·exact (goods_iff _).1 gs.2.2.2 z hz
 have h1 := gs.1
 simp only [hd] at h1
 constructor
 ·unfold nodeO
  rw [e]
  show lim _ = if _ then _ else none
  rw [if_pos ⟨ks, kx, h8⟩, lim_small]
  simp only [enc, List.length_append, encs_nonces hgg hkk, ins_len, head, mid, List.length_cons, q4_len, size_len]
  omega
 ·intro l hl
  rw [e] at hl
  cases hl
  rw [ins_len]
  exact ⟨⟨rfl, rfl, by omega, h1.2.2.2⟩, hkk, ins_sorted gs.2.2.1⟩
set_option maxHeartbeats 2000000 in
set_option maxRecDepth 100000 in
theorem aExp_any (h : Use B w g T S) (n m : Int) :
  Calls Tryz.prog 73 #[.pointer (some ⟨g, 0, none⟩), .int .i64 n, .int .i64 m] w (Done B w g T S (tExp (arg T n) (arg T m))) := by
 have HI := hide (ais_any h.ar n 5)
 have HJ := hide (ais_any h.ar m 2)
 cases h1 : isK T n 5 with
 | false =>
  rw [h1] at HI
  have Hn := hide (Done.none_ h.ar (Below.refl _ _))
  have Ho := hide (tExp_no (o := arg T n) (p := arg T m) (.inl (by rw [← isK_isKo]; exact h1)))
  clear h h1
  go_enter Tryz.func73, Tryz.ntmps73
  go_wp2_with (go_at_call 128; refine HI.out.mono ?_; rintro e w1 ⟨rfl, rfl⟩)
  go_ret
  rw [Ho.out]
  exact Hn.out
 | true =>
 rw [h1] at HI
 cases h2 : isK T m 2 with
 | false =>
  rw [h2] at HJ
  have Hn := hide (Done.none_ h.ar (Below.refl _ _))
  have Ho := hide (tExp_no (o := arg T n) (p := arg T m) (.inr (by rw [← isK_isKo]; exact h2)))
  clear h h1 h2
  go_enter Tryz.func73, Tryz.ntmps73
  go_wp2_with (first
   | (go_at_call 128; with_reducible refine HI.out.mono ?_; rintro e w1 ⟨rfl, rfl⟩)
   | (go_at_call 128; with_reducible refine HJ.out.mono ?_; rintro e w1 ⟨rfl, rfl⟩))
  go_ret
  rw [Ho.out]
  exact Hn.out
 | true =>
 rw [h2] at HJ
 rw [isK_isKo] at h1 h2
 obtain ⟨s, hs, ks⟩ := isKo_some (k := 5) h1
 obtain ⟨x, hx, kx⟩ := isKo_some (k := 2) h2
 rw [hs, hx]
 obtain ⟨i, rfl, hi⟩ := arg_some hs
 obtain ⟨j, rfl, hj⟩ := arg_some hx
 have hA := h.ar
 obtain ⟨nv, sv, mb, rows, D, hX⟩ := hA
 obtain ⟨nb, cap, av, js, rfl, hlt, c0, c1, c2, c3, c4, ha, hI⟩ := hX.cells hi
 have h0 : w.cell? ⟨g, 0, none⟩ = some (.slice (some ⟨nb, 0, none⟩) T.length cap) := hX.blk.cell 0
 have hil := (List.getElem?_eq_some_iff.1 hi).1
 have hii : (i : Int) < T.length := by omega
 have hi0 : (0 : Int) ≤ i := by omega
 have hjl := ha.len
 have h8 := share_len hX.ok (List.mem_of_getElem? hi) ks
 obtain ⟨A, c, rfl, hAI⟩ := hI
 have HI2 : Hid (Ids w (.slice A js.length c) (js.map Int.ofNat)) := ⟨A, c, by simp, hAI⟩
 simp only [List.length_map] at c4
 by_cases hl8 : s.l.length < 8
 ·have hSrt : Srt T s.l js x j := ⟨ha, hj, (share_good (hX.ok.fine s (List.mem_of_getElem? hi)).1 ks).2.1, kx, (share_good (hX.ok.fine s (List.mem_of_getElem? hi)).1 ks).2.2.1⟩
  have HS := hide hSrt
  have HX := hide hX
  have HU := hide h
  have Hi := hide hi
  have Hj := hide hj
  have Hjl := hide hjl
  have Ks := hide ks
  have Kx := hide kx
  clear ks kx
  have hjs8 : (js.length : Int) < 8 := by omega
  have hjs7 : js.length ≤ 8 := by omega
  have hgl := hX.blk.lt
  have HC := hide (fun w2 (hb : Below w.heap.size w w2) => clone_ids (w := w2) (HI2.out.below hb) (by simp; omega))
  simp only [List.length_map] at HC
  obtain ⟨iI, hiI, hI0, hI1, hI2⟩ := info_parts infoID8
  clear h h1 h2 hs hx hi hj hX ha hAI hjl hSrt h8
  go_enter Tryz.func73, Tryz.ntmps73
  go_wp2_with (first
   | (go_at_call 128; with_reducible refine HI.out.mono ?_; rintro e w1 ⟨rfl, rfl⟩)
   | (go_at_call 128; with_reducible refine HJ.out.mono ?_; rintro e w1 ⟨rfl, rfl⟩)
   | (go_at_call 55; refine (HC.out _ (by exact bel_by)).mono ?_; rintro e w1 ⟨v', rfl, hown, hb1⟩; obtain ⟨A1, d1, rfl⟩ := own_sl hown; have hz1 := hb1.size)
   | (at_builtin; refine wpList_append_any _ rfl (.tmp 38) (.tmp 40) _ rfl w.heap.size 25 iI (.int .i64 0) 1 8 Tryz.underlying34 hiI hI0 hI1 hI2 rfl (by decide) (.slice A1 js.length d1) js.length ((js.map Int.ofNat).map (Value.int .i64)) rfl (hown.alloc _) _ (some ⟨w1.heap.size, 0, none⟩) 1 1 [.int .i64 j] rfl (reads_blk (Blk.new w1 _ _) rfl) (by simp [Value.oneCell']) (by unfold maxLen; omega) (by omega) (by simp; omega) ?_; intro v2 w2 hown2 hgr2 hat2; have hlo := fun i hi => (hown.lt i hi).1; clear hown))
  have hb2 : Below w.heap.size w w2 := (hb1.alloc hb1.size _).grown hgr2 (by simp; omega) hlo
  have hown3 : w2.ownsRow w.heap.size 25 1 v2 (js.length + 1) (((js ++ [j]).map Int.ofNat).map (Value.int .i64)) := by simpa using hown2
  obtain ⟨gb, cap2, rfl, hgb, hRow⟩ := own_row hown3 (by simp) (by omega)
  have hSgb : ¬ S gb := fun hc => by
   have := HU.out.ar.sL gb hc
   omega
  refine (sortf_any (HU.out.ar.below hb2) HS.out rfl (by omega) hSgb hRow).mono ?_
  rintro e w3 ⟨rfl, vs, hf, hw3⟩
  have hb3 : Below w.heap.size w w3 := below_only hb2 hw3.1 hgb hb2.size
  have hvl : vs.length = js.length + 1 := by
   have h1 : vs.length = (ins x s.l).length := hf.len
   rw [h1, ins_len, Hjl.out]
  have hI3 : Ids w3 (.slice (some ⟨gb, 0, none⟩) (js.length + 1) cap2) (vs.map Int.ofNat) := hw3.ids hvl.symm
  have hsz : s.s.size ≤ 1000000 := by
   have h1 := (share_good (HU.out.ar.ok.fine s (List.mem_of_getElem? Hi.out)).1 Ks.out).1
   simp only [hd] at h1
   omega
  have hno := nodeO_exp HU.out.ar.ok (List.mem_of_getElem? Hi.out) (List.mem_of_getElem? Hj.out) Ks.out Kx.out hl8 hf
  have hvl2 : (vs.map Int.ofNat).length ≤ 40 := by rw [List.length_map, hvl]; omega
  have HP := hide (put_at HU.out hb3 hI3 (k := 5) (a := 0) (b := 0) (s := s.s) (by omega) (by omega) hsz hvl2 hno.2 5 0 0 rfl rfl rfl)
  have HNo := hide hno.1
  have d0 := cellB_ hb3 h0
  have d3 := cellB_ hb3 c3
  clear hno hI3 hw3 hf hvl hvl2 hb2 hown2 hown3 hgr2 hat2 hRow h0 c0 c1 c2 c3 c4 hlo hb1
  go_wp2_with (go_at_call 40; refine HP.out.mono ?_; rintro e w4 ⟨T', n', S', rfl, hp, hA, hG⟩)
  go_ret
  rw [← HNo.out]
  exact ⟨T', _, S', rfl, hp, hA, hG⟩
 ·have Hn := hide (Done.none_ h.ar (Below.refl _ _))
  have Ho := hide (show tExp (some s) (some x) = none by
   show (if _ then _ else none) = none
   rw [if_neg (fun hc => hl8 hc.2.2)])
  have hjs8 : ¬ (js.length : Int) < 8 := by omega
  clear h h1 h2 hs hx hi hj hX ha hAI hjl h8
  go_enter Tryz.func73, Tryz.ntmps73
  go_wp2_with (first
   | (go_at_call 128; with_reducible refine HI.out.mono ?_; rintro e w1 ⟨rfl, rfl⟩)
   | (go_at_call 128; with_reducible refine HJ.out.mono ?_; rintro e w1 ⟨rfl, rfl⟩))
  go_ret
  rw [Ho.out]
  exact Hn.out
end
end Go.Proofs.YtmgfcjpifkoahaaGreatDoor

/-
  The contract of term.New. Conditions: none.
-/
namespace Go.Proofs.YtmgfcjpifkoahaaGreatDoor
open Go.RowKit Go.ChangeShapes Go.WideShapes

def Newed (w : World) (e : Ending) (w' : World) : Prop := ∃ g S, e = .returned (.pointer (some ⟨g, 0, none⟩)) ∧ Ar w.heap.size w' g [] S ∧ Below w.heap.size w w'
theorem newed (w : World) : Newed w (.returned (.pointer (some ⟨w.heap.size + 1, 0, none⟩))) ((w.alloc (.map #[] 0)).alloc (.cells #[.slice none 0 0, .slice none 0 0, .map (some w.heap.size)] 57)) := by
 refine ⟨_, fun i => i = w.heap.size ∨ i = w.heap.size + 1, rfl, ⟨.slice none 0 0, .slice none 0 0, w.heap.size, [], .map [], ?_⟩, (bel_new _).alloc (by simp) _⟩
 have hb := Blk.new (w.alloc (.map #[] 0)) 57 #[.slice none 0 0, .slice none 0 0, .map (some w.heap.size)]
 simp only [World.size_alloc] at hb
 have hm := (World.ownsMap_made (H := Unit) w Tryz.prog 142 (plainElem Tryz.prog 25)).alloc (.cells #[.slice none 0 0, .slice none 0 0, .map (some w.heap.size)] 57)
 refine ⟨aok_nil, hb, World.ownsRow_nil _ _ _ _, rfl, fun i t us hi => by simp at hi, World.ownsRow_nil _ _ _ _, hm, idx_nil, .inr rfl, .inl rfl, fun i hi => by simp [Value.ownBlock] at hi, fun i hi => by simp [Value.ownBlock] at hi, ?_, ?_⟩
 ·rintro i (rfl | rfl) <;> omega
 ·rintro i (rfl | rfl) <;> first | (simp; done) | (simp; omega)
set_option maxHeartbeats 400000 in
theorem new_any (w : World) : Calls Tryz.prog 8 #[] w (Newed w) := by
 have hmm := @run_makeMap Tryz.prog
 go_enter Tryz.func8, Tryz.ntmps8
 go_wp2
 go_ret
 exact newed w
end Go.Proofs.YtmgfcjpifkoahaaGreatDoor
