/-
  The contracts of an arena's makers but Exp. Conditions: numbers fit; the library's table is as it was laid.
-/
import Derived.Test.YtkpikfdfekggbaaGreatDoorPut
namespace Go.Proofs.YtkpikfdfekggbaaGreatDoor
open Go.RowKit Go.ChangeShapes Go.WideShapes Go.Sort

section
variable {B g : Nat} {w w2 : World} {T : List Tm} {S : Nat → Prop}
theorem Done.from_ {o : Option Tm} {e : Ending} {w' : World} (h : Done B w2 g T S o e w') (hb : Below w.heap.size w w2) : Done B w g T S o e w' := by
  obtain ⟨T', n, S', h1, h2, h3, h4⟩ := h
  exact ⟨T', n, S', h1, h2, h3, (Grown.of_below hb).trans h4⟩
/-- An arena that may be used: it is there, the library's table lies where no arena has its blocks, and there are not too many terms. -/
structure Use (B : Nat) (w : World) (g : Nat) (T : List Tm) (S : Nat → Prop) : Prop where
  ar : Ar B w g T S
  old : ∃ w0 : World, Tab w0 ∧ w0.heap.size ≤ B ∧ Below w0.heap.size w0 w
  base : B ≤ w.heap.size
  few : T.length ≤ 1000000000
theorem Use.tab (h : Use B w g T S) : Tab w := by
  obtain ⟨w0, h1, _, h2⟩ := h.old
  exact h1.below h2
theorem Use.below (h : Use B w g T S) (hb : Below w.heap.size w w2) : Use B w2 g T S := by
  obtain ⟨w0, h1, h2, h3⟩ := h.old
  exact ⟨h.ar.below hb, ⟨w0, h1, h2, h3.trans (hb.mono h3.size)⟩, Nat.le_trans h.base hb.size, h.few⟩
theorem Use.grown (h : Use B w g T S) {T' : List Tm} {S' : Nat → Prop} (hg : Grown S w S' w2) (ha : Ar B w2 g T' S') (hf : T'.length ≤ 1000000000) : Use B w2 g T' S' := by
  obtain ⟨w0, h1, h2, h3⟩ := h.old
  exact ⟨ha, ⟨w0, h1, h2, h3.trans ((hg.below h.base h.ar.sB).mono h2)⟩, Nat.le_trans h.base hg.size, hf⟩
theorem put_at (h : Use B w g T S) (hbw : Below w.heap.size w w2) {k a b : Nat} {s : ByteArray} {av : Value} {ns : List Int} (hI : Ids w2 av ns) (ha : a < 4294967296) (hb : b < 4294967296) (hs : s.size ≤ 1000000) (hn : ns.length ≤ 40)
    (hh : ∀ l, argl T ns = some l → hd k a b s l.length ∧ kids k l) (x y z : Int) (hx : x = k) (hy : y = a) (hz : z = b) :
    Calls Tryz.prog 56 #[.pointer (some ⟨g, 0, none⟩), .agg #[.int .i64 x, .int .i64 y, .int .i64 z, .string s, av]] w2 (Done B w g T S (nodeO T k a b s ns)) := by
  subst hx hy hz
  have h2 := h.below hbw
  exact (put_any h2.ar h2.tab h2.base h2.few hI ha hb hs hn hh).mono fun e w' hd => hd.from_ hbw
theorem eB_size : eB.size ≤ 1000000 := Nat.zero_le _
theorem argl_nil {T l : List Tm} (h : argl T [] = some l) : l = [] := by
  unfold argl at h
  simp only [List.map_nil, alls, Option.some.injEq] at h
  exact h.symm
/-- The numbers of terms that stand in a new block. -/
theorem ids_blk {w : World} {b : Nat} {t : TypeId} {ns : List Int} (h : Blk w b t (ns.map (Value.int .i64)).toArray) (v : Value) (c : Nat) (hv : v = .slice (some ⟨b, 0, none⟩) ns.length c) : Ids w v ns := by
  subst hv
  exact ⟨_, _, rfl, by simp, fun _ => ⟨_, rfl, Nat.zero_le _, h.lt, fun j u hu => by rw [add_zero_, h.cell j]; simpa using hu⟩⟩
theorem ids_new1 (w : World) (t : TypeId) (n : Int) : Ids (w.alloc (.cells #[.int .i64 n] t)) (.slice (some ⟨w.heap.size, 0, none⟩) 1 1) [n] := ids_blk (Blk.new w t _) _ 1 rfl
theorem ids_new2 (w : World) (t : TypeId) (n m : Int) : Ids (w.alloc (.cells #[.int .i64 n, .int .i64 m] t)) (.slice (some ⟨w.heap.size, 0, none⟩) 2 2) [n, m] := ids_blk (Blk.new w t _) _ 2 rfl
theorem ids_new3 (w : World) (t : TypeId) (n m p : Int) : Ids (w.alloc (.cells #[.int .i64 n, .int .i64 m, .int .i64 p] t)) (.slice (some ⟨w.heap.size, 0, none⟩) 3 3) [n, m, p] := ids_blk (Blk.new w t _) _ 3 rfl
theorem bel_new {w : World} (o : Obj) : Below w.heap.size w (w.alloc o) := (Below.refl _ _).alloc (Nat.le_refl _) o
theorem number_any (n : Int) (w : World) : Calls Tryz.prog 61 #[.int .i64 n] w fun e w' => e = .returned (.bool (okN n)) ∧ w = w' := by
  go_enter Tryz.func61, Tryz.ntmps61
  go_wp2
  all_goals go_ret
  all_goals exact ⟨ret_bool (by unfold okN; (first | (simp_all; done) | (simp_all; omega) | (rw [Bool.eq_iff_iff]; simp_all; done) | (rw [Bool.eq_iff_iff]; simp_all; omega))), rfl⟩
/-- May it be a name of at most so many bytes? -/
def okT (s : ByteArray) (m : Int) : Bool := decide (1 ≤ s.size ∧ (s.size : Int) ≤ m)
theorem text_any (s : ByteArray) (m : Int) (w : World) (hs : s.size ≤ 9223372036854775807) : Calls Tryz.prog 102 #[.string s, .int .i64 m] w fun e w' => e = .returned (.bool (okT s m)) ∧ w = w' := by
  go_enter Tryz.func102, Tryz.ntmps102
  go_wp2
  all_goals go_ret
  all_goals exact ⟨ret_bool (by unfold okT; (first | (simp_all; done) | (simp_all; omega) | (rw [Bool.eq_iff_iff]; simp_all; done) | (rw [Bool.eq_iff_iff]; simp_all; omega))), rfl⟩
theorem okT_iff {s : ByteArray} {m : Int} : okT s m = true ↔ 1 ≤ s.size ∧ (s.size : Int) ≤ m := by simp [okT]
set_option maxHeartbeats 400000 in
theorem aData_any (h : Use B w g T S) {s : ByteArray} (hs : s.size ≤ 1000000) :
    Calls Tryz.prog 49 #[.pointer (some ⟨g, 0, none⟩), .string s] w (Done B w g T S (tData s)) := by
  have HP := hide (fun w2 (hb : Below w.heap.size w w2) => put_at h hb (k := 1) (a := 0) (b := 0) (s := s) (av := .slice none 0 0) (ids_nil w2 0) (by omega) (by omega) hs (by simp) (fun l hl => by rw [argl_nil hl]; exact ⟨⟨rfl, rfl, rfl, by omega⟩, trivial⟩) 1 0 0 rfl rfl rfl)
  clear h
  go_enter Tryz.func49, Tryz.ntmps49
  go_wp2_with (go_at_call 56; refine (HP.out _ (by (repeat (first | exact Below.refl _ _ | refine below_drewN ?_ _ | refine Below.drew ?_ | refine Below.alloc ?_ (by first | omega | (simp; done) | (simp; omega)) _ | refine Below.setCell ?_ (by first | omega | (simp; done) | (simp; omega)) _ | refine bel_alloc ?_ _ | refine bel_trans ?_ (by assumption) | refine Below.trans ?_ (Below.mono (by assumption) (by first | omega | (simp; done) | (simp; omega))))))).mono ?_; rintro e w' ⟨T', n, S', rfl, hp, hA, hG⟩)
  go_ret
  exact ⟨T', n, S', rfl, hp, hA, hG⟩
set_option maxHeartbeats 400000 in
theorem aNonce_any (h : Use B w g T S) (who n : Int) :
    Calls Tryz.prog 76 #[.pointer (some ⟨g, 0, none⟩), .int .i64 who, .int .i64 n] w (Done B w g T S (tNonce who n)) := by
  by_cases h1 : okN who = true
  · by_cases h2 : okN n = true
    · have HP := hide (fun w2 (hb : Below w.heap.size w w2) => put_at h hb (k := 2) (a := who.toNat) (b := n.toNat) (s := eB) (av := .slice none 0 0) (ids_nil w2 0) (by have := okN_iff.1 h1; omega) (by have := okN_iff.1 h2; omega) eB_size (by simp) (fun l hl => by rw [argl_nil hl]; have := okN_iff.1 h1; have := okN_iff.1 h2; exact ⟨⟨by omega, by omega, rfl, rfl⟩, trivial⟩) 2 who n rfl (by have := okN_iff.1 h1; omega) (by have := okN_iff.1 h2; omega))
      rw [nodeO_nonce h1 h2] at HP
      clear h
      go_enter Tryz.func76, Tryz.ntmps76
      go_wp2_with (first
        | (go_at_call 61; refine (number_any _ _).mono ?_; rintro e w1 ⟨rfl, rfl⟩)
        | (go_at_call 56; refine (HP.out _ (by (repeat (first | exact Below.refl _ _ | refine below_drewN ?_ _ | refine Below.drew ?_ | refine Below.alloc ?_ (by first | omega | (simp; done) | (simp; omega)) _ | refine Below.setCell ?_ (by first | omega | (simp; done) | (simp; omega)) _ | refine bel_alloc ?_ _ | refine bel_trans ?_ (by assumption) | refine Below.trans ?_ (Below.mono (by assumption) (by first | omega | (simp; done) | (simp; omega))))))).mono ?_; rintro e w' ⟨T', n, S', rfl, hp, hA, hG⟩))
      go_ret
      exact ⟨T', _, S', rfl, hp, hA, hG⟩
    · have h2 : okN n = false := by simpa using h2
      have Hn := hide (Done.none_ h.ar (Below.refl _ _))
      have Ho := hide (show tNonce who n = none by unfold tNonce; rw [h1, h2]; rfl)
      clear h
      go_enter Tryz.func76, Tryz.ntmps76
      go_wp2_with (go_at_call 61; refine (number_any _ _).mono ?_; rintro e w1 ⟨rfl, rfl⟩)
      go_ret
      rw [Ho.out]
      exact Hn.out
  · have h1 : okN who = false := by simpa using h1
    have Hn := hide (Done.none_ h.ar (Below.refl _ _))
    have Ho := hide (show tNonce who n = none by unfold tNonce; rw [h1]; rfl)
    clear h
    go_enter Tryz.func76, Tryz.ntmps76
    go_wp2_with (go_at_call 61; refine (number_any _ _).mono ?_; rintro e w1 ⟨rfl, rfl⟩)
    go_ret
    rw [Ho.out]
    exact Hn.out
set_option maxHeartbeats 400000 in
theorem aKey_any (h : Use B w g T S) (who : Int) :
    Calls Tryz.prog 29 #[.pointer (some ⟨g, 0, none⟩), .int .i64 who] w (Done B w g T S (tKey who)) := by
  by_cases h1 : okN who = true
  · have HP := hide (fun w2 (hb : Below w.heap.size w w2) => put_at h hb (k := 3) (a := who.toNat) (b := 0) (s := eB) (av := .slice none 0 0) (ids_nil w2 0) (by have := okN_iff.1 h1; omega) (by omega) eB_size (by simp) (fun l hl => by rw [argl_nil hl]; have := okN_iff.1 h1; exact ⟨⟨by omega, rfl, rfl, rfl⟩, trivial⟩) 3 who 0 rfl (by have := okN_iff.1 h1; omega) rfl)
    rw [nodeO_key h1] at HP
    clear h
    go_enter Tryz.func29, Tryz.ntmps29
    go_wp2_with (first
      | (go_at_call 61; refine (number_any _ _).mono ?_; rintro e w1 ⟨rfl, rfl⟩)
      | (go_at_call 56; refine (HP.out _ (by (repeat (first | exact Below.refl _ _ | refine below_drewN ?_ _ | refine Below.drew ?_ | refine Below.alloc ?_ (by first | omega | (simp; done) | (simp; omega)) _ | refine Below.setCell ?_ (by first | omega | (simp; done) | (simp; omega)) _ | refine bel_alloc ?_ _ | refine bel_trans ?_ (by assumption) | refine Below.trans ?_ (Below.mono (by assumption) (by first | omega | (simp; done) | (simp; omega))))))).mono ?_; rintro e w' ⟨T', n, S', rfl, hp, hA, hG⟩))
    go_ret
    exact ⟨T', _, S', rfl, hp, hA, hG⟩
  · have h1 : okN who = false := by simpa using h1
    have Hn := hide (Done.none_ h.ar (Below.refl _ _))
    have Ho := hide (show tKey who = none by unfold tKey; rw [h1]; rfl)
    clear h
    go_enter Tryz.func29, Tryz.ntmps29
    go_wp2_with (go_at_call 61; refine (number_any _ _).mono ?_; rintro e w1 ⟨rfl, rfl⟩)
    go_ret
    rw [Ho.out]
    exact Hn.out
theorem isK_isKo (T : List Tm) (n k : Int) : isK T n k = isKo (arg T n) k := rfl
theorem argl_one {T l : List Tm} {n : Int} (h : argl T [n] = some l) : ∃ t, arg T n = some t ∧ l = [t] := by
  unfold argl at h
  simp only [List.map_cons, List.map_nil] at h
  cases e : arg T n with
  | none => rw [e] at h; cases h
  | some t => rw [e] at h; simp only [alls, Option.some.injEq] at h; exact ⟨t, rfl, h.symm⟩
theorem argl_two {T l : List Tm} {n m : Int} (h : argl T [n, m] = some l) : ∃ t u, arg T n = some t ∧ l = [t, u] := by
  unfold argl at h
  simp only [List.map_cons, List.map_nil] at h
  cases e : arg T n with
  | none => rw [e] at h; cases h
  | some t => cases e2 : arg T m with
    | none => rw [e, e2] at h; cases h
    | some u => rw [e, e2] at h; simp only [alls, Option.some.injEq] at h; exact ⟨t, u, rfl, h.symm⟩
set_option maxHeartbeats 400000 in
theorem aPub_any (h : Use B w g T S) (n : Int) :
    Calls Tryz.prog 28 #[.pointer (some ⟨g, 0, none⟩), .int .i64 n] w (Done B w g T S (tPub (arg T n))) := by
  have HI := hide (ais_any h.ar n 3)
  cases h1 : isK T n 3 with
  | true =>
    rw [h1] at HI
    rw [isK_isKo] at h1
    have hok := h.ar.ok
    have HP := hide (fun w2 (hb : Below w.heap.size w w2) (av : Value) (hI : Ids w2 av [n]) => put_at h hb (k := 4) (a := 0) (b := 0) (s := eB) hI (by omega) (by omega) eB_size (by simp) (fun l hl => by
      obtain ⟨t, ht, rfl⟩ := argl_one hl
      obtain ⟨t', ht', hk⟩ := isKo_some (k := 3) h1
      rw [ht] at ht'
      cases ht'
      exact ⟨⟨rfl, rfl, rfl, rfl⟩, by simpa [kids] using hk⟩) 4 0 0 rfl rfl rfl)
    rw [nodeO_pub hok h1] at HP
    clear h h1 hok
    go_enter Tryz.func28, Tryz.ntmps28
    go_wp2_with (first
      | (go_at_call 60; refine HI.out.mono ?_; rintro e w1 ⟨rfl, rfl⟩)
      | (go_at_call 56; refine (HP.out _ (by (repeat (first | exact Below.refl _ _ | refine below_drewN ?_ _ | refine Below.drew ?_ | refine Below.alloc ?_ (by first | omega | (simp; done) | (simp; omega)) _ | refine Below.setCell ?_ (by first | omega | (simp; done) | (simp; omega)) _ | refine bel_alloc ?_ _ | refine bel_trans ?_ (by assumption) | refine Below.trans ?_ (Below.mono (by assumption) (by first | omega | (simp; done) | (simp; omega)))))) _ (ids_new1 _ _ _)).mono ?_; rintro e w' ⟨T', n, S', rfl, hp, hA, hG⟩))
    go_ret
    exact ⟨T', _, S', rfl, hp, hA, hG⟩
  | false =>
    rw [h1] at HI
    rw [isK_isKo] at h1
    have Hn := hide (Done.none_ h.ar (Below.refl _ _))
    have Ho := hide (tPub_no h1)
    clear h h1
    go_enter Tryz.func28, Tryz.ntmps28
    go_wp2_with (go_at_call 60; refine HI.out.mono ?_; rintro e w1 ⟨rfl, rfl⟩)
    go_ret
    rw [Ho.out]
    exact Hn.out
theorem tBase_no {s : ByteArray} (h : okT s 2100 = false) : tBase s = none := by
  unfold tBase
  rw [if_neg]
  rintro ⟨h1, h2⟩
  have : okT s 2100 = true := okT_iff.2 ⟨h1, by omega⟩
  rw [this] at h
  cases h
set_option maxHeartbeats 400000 in
theorem aBase_any (h : Use B w g T S) {s : ByteArray} (hs : s.size ≤ 9223372036854775807) :
    Calls Tryz.prog 77 #[.pointer (some ⟨g, 0, none⟩), .string s] w (Done B w g T S (tBase s)) := by
  cases h1 : okT s 2100 with
  | true =>
    have h2 := okT_iff.1 h1
    have HP := hide (fun w2 (hb : Below w.heap.size w w2) => put_at h hb (k := 5) (a := 0) (b := 0) (s := s) (av := .slice none 0 0) (ids_nil w2 0) (by omega) (by omega) (by omega) (by simp) (fun l hl => by rw [argl_nil hl]; exact ⟨⟨rfl, rfl, by simp, by omega, by omega⟩, by simp, List.Pairwise.nil⟩) 5 0 0 rfl rfl rfl)
    rw [nodeO_base ⟨h2.1, by omega⟩] at HP
    clear h h2
    go_enter Tryz.func77, Tryz.ntmps77
    go_wp2_with (first
      | (go_at_call 102; refine (text_any _ _ _ hs).mono ?_; rintro e w1 ⟨rfl, rfl⟩)
      | (go_at_call 56; refine (HP.out _ (by (repeat (first | exact Below.refl _ _ | refine below_drewN ?_ _ | refine Below.drew ?_ | refine Below.alloc ?_ (by first | omega | (simp; done) | (simp; omega)) _ | refine Below.setCell ?_ (by first | omega | (simp; done) | (simp; omega)) _ | refine bel_alloc ?_ _ | refine bel_trans ?_ (by assumption) | refine Below.trans ?_ (Below.mono (by assumption) (by first | omega | (simp; done) | (simp; omega))))))).mono ?_; rintro e w' ⟨T', n, S', rfl, hp, hA, hG⟩))
    go_ret
    exact ⟨T', _, S', rfl, hp, hA, hG⟩
  | false =>
    have Hn := hide (Done.none_ h.ar (Below.refl _ _))
    have Ho := hide (tBase_no h1)
    clear h
    go_enter Tryz.func77, Tryz.ntmps77
    go_wp2_with (go_at_call 102; refine (text_any _ _ _ hs).mono ?_; rintro e w1 ⟨rfl, rfl⟩)
    go_ret
    rw [Ho.out]
    exact Hn.out
set_option maxHeartbeats 400000 in
theorem aSign_any (h : Use B w g T S) {s : ByteArray} (hs : s.size ≤ 9223372036854775807) (n m : Int) :
    Calls Tryz.prog 55 #[.pointer (some ⟨g, 0, none⟩), .string s, .int .i64 n, .int .i64 m] w (Done B w g T S (tSign s (arg T n) (arg T m))) := by
  have HI := hide (ais_any h.ar n 3)
  cases h0 : okT s 64 with
  | false =>
    have Hn := hide (Done.none_ h.ar (Below.refl _ _))
    have Ho := hide (tSign_no (alg := s) (o := arg T n) (p := arg T m) (.inl (fun hc => by
      have : okT s 64 = true := okT_iff.2 ⟨hc.1, by omega⟩
      rw [this] at h0
      cases h0)))
    clear h
    go_enter Tryz.func55, Tryz.ntmps55
    go_wp2_with (go_at_call 102; refine (text_any _ _ _ hs).mono ?_; rintro e w1 ⟨rfl, rfl⟩)
    go_ret
    rw [Ho.out]
    exact Hn.out
  | true =>
  have h2 := okT_iff.1 h0
  cases h1 : isK T n 3 with
  | true =>
    rw [h1] at HI
    rw [isK_isKo] at h1
    have HP := hide (fun w2 (hb : Below w.heap.size w w2) (av : Value) (hI : Ids w2 av [n, m]) => put_at h hb (k := 6) (a := 0) (b := 0) (s := s) hI (by omega) (by omega) (by omega) (by simp) (fun l hl => by
      obtain ⟨t, u, ht, rfl⟩ := argl_two hl
      obtain ⟨t', ht', hk⟩ := isKo_some (k := 3) h1
      rw [ht] at ht'
      cases ht'
      exact ⟨⟨rfl, rfl, rfl, by omega, by omega⟩, by simpa [kids] using hk⟩) 6 0 0 rfl rfl rfl)
    rw [nodeO_sign (alg := s) ⟨h2.1, by omega⟩ h1] at HP
    clear h h1 h2
    go_enter Tryz.func55, Tryz.ntmps55
    go_wp2_with (first
      | (go_at_call 102; refine (text_any _ _ _ hs).mono ?_; rintro e w1 ⟨rfl, rfl⟩)
      | (go_at_call 60; refine HI.out.mono ?_; rintro e w1 ⟨rfl, rfl⟩)
      | (go_at_call 56; refine (HP.out _ (by (repeat (first | exact Below.refl _ _ | refine below_drewN ?_ _ | refine Below.drew ?_ | refine Below.alloc ?_ (by first | omega | (simp; done) | (simp; omega)) _ | refine Below.setCell ?_ (by first | omega | (simp; done) | (simp; omega)) _ | refine bel_alloc ?_ _ | refine bel_trans ?_ (by assumption) | refine Below.trans ?_ (Below.mono (by assumption) (by first | omega | (simp; done) | (simp; omega)))))) _ (ids_new2 _ _ _ _)).mono ?_; rintro e w' ⟨T', n, S', rfl, hp, hA, hG⟩))
    go_ret
    exact ⟨T', _, S', rfl, hp, hA, hG⟩
  | false =>
    rw [h1] at HI
    rw [isK_isKo] at h1
    have Hn := hide (Done.none_ h.ar (Below.refl _ _))
    have Ho := hide (tSign_no (alg := s) (o := arg T n) (p := arg T m) (.inr h1))
    clear h h1 h2
    go_enter Tryz.func55, Tryz.ntmps55
    go_wp2_with (first
      | (go_at_call 102; refine (text_any _ _ _ hs).mono ?_; rintro e w1 ⟨rfl, rfl⟩)
      | (go_at_call 60; refine HI.out.mono ?_; rintro e w1 ⟨rfl, rfl⟩))
    go_ret
    rw [Ho.out]
    exact Hn.out
set_option maxHeartbeats 400000 in
theorem aHash_any (h : Use B w g T S) (n : Int) :
    Calls Tryz.prog 25 #[.pointer (some ⟨g, 0, none⟩), .int .i64 n] w (Done B w g T S (tHash (arg T n))) := by
  have HP := hide (fun w2 (hb : Below w.heap.size w w2) (av : Value) (hI : Ids w2 av [n]) => put_at h hb (k := 7) (a := 0) (b := 0) (s := eB) hI (by omega) (by omega) eB_size (by simp) (fun l hl => by
    obtain ⟨t, ht, rfl⟩ := argl_one hl
    exact ⟨⟨rfl, rfl, rfl, rfl⟩, trivial⟩) 7 0 0 rfl rfl rfl)
  rw [nodeO_hash] at HP
  clear h
  go_enter Tryz.func25, Tryz.ntmps25
  go_wp2_with (go_at_call 56; refine (HP.out _ (by (repeat (first | exact Below.refl _ _ | refine below_drewN ?_ _ | refine Below.drew ?_ | refine Below.alloc ?_ (by first | omega | (simp; done) | (simp; omega)) _ | refine Below.setCell ?_ (by first | omega | (simp; done) | (simp; omega)) _ | refine bel_alloc ?_ _ | refine bel_trans ?_ (by assumption) | refine Below.trans ?_ (Below.mono (by assumption) (by first | omega | (simp; done) | (simp; omega)))))) _ (ids_new1 _ _ _)).mono ?_; rintro e w' ⟨T', n, S', rfl, hp, hA, hG⟩)
  go_ret
  exact ⟨T', _, S', rfl, hp, hA, hG⟩
set_option maxHeartbeats 400000 in
theorem aDerive_any (h : Use B w g T S) (c : Nat) (hc : c < 256) (n m p : Int) :
    Calls Tryz.prog 79 #[.pointer (some ⟨g, 0, none⟩), .int .u8 c, .int .i64 n, .int .i64 m, .int .i64 p] w (Done B w g T S (tDerive c (arg T n) (arg T m) (arg T p))) := by
  have HP := hide (fun w2 (hb : Below w.heap.size w w2) (av : Value) (hI : Ids w2 av [n, m, p]) => put_at h hb (k := 8) (a := 0) (b := c) (s := eB) hI (by omega) (by omega) eB_size (by simp) (fun l hl => by
    have := argl_len hl
    exact ⟨⟨rfl, by omega, this, rfl⟩, trivial⟩) 8 0 c rfl rfl rfl)
  rw [nodeO_derive] at HP
  clear h
  have hc1 : (c : Int) < 256 := by omega
  have hc0 : (0 : Int) ≤ c := by omega
  go_enter Tryz.func79, Tryz.ntmps79
  go_wp2_with (go_at_call 56; refine (HP.out _ (by (repeat (first | exact Below.refl _ _ | refine below_drewN ?_ _ | refine Below.drew ?_ | refine Below.alloc ?_ (by first | omega | (simp; done) | (simp; omega)) _ | refine Below.setCell ?_ (by first | omega | (simp; done) | (simp; omega)) _ | refine bel_alloc ?_ _ | refine bel_trans ?_ (by assumption) | refine Below.trans ?_ (Below.mono (by assumption) (by first | omega | (simp; done) | (simp; omega)))))) _ (ids_new3 _ _ _ _ _)).mono ?_; rintro e w' ⟨T', n, S', rfl, hp, hA, hG⟩)
  go_ret
  exact ⟨T', _, S', rfl, hp, hA, hG⟩
set_option maxHeartbeats 400000 in
theorem aSeal_any (h : Use B w g T S) (c : Nat) (hc : c < 4294967296) (n m : Int) :
    Calls Tryz.prog 81 #[.pointer (some ⟨g, 0, none⟩), .int .i64 n, .int .u32 c, .int .i64 m] w (Done B w g T S (tSeal c (arg T n) (arg T m))) := by
  have HP := hide (fun w2 (hb : Below w.heap.size w w2) (av : Value) (hI : Ids w2 av [n, m]) => put_at h hb (k := 9) (a := 0) (b := c) (s := eB) hI (by omega) (by omega) eB_size (by simp) (fun l hl => by
    have := argl_len hl
    exact ⟨⟨rfl, by omega, this, rfl⟩, trivial⟩) 9 0 c rfl rfl rfl)
  rw [nodeO_seal] at HP
  clear h
  have hc1 : (c : Int) < 4294967296 := by omega
  have hc0 : (0 : Int) ≤ c := by omega
  go_enter Tryz.func81, Tryz.ntmps81
  go_wp2_with (go_at_call 56; refine (HP.out _ (by (repeat (first | exact Below.refl _ _ | refine below_drewN ?_ _ | refine Below.drew ?_ | refine Below.alloc ?_ (by first | omega | (simp; done) | (simp; omega)) _ | refine Below.setCell ?_ (by first | omega | (simp; done) | (simp; omega)) _ | refine bel_alloc ?_ _ | refine bel_trans ?_ (by assumption) | refine Below.trans ?_ (Below.mono (by assumption) (by first | omega | (simp; done) | (simp; omega)))))) _ (ids_new2 _ _ _ _)).mono ?_; rintro e w' ⟨T', n, S', rfl, hp, hA, hG⟩)
  go_ret
  exact ⟨T', _, S', rfl, hp, hA, hG⟩
set_option maxHeartbeats 400000 in
theorem aList_any (h : Use B w g T S) {av : Value} {ns : List Int} (hI : Ids w av ns) (hn : ns.length ≤ 1000000000) :
    Calls Tryz.prog 68 #[.pointer (some ⟨g, 0, none⟩), av] w (Done B w g T S (tList (ns.map (arg T)))) := by
  obtain ⟨A, c, rfl, hr⟩ := hI
  by_cases h1 : ns.length ≤ 32
  · have HP := hide (fun w2 (hb : Below w.heap.size w w2) => put_at h hb (k := 10) (a := 0) (b := 0) (s := eB) (Ids.below ⟨A, c, rfl, hr⟩ hb) (by omega) (by omega) eB_size (by omega) (fun l hl => by
      have := argl_len hl
      exact ⟨⟨rfl, rfl, by omega, rfl⟩, trivial⟩) 10 0 0 rfl rfl rfl)
    rw [nodeO_list h1] at HP
    clear h hr
    have hi : ¬ (32 : Int) < ns.length := by omega
    go_enter Tryz.func68, Tryz.ntmps68
    go_wp2_with (go_at_call 56; refine (HP.out _ (by (repeat (first | exact Below.refl _ _ | refine below_drewN ?_ _ | refine Below.drew ?_ | refine Below.alloc ?_ (by first | omega | (simp; done) | (simp; omega)) _ | refine Below.setCell ?_ (by first | omega | (simp; done) | (simp; omega)) _ | refine bel_alloc ?_ _ | refine bel_trans ?_ (by assumption) | refine Below.trans ?_ (Below.mono (by assumption) (by first | omega | (simp; done) | (simp; omega))))))).mono ?_; rintro e w' ⟨T', n, S', rfl, hp, hA, hG⟩)
    go_ret
    exact ⟨T', _, S', rfl, hp, hA, hG⟩
  · have Hn := hide (Done.none_ h.ar (Below.refl _ _))
    have Ho := hide (tList_long (l := ns.map (arg T)) (by simpa using h1))
    clear h hr
    have hi : (32 : Int) < ns.length := by omega
    go_enter Tryz.func68, Tryz.ntmps68
    go_wp2
    go_ret
    rw [Ho.out]
    exact Hn.out
end
end Go.Proofs.YtkpikfdfekggbaaGreatDoor
