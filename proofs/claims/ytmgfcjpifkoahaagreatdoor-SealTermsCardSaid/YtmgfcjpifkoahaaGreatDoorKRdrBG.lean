/-
  Several of my texts in one: RdrS, RdrB.
-/
import Derived.Test.YtmgfcjpifkoahaaGreatDoorKRdr
import Derived.Test.YtmgfcjpifkoahaaGreatDoorKFrG
set_option linter.unusedVariables false
set_option linter.unusedSimpArgs false
namespace Go.Proofs.YtmgfcjpifkoahaaGreatDoor
open Go.RowKit Go.ChangeShapes Go.WideShapes Go.Sort

def SR (b : Nat) (S : Nat → Prop) (i : Nat) : Prop := S i ∨ i = b
structure Rd (B b g : Nat) (s : ByteArray) (p : Nat) (T : List Tm) (S : Nat → Prop) (W : World) : Prop where
 use : Use B W g T S
 bk : Bk W b g s p
 nb : ¬ S b
 bB : B ≤ b
 hp : p ≤ s.size
 hs : s.size ≤ 131072
 few : T.length + 2 * (s.size - p) ≤ 900000000
section
variable {B b g p p' : Nat} {s : ByteArray} {T T' : List Tm} {S S' : Nat → Prop} {w w' : World}
theorem Grown.sr (h : Grown S w S' w') (b : Nat) : Grown (SR b S) w (SR b S') w' :=
 ⟨h.os, h.tape, h.output, h.size, fun i hi hn => h.block i hi (fun h2 => hn (.inl h2)), fun i hi => hi.imp (h.sub i) id, fun i hi => by
  rcases hi with hi | hi
  ·exact (h.new i hi).imp .inl id
  ·exact .inl (.inr hi)⟩
theorem grown_by (h : w.grownBy w' (some b)) : Grown (SR b S) w (SR b S) w' :=
 ⟨h.os, h.tape, h.output, h.size, fun i hi hn => h.block i hi (fun e => hn (.inr (Option.some.inj e))), fun _ h => h, fun _ h => .inl h⟩
theorem Rd.sr_lt (h : Rd B b g s p T S w) : ∀ i, SR b S i → i < w.heap.size := fun i hi => by
 rcases hi with hi | hi
 ·exact h.use.ar.sL i hi
 ·rw [hi]; exact Blk.lt h.bk
theorem Rd.below (h : Rd B b g s p T S w) (hb : Below w.heap.size w w') : Rd B b g s p T S w' :=
 ⟨h.use.below hb, Blk.below h.bk hb (Blk.lt h.bk), h.nb, h.bB, h.hp, h.hs, h.few⟩
theorem Rd.grown (h : Rd B b g s p T S w) (hG : Grown S w S' w') (hA : Ar B w' g T' S') (hf : T'.length + 2 * (s.size - p) ≤ 900000000) : Rd B b g s p T' S' w' :=
 ⟨h.use.grown hG hA (by omega), hG.outs.blk h.bk h.nb, fun h2 => by
  rcases hG.new b h2 with h3 | h3
  ·exact h.nb h3
  ·have := Blk.lt h.bk; omega, h.bB, h.hp, h.hs, hf⟩
theorem Rd.by_ (h : Rd B b g s p T S w) (hB : Bk w' b g s p') (hG : w.grownBy w' (some b)) (hp : p' ≤ s.size) (hle : p ≤ p') : Rd B b g s p' T S w' :=
 ⟨h.use.kept hG (fun i e => by cases e; exact ⟨h.nb, h.bB⟩), hB, h.nb, h.bB, hp, h.hs, by have := h.few; omega⟩
theorem Rd.keep {row : Option Nat} (h : Rd B b g s p T S w) (k : w.grownBy w' row) (hr : ∀ i, row = some i → ¬ SR b S i ∧ B ≤ i) : Rd B b g s p T S w' :=
 ⟨h.use.kept k (fun i e => ⟨fun hc => (hr i e).1 (.inl hc), (hr i e).2⟩), Blk.grown h.bk k (fun e => (hr b e.symm).1 (.inr rfl)), h.nb, h.bB, h.hp, h.hs, h.few⟩
theorem Rd.len (h : Rd B b g s p T S w) : (s.data.toList.drop p).length = s.size - p := by rw [List.length_drop, size_len]
end
def Got (B b g : Nat) (s : ByteArray) (p0 p : Nat) (T : List Tm) (S : Nat → Prop) (w : World) (e : Ending) (w' : World) : Prop :=
 ∃ T' n S' p' o, e = .returned (.int .i64 n) ∧ Idn T' o n ∧ ReadT s p0 o p' ∧ Rd B b g s p' T' S' w' ∧ Grown (SR b S) w (SR b S') w' ∧ T <+: T' ∧ T'.length ≤ T.length + 2 * (p' - p) + 1 ∧ p ≤ p'
def GotT (B b g : Nat) (s : ByteArray) (p : Nat) (T : List Tm) (S : Nat → Prop) (w : World) (e : Ending) (w' : World) : Prop :=
 ∃ T' n S' p' o, e = .returned (.int .i64 n) ∧ Idn T' o n ∧ ReadT s p o p' ∧ Rd B b g s p' T' S' w' ∧ Grown (SR b S) w (SR b S') w' ∧ T <+: T' ∧ T'.length ≤ T.length + 2 * (p' - p) ∧ p ≤ p'
def SomeP (B b g : Nat) (s : ByteArray) (p n : Nat) (T : List Tm) (S : Nat → Prop) (w : World) (e : Ending) (w' : World) : Prop :=
 (∃ T' S' p', e = .returned (.tuple #[.slice none 0 0, .bool false]) ∧ NoTs n (s.data.toList.drop p) ∧ Rd B b g s p' T' S' w' ∧ Grown (SR b S) w (SR b S') w' ∧ T <+: T' ∧ T'.length ≤ T.length + 2 * (p' - p) ∧ p ≤ p') ∨
 (∃ T' S' p' l A c, e = .returned (.tuple #[.slice A n c, .bool true]) ∧ goods l ∧ l.length = n ∧ s.data.toList.drop p = encs l ++ s.data.toList.drop p' ∧ IdO w.heap.size w' T' (l.map some) (.slice A n c) (SR b S') ∧ Rd B b g s p' T' S' w' ∧ Grown (SR b S) w (SR b S') w' ∧ T <+: T' ∧ T'.length ≤ T.length + 2 * (p' - p) ∧ p ≤ p')
structure SomI (B b g : Nat) (s : ByteArray) (p i : Nat) (T : List Tm) (S : Nat → Prop) (w : World) (T' : List Tm) (S' : Nat → Prop) (p' : Nat) (l : List Tm) (v : Value) (wr : World) : Prop where
 rd : Rd B b g s p' T' S' wr
 grown : Grown (SR b S) w (SR b S') wr
 pre : T <+: T'
 few : T'.length ≤ T.length + 2 * (p' - p)
 le : p ≤ p'
 gds : goods l
 len : l.length = i
 eq : s.data.toList.drop p = encs l ++ s.data.toList.drop p'
 ids : IdO w.heap.size wr T' (l.map some) v (SR b S')
section
variable {B b g p p' i : Nat} {s : ByteArray} {T T' T2 : List Tm} {S S' S2 : Nat → Prop} {w wr wx : World} {l : List Tm} {v : Value}
theorem somI_nil (h : Rd B b g s p T S w) : SomI B b g s p 0 T S w T S p [] (.slice none 0 0) w :=
 ⟨h, Grown.refl _ _, List.prefix_refl _, by omega, Nat.le_refl _, trivial, rfl, by simp [encs], ido_nil _ _ _ _⟩
end
section
variable {B b g p p0 n : Nat} {s : ByteArray} {T : List Tm} {S : Nat → Prop} {w w1 w2 : World} {k a b' : Nat} {s' : ByteArray} {c : UInt8} {s1 : List UInt8}
theorem got_few (h1 : s.data.toList.drop p0 = c :: s1) (hc : c.toNat = 240 + k) (hH : Hed k a b' s' n s1 (s.data.toList.drop p)) {T1 : List Tm} {S1 : Nat → Prop} {p1 : Nat} (hN : NoTs n (s.data.toList.drop p)) (hR : Rd B b g s p1 T1 S1 w1) (hG : Grown (SR b S) w (SR b S1) w1) (hp : T <+: T1)
  (hl : T1.length ≤ T.length + 2 * (p1 - p)) (hle : p ≤ p1) : Got B b g s p0 p T S w (.returned (.int .i64 (-1))) w1 :=
 ⟨T1, -1, S1, p1, none, rfl, idn_none _, readT_few h1 hc hH hN, hR, hG, hp, by omega, hle⟩
theorem got_fin (h1 : s.data.toList.drop p0 = c :: s1) (hc : c.toNat = 240 + k) (hk : k ≤ 10) (hH : Hed k a b' s' n s1 (s.data.toList.drop p)) {T1 : List Tm} {S1 : Nat → Prop} {p1 : Nat} {l : List Tm} (hg : goods l) (hn : l.length = n) (he : s.data.toList.drop p = encs l ++ s.data.toList.drop p1)
  (hR : Rd B b g s p1 T1 S1 w1) (hG : Grown (SR b S) w (SR b S1) w1) (hp : T <+: T1) (hl : T1.length ≤ T.length + 2 * (p1 - p)) (hle : p ≤ p1) {o : Option Tm} (ho : MadeOf k a b' s' l o) {e : Ending} (hD : Done B w1 g T1 S1 o e w2) (hpp : p0 < p) (hK : T.length + 2 * (s.size - p0) ≤ 900000000) : Got B b g s p0 p T S w e w2 := by
 obtain ⟨T2, m, S2, rfl, hP, hA, hG2⟩ := hD
 have h3 := hP.len
 have h4 := hR.few
 have h5 := hR.hp
 exact ⟨T2, m, S2, p1, o, rfl, hP.idn, readT_fin hR.hs h1 hc hk hH hg hn he ho, hR.grown hG2 hA (by omega), hG.trans (hG2.sr b), hp.trans hP.pre, by omega, hle⟩
end
end Go.Proofs.YtmgfcjpifkoahaaGreatDoor
namespace Go.Proofs.YtmgfcjpifkoahaaGreatDoor
open Go.RowKit Go.ChangeShapes Go.WideShapes Go.Sort

def TermIH (B b g : Nat) (s : ByteArray) (N : Nat) : Prop :=
 ∀ (p : Nat) (T : List Tm) (S : Nat → Prop) (w : World), s.size - p < N → Rd B b g s p T S w → Calls Tryz.prog 140 #[.pointer (some ⟨b, 0, none⟩)] w (GotT B b g s p T S w)
section
variable {B b g p N : Nat} {s : ByteArray} {T : List Tm} {S : Nat → Prop} {w : World}
theorem readT_no {s : ByteArray} {p p' : Nat} (h : ReadT s p none p') : NoT (s.data.toList.drop p) := by
 rcases h with h | ⟨t, h, _⟩
 ·exact h.2
 ·cases h
theorem readT_yes {s : ByteArray} {p p' : Nat} {t : Tm} (h : ReadT s p (some t) p') : good t ∧ s.data.toList.drop p = enc t ++ s.data.toList.drop p' := by
 rcases h with h | ⟨t', h, h2⟩
 ·cases h.1
 ·cases h
  exact h2
set_option maxHeartbeats 2000000 in
set_option maxRecDepth 100000 in
theorem some_any (IH : TermIH B b g s N) (h : Rd B b g s p T S w) (hN : s.size - p < N) (n : Nat) (hn : n ≤ 1000) :
    Calls Tryz.prog 215 #[.pointer (some ⟨b, 0, none⟩), .int .i64 n] w (SomeP B b g s p n T S w) := by
  have HI0 := hide (somI_nil h)
  have HB := hide h.use.base
  have HIH := hide IH
  clear h IH
  go_enter Tryz.func215, Tryz.ntmps215
  go_wp2_with fail
  go_loopw [9, 6] (fun vi v wr => ∃ (i : Nat) (T' : List Tm) (S' : Nat → Prop) (p' : Nat) (l : List Tm), vi = .int .i64 i ∧ i ≤ n ∧ SomI B b g s p i T S w T' S' p' l v wr) (fun vi _ _ => n - (intOf vi).toNat)
  case atStart => exact ⟨0, T, S, p, [], rfl, Nat.zero_le _, HI0.out⟩
  case round =>
    obtain ⟨i, T', S', p', l, rfl, hi, hI⟩ := hrel
    have HI := hide hI
    obtain ⟨A1, c1, hv⟩ := hI.ids.sl
    have hml : (l.map some).length = i := by rw [List.length_map, hI.len]
    rw [hml] at hv
    subst hv
    have hwz := hI.grown.size
    by_cases hlt : i < n
    · have hii : (i : Int) < n := by omega
      have HT := hide (HIH.out p' T' S' wr (by have := hI.le; omega) hI.rd)
      obtain ⟨iI, hiI, hI0, hI1, hI2⟩ := info_parts infoIDr
      clear hI
      go_wp2_with (first
        | (go_at_call 140; refine HT.out.mono ?_; rintro e wx ⟨T2, m, S2, p2, o, rfl, hid, hread, hR2, hG2, hpre, hlen, hle⟩;
           have hX := HI.out.ids.grown hG2 hpre; obtain ⟨ns, ho1, hidn⟩ := hX.ids; rw [hml] at ho1; have hbx := hG2.size)
        | (at_builtin; refine wpList_append_any _ rfl (.tmp 15) (.tmp 17) _ rfl w.heap.size 25 iI (.int .i64 0) 1 8 Tryz.underlying34 hiI hI0 hI1 hI2 rfl (by decide) _ _ _ rfl (ho1.alloc _) _ (some ⟨_, 0, none⟩) 1 1 [.int .i64 m] rfl (reads_blk (Blk.new _ _ _) rfl) (by simp [Value.oneCell']) (by unfold maxLen; omega) (by omega) (by simp; omega) ?_; intro v6 w6 hown6 hgr6 hor6)
        | fail)
      · rename_i hm
        obtain rfl : m = -1 := by simpa using hm
        obtain rfl := hid.none_iff.1 rfl
        have hI := HI.out
        go_ret2
        exact .inl ⟨T2, S2, p2, rfl, noTs_stop hI.gds hI.len hlt hI.eq (readT_no hread), hR2, hI.grown.trans hG2, hI.pre.trans hpre, by have := hI.few; have := hI.le; omega, by have := hI.le; omega⟩
      · have hI := HI.out
        obtain ⟨t, rfl⟩ : ∃ t, o = some t := by
          cases o with
          | some t => exact ⟨t, rfl⟩
          | none =>
            exfalso
            have := hid.2 rfl
            simp_all
        obtain ⟨ht1, ht2⟩ := readT_yes hread
        have k1 := only_alloc (only_refl wx none) (.cells #[.int .i64 m] 25)
        have r1 := hR2.keep k1 (fun i e => by cases e)
        have r2 := r1.keep hgr6 (fun j e => ⟨hX.out j e, Nat.le_trans HB.out (ho1.lt j e).1⟩)
        have g1 := ((hI.grown.trans hG2).keepNew k1 (fun i e => by cases e)).keepNew hgr6 (fun j e => (ho1.lt j e).1)
        have hsx := hR2.sr_lt
        refine ⟨⟨i + 1, T2, S2, p2, l ++ [t], by go_num, by omega, r2, g1, hI.pre.trans hpre, by have := hI.few; have := hI.le; omega, by have := hI.le; omega, goods_snoc hI.gds ht1, by simp [hI.len], ?_, ⟨ns ++ [m], ?_, ?_⟩, ?_⟩, by simp [intOf]; omega⟩
        · rw [hI.eq, ht2, encs_append]
          simp [encs]
        · simpa [hI.len] using hown6
        · simpa using hidn.snoc hid
        · exact at_new hor6 hX.out (fun i hi => by have := hsx i hi; simp; omega)
    · obtain rfl : i = n := by omega
      have hii : ¬ (i : Int) < i := by omega
      go_wp2
      go_ret2
      have hI := HI.out
      exact .inr ⟨T', S', p', l, A1, c1, rfl, hI.gds, hI.len, hI.eq, hI.ids, hI.rd, hI.grown, hI.pre, hI.few, hI.le⟩
end
end Go.Proofs.YtmgfcjpifkoahaaGreatDoor
