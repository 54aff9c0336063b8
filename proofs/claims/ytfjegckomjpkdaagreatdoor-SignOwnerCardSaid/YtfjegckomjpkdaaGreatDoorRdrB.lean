/-
  The contracts of code's some and counted: so many terms read, if term reads one. Conditions: at most MaxTerm bytes.
-/
import Derived.Test.YtfjegckomjpkdaaGreatDoorRdrS
set_option linter.unusedVariables false
set_option linter.unusedSimpArgs false
namespace Go.Proofs.YtfjegckomjpkdaaGreatDoor
open Go.RowKit Go.ChangeShapes Go.WideShapes Go.Sort

/-- That term reads a term wherever fewer than N bytes are left. -/
def TermIH (B b g : Nat) (s : ByteArray) (N : Nat) : Prop :=
  ∀ (p : Nat) (T : List Tm) (S : Nat → Prop) (w : World), s.size - p < N → Rd B b g s p T S w → Calls Tryz.prog 54 #[.pointer (some ⟨b, 0, none⟩)] w (GotT B b g s p T S w)
section
variable {B b g p N : Nat} {s : ByteArray} {T : List Tm} {S : Nat → Prop} {w : World}
theorem readT_no {s : ByteArray} {p p' : Nat} (h : ReadT s p none p') : NoT (s.data.toList.drop p) := by
  rcases h with h | ⟨t, h, _⟩
  · exact h.2
  · cases h
theorem readT_yes {s : ByteArray} {p p' : Nat} {t : Tm} (h : ReadT s p (some t) p') : good t ∧ s.data.toList.drop p = enc t ++ s.data.toList.drop p' := by
  rcases h with h | ⟨t', h, h2⟩
  · cases h.1
  · cases h
    exact h2
set_option maxHeartbeats 2000000 in
set_option maxRecDepth 100000 in
theorem some_any (IH : TermIH B b g s N) (h : Rd B b g s p T S w) (hN : s.size - p < N) (n : Nat) (hn : n ≤ 1000) :
    Calls Tryz.prog 126 #[.pointer (some ⟨b, 0, none⟩), .int .i64 n] w (SomeP B b g s p n T S w) := by
  have HI0 := hide (somI_nil h)
  have HB := hide h.use.base
  have HIH := hide IH
  clear h IH
  go_enter Tryz.func126, Tryz.ntmps126
  go_wp2_with fail
  go_loopw [9, 6] (fun vi v wr => ∃ (i : Nat) (T' : List Tm) (S' : Nat → Prop) (p' : Nat) (l : List Tm), vi = .int .i64 i ∧ i ≤ n ∧ SomI B b g s p i T S w T' S' p' l v wr) (fun vi _ _ => n - (intOf vi).toNat)
  case atStart => exact ⟨0, T, S, p, [], rfl, Nat.zero_le _, HI0.out⟩
  case round =>
    obtain ⟨i, T', S', p', l, rfl, hi, hI⟩ := hrel
    have HI := hide hI
    obtain ⟨A1, c1, hv⟩ := hI.ids.sl
    have hml : (l.map some).length = i := by rw [List.length_map, hI.len]
    rw [hml] at hv
    subst hv
    have hwz := hI.grown.size
    by_cases hlt : i < n
    · have hii : (i : Int) < n := by omega
      have HT := hide (HIH.out p' T' S' wr (by have := hI.le; omega) hI.rd)
      obtain ⟨iI, hiI, hI0, hI1, hI2⟩ := info_parts infoIDr
      clear hI
      go_wp2_with (first
        | (go_at_call 54; refine HT.out.mono ?_; rintro e wx ⟨T2, m, S2, p2, o, rfl, hid, hread, hR2, hG2, hpre, hlen, hle⟩;
           have hX := HI.out.ids.grown hG2 hpre; obtain ⟨ns, ho1, hidn⟩ := hX.ids; rw [hml] at ho1; have hbx := hG2.size)
        | (at_builtin; refine wpList_append_any _ rfl (.tmp 15) (.tmp 17) _ rfl w.heap.size 34 iI (.int .i64 0) 1 8 Tryz.underlying28 hiI hI0 hI1 hI2 rfl (by decide) _ _ _ rfl (ho1.alloc _) _ (some ⟨_, 0, none⟩) 1 1 [.int .i64 m] rfl (reads_blk (Blk.new _ _ _) rfl) (by simp [Value.oneCell']) (by unfold maxLen; omega) (by omega) (by simp; omega) ?_; intro v6 w6 hown6 hgr6 hor6)
        | fail)
      · rename_i hm
        obtain rfl : m = -1 := by simpa using hm
        obtain rfl := hid.none_iff.1 rfl
        have hI := HI.out
        go_ret2
        exact .inl ⟨T2, S2, p2, rfl, noTs_stop hI.gds hI.len hlt hI.eq (readT_no hread), hR2, hI.grown.trans hG2, hI.pre.trans hpre, by have := hI.few; have := hI.le; omega, by have := hI.le; omega⟩
      · have hI := HI.out
        obtain ⟨t, rfl⟩ : ∃ t, o = some t := by
          cases o with
          | some t => exact ⟨t, rfl⟩
          | none =>
            exfalso
            have := hid.2 rfl
            simp_all
        obtain ⟨ht1, ht2⟩ := readT_yes hread
        have k1 := only_alloc (only_refl wx none) (.cells #[.int .i64 m] 34)
        have r1 := hR2.keep k1 (fun i e => by cases e)
        have r2 := r1.keep hgr6 (fun j e => ⟨hX.out j e, Nat.le_trans HB.out (ho1.lt j e).1⟩)
        have g1 := ((hI.grown.trans hG2).keepNew k1 (fun i e => by cases e)).keepNew hgr6 (fun j e => (ho1.lt j e).1)
        have hsx := hR2.sr_lt
        refine ⟨⟨i + 1, T2, S2, p2, l ++ [t], by go_num, by omega, r2, g1, hI.pre.trans hpre, by have := hI.few; have := hI.le; omega, by have := hI.le; omega, goods_snoc hI.gds ht1, by simp [hI.len], ?_, ⟨ns ++ [m], ?_, ?_⟩, ?_⟩, by simp [intOf]; omega⟩
        · rw [hI.eq, ht2, encs_append]
          simp [encs]
        · simpa [hI.len] using hown6
        · simpa using hidn.snoc hid
        · exact at_new hor6 hX.out (fun i hi => by have := hsx i hi; simp; omega)
    · obtain rfl : i = n := by omega
      have hii : ¬ (i : Int) < i := by omega
      go_wp2
      go_ret2
      have hI := HI.out
      exact .inr ⟨T', S', p', l, A1, c1, rfl, hI.gds, hI.len, hI.eq, hI.ids, hI.rd, hI.grown, hI.pre, hI.few, hI.le⟩
end
end Go.Proofs.YtfjegckomjpkdaaGreatDoor
