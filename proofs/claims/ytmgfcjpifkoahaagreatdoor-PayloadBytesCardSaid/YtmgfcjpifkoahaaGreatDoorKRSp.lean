/-
  The contracts of the reference's parts and Split of names. Conditions: texts of at most 1,000,000 bytes.
-/
import Derived.Test.YtmgfcjpifkoahaaGreatDoorKGetX
import Derived.Test.YtmgfcjpifkoahaaGreatDoorKRPut
set_option linter.unusedVariables false
set_option linter.unusedSimpArgs false
namespace Go.Proofs.YtmgfcjpifkoahaaGreatDoor
open Go.RowKit Go.ChangeShapes Go.WideShapes Go.Sort
theorem part_cut {S : List UInt8} {fr i : Nat} (hf : fr ≤ i) (hi : i < S.length) : S.drop fr = (S.drop fr).take (i - fr) ++ S[i] :: S.drop (i + 1) := by
 have h1 := List.take_append_drop (i - fr) (S.drop fr)
 rw [List.drop_drop, show fr + (i - fr) = i by omega, List.drop_eq_getElem_cons hi] at h1
 exact h1.symm
theorem part_yes {S : List UInt8} {fr i : Nat} (hf : fr ≤ i) (hi : i < S.length) (h : S[i] = 44) (hn : ∀ c ∈ (S.drop fr).take (i - fr), c ≠ 44) : splitC (S.drop fr) = (S.drop fr).take (i - fr) :: splitC (S.drop (i + 1)) := by
 have h1 := part_cut hf hi
 rw [h] at h1
 conv => lhs; rw [h1]
 exact splitC_app (fun hm => hn 44 hm rfl) _
theorem part_no {S : List UInt8} {fr i : Nat} (hf : fr ≤ i) (hi : i < S.length) (h : S[i] ≠ 44) (hn : ∀ c ∈ (S.drop fr).take (i - fr), c ≠ 44) : ∀ c ∈ (S.drop fr).take (i + 1 - fr), c ≠ 44 := by
 have hl : i - fr < (S.drop fr).length := by rw [List.length_drop]; omega
 rw [show i + 1 - fr = (i - fr) + 1 by omega, List.take_succ_eq_append_getElem hl]
 intro c hc
 rcases List.mem_append.1 hc with hc | hc
 ·exact hn c hc
 ·simp only [List.mem_singleton, List.getElem_drop] at hc
  subst hc
  have : fr + (i - fr) = i := by omega
  simpa [this] using h
theorem part_end {S : List UInt8} {fr : Nat} (hf : fr ≤ S.length) (hn : ∀ c ∈ (S.drop fr).take (S.length - fr), c ≠ 44) : splitC (S.drop fr) = [(S.drop fr).take (S.length - fr)] := by
 have h1 : (S.drop fr).take (S.length - fr) = S.drop fr := List.take_of_length_le (by rw [List.length_drop]; exact Nat.le_refl _)
 rw [h1] at hn ⊢
 exact splitC_none (fun hm => hn 44 hm rfl)
structure PartI (w : World) (S : List UInt8) (fr i : Nat) (A : Option Addr) (n c : Nat) (wr : World) : Prop where
 bel : Below w.heap.size w wr
 st : ∃ ls : List (List UInt8), ls.length = n ∧ wr.ownsRow w.heap.size 9 1 (.slice A n c) n ((ls.map bs).map Value.string) ∧ n ≤ i ∧
  (i ≤ S.length → fr ≤ i ∧ splitC S = ls ++ splitC (S.drop fr) ∧ ∀ c ∈ (S.drop fr).take (i - fr), c ≠ 44) ∧ (S.length < i → splitC S = ls)
section
variable {w : World}
set_option maxHeartbeats 8000000 in
set_option maxRecDepth 100000 in
theorem rparts_any (s : ByteArray) (hs : s.size ≤ 1000000) : Calls Tryz.prog 203 #[.string s] w (fun e w' => ∃ v, e = .returned v ∧ NewC w.heap.size w' v (splitC s.data.toList) ∧ Below w.heap.size w w') := by
 obtain ⟨iI, hiI, hI0, hI1, hI2⟩ := info_partsN infoStN
 have HI0 := hide (show PartI w s.data.toList 0 0 none 0 0 w from ⟨Below.refl _ _, [], rfl, World.ownsRow_nil _ _ _ _, Nat.le_refl _, fun _ => ⟨Nat.le_refl _, rfl, by simp⟩, fun h => by omega⟩)
 have hsz : s.data.toList.length = s.size := rfl
 go_enter Tryz.func203, Tryz.ntmps203
 go_wp2_with fail
 go_loopw [3, 4, 5] (fun vl vf vi wr => ∃ (fr i : Nat) (A : Option Addr) (n c : Nat), vl = .slice A n c ∧ vf = .int .i64 fr ∧ vi = .int .i64 i ∧ i ≤ s.size + 1 ∧ Hid (PartI w s.data.toList fr i A n c wr)) (fun _ _ vi _ => s.size + 1 - (intOf vi).toNat)
 case atStart => exact ⟨0, 0, none, 0, 0, rfl, rfl, rfl, by omega, HI0⟩
 case round =>
  obtain ⟨fr, i, A, n, c, rfl, rfl, rfl, hi, HI⟩ := hrel
  obtain ⟨ls, hls, hown, hni, hin, hout⟩ := HI.out.st
  have hbr := HI.out.bel
  have hzr := hbr.size
  by_cases hle : i ≤ s.size
  ·obtain ⟨hfr, hsp, hno⟩ := hin hle
   have hle' : (i : Int) ≤ s.size := by omega
   have hx := ext_bsn s fr (i - fr)
   rw [show fr + (i - fr) = i by omega] at hx
   have HX := hide hx
   by_cases heq : i = s.size
   ·have heq' : ((i : Int) == (s.size : Int)) = true := by rw [heq]; exact beq_self_eq_true _
    have HS := hide (show splitC s.data.toList = ls ++ [(s.data.toList.drop fr).take (i - fr)] from by
     rw [hsp, heq, ← hsz, part_end (by omega) (by rw [heq, ← hsz] at hno; exact hno)])
    have Hown := hide hown
    have HH := hide (And.intro hls hni)
    clear hsp hno hin hout HI hown hls hx
    subst heq
    go_wp2_with (first
     | (at_builtin; refine wpList_append_any _ rfl (.tmp 22) (.tmp 27) _ rfl w.heap.size 9 iI (.string ⟨#[]⟩) 1 16 Tryz.underlying35 hiI hI0 hI1 hI2 rfl (by decide) (.slice A n c) n _ rfl (Hown.out.alloc _) _ (some ⟨_, 0, none⟩) 1 1 [.string (s.extract fr s.size)] rfl (reads_blkN (Blk.new _ _ _) rfl) (by simp [Value.oneCell']) (by have := HH.out.2; unfold maxLen; omega) (by have := HH.out.2; omega) (by simp only [World.size_alloc]; omega) ?_; intro v6 w6 hown6 hgr6 hor6; obtain ⟨A6, c6, rfl⟩ := own_slN hown6)
     | fail)
    have hb6 : Below w.heap.size w w6 := (hbr.alloc hzr (.cells #[.string (s.extract fr s.size)] 9)).grown hgr6 (by simp only [World.size_alloc]; omega) (fun k e => (Hown.out.lt k e).1)
    refine ⟨⟨s.size + 1, s.size + 1, A6, n + 1, c6, by first | rfl | (simp; done), by first | rfl | go_num, by first | rfl | go_num, by omega, hide ⟨hb6, ls ++ [(s.data.toList.drop fr).take (s.size - fr)], by rw [List.length_append, HH.out.1]; rfl, ?_, by have := HH.out.2; omega, fun h => by omega, fun _ => HS.out⟩⟩, by simp [intOf]⟩
    rw [List.map_append, List.map_append]
    rw [HX.out] at hown6
    exact hown6
   ·have hlt : i < s.size := by omega
    have heq' : ((i : Int) == (s.size : Int)) = false := by rw [beq_eq_false_iff_ne]; omega
    have hlt2 : i < s.data.toList.length := hlt
    have hfc : s.data.toList[i]'hlt2 = s[i] := rfl
    by_cases hc : s[i] = 44
    ·have hc' : ((s[i].toNat : Int) == 44) = true := by rw [hc]; rfl
     have HS := hide (show splitC s.data.toList = (ls ++ [(s.data.toList.drop fr).take (i - fr)]) ++ splitC (s.data.toList.drop (i + 1)) from by
      rw [hsp, part_yes hfr hlt2 (hfc.trans hc) hno, List.append_assoc]
      rfl)
     have Hown := hide hown
     have HH := hide (And.intro hls hni)
     clear hsp hno hin hout HI hown hls hx hfc hc
     go_wp2_with (first
      | (at_builtin; refine wpList_append_any _ rfl (.tmp 22) (.tmp 27) _ rfl w.heap.size 9 iI (.string ⟨#[]⟩) 1 16 Tryz.underlying35 hiI hI0 hI1 hI2 rfl (by decide) (.slice A n c) n _ rfl (Hown.out.alloc _) _ (some ⟨_, 0, none⟩) 1 1 [.string (s.extract fr i)] rfl (reads_blkN (Blk.new _ _ _) rfl) (by simp [Value.oneCell']) (by have := HH.out.2; unfold maxLen; omega) (by have := HH.out.2; omega) (by simp only [World.size_alloc]; omega) ?_; intro v6 w6 hown6 hgr6 hor6; obtain ⟨A6, c6, rfl⟩ := own_slN hown6)
      | fail)
     have hb6 : Below w.heap.size w w6 := (hbr.alloc hzr (.cells #[.string (s.extract fr i)] 9)).grown hgr6 (by simp only [World.size_alloc]; omega) (fun k e => (Hown.out.lt k e).1)
     refine ⟨⟨i + 1, i + 1, A6, n + 1, c6, by first | rfl | (simp; done), by first | rfl | go_num, by first | rfl | go_num, by omega, hide ⟨hb6, ls ++ [(s.data.toList.drop fr).take (i - fr)], by rw [List.length_append, HH.out.1]; rfl, ?_, by have := HH.out.2; omega, fun h => ⟨Nat.le_refl _, HS.out, by simp⟩, fun h => by omega⟩⟩, by simp [intOf]; omega⟩
     rw [List.map_append, List.map_append]
     rw [HX.out] at hown6
     exact hown6
    ·have h9 : s[i].toNat ≠ 44 := fun e => hc (UInt8.toNat_inj.1 (by simpa using e))
     have hc' : ((s[i].toNat : Int) == 44) = false := by rw [beq_eq_false_iff_ne]; omega
     have HI2 := hide (show PartI w s.data.toList fr (i + 1) A n c wr from ⟨hbr, ls, hls, hown, by omega, fun h => ⟨by omega, hsp, part_no hfr hlt2 (fun e => hc (hfc.symm.trans e)) hno⟩, fun h => by omega⟩)
     clear hsp hno hin hout HI hown hls hx hfc hc h9
     go_wp2_with fail
     exact ⟨⟨fr, i + 1, A, n, c, rfl, rfl, by first | rfl | go_num, by omega, HI2⟩, by simp [intOf]; omega⟩
  ·have hle' : ¬ (i : Int) ≤ s.size := by omega
   have HS := hide (hout (by omega))
   have hN := hide (newC_own hown hls.symm)
   clear hin hout HI hown
   go_wp2_with fail
   go_ret
   exact ⟨_, rfl, by rw [HS.out]; exact hN.out, hbr⟩
theorem splitC_small (s : List UInt8) : ∀ x ∈ splitC s, x.length ≤ s.length := by
 intro x hx
 have h1 := congrArg List.length (joinC_splitC s)
 have key : ∀ l : List (List UInt8), x ∈ l → x.length ≤ (joinC l).length := by
  intro l
  induction l with
  | nil => intro h; cases h
  | cons y l ih =>
   intro h
   by_cases hn : l = []
   ·subst hn
    simp only [List.mem_singleton] at h
    subst h
    exact Nat.le_refl _
   ·rw [joinC_cons _ hn, List.length_append, List.length_cons]
    rcases List.mem_cons.1 h with rfl | h
    ·omega
    ·have := ih h
     omega
 have := key _ hx
 omega
set_option maxHeartbeats 1000000 in
theorem rsplit_any (s : ByteArray) (hs : s.size ≤ 1000000) : Calls Tryz.prog 166 #[.string s] w (fun e w' => ∃ v, e = .returned (.tuple #[v, .int .i64 (splitN s.data.toList).1]) ∧ NewC w.heap.size w' v (splitN s.data.toList).2 ∧ Below w.heap.size w w') := by
 by_cases h0 : s.size = 0
 ·have hnil : s.data.toList = [] := List.eq_nil_of_length_eq_zero h0
  have E := hide (show splitN s.data.toList = (0, []) from by rw [hnil]; rfl)
  have h0' : ((s.size : Int) == 0) = true := by rw [h0]; rfl
  clear hnil h0
  go_enter Tryz.func166, Tryz.ntmps166
  go_wp2_with fail
  go_ret2
  exact ⟨.slice none 0 0, by rw [E.out]; rfl, by rw [E.out]; exact newC_nil _ _ _, Below.refl _ _⟩
 ·have h0' : ((s.size : Int) == 0) = false := by rw [beq_eq_false_iff_ne]; omega
  have hne : s.data.toList ≠ [] := fun e => h0 (by have := congrArg List.length e; simpa using this)
  have HP := hide (rparts_any (w := w) s hs)
  have HSm := hide (splitC_small s.data.toList)
  have hsz : s.data.toList.length = s.size := rfl
  by_cases hk : wrongN (splitC s.data.toList) = 0
  ·have E := hide (show splitN s.data.toList = (0, splitC s.data.toList) from by unfold splitN; rw [if_neg hne, if_pos hk])
   clear hne h0
   go_enter Tryz.func166, Tryz.ntmps166
   go_wp2_with fail
   refine HP.out.mono ?_
   rintro e w1 ⟨v, rfl, hN, hb1⟩
   obtain ⟨A, c, rfl, hc, hSl⟩ := id hN
   have HN := hide hN
   have HW := hide (rwrong_any (w := w1) hN.txc.1 (fun y hy => by have := HSm.out y hy; omega))
   rw [hk] at HW
   clear hSl hN
   generalize (splitC s.data.toList).length = m at HW hc HN ⊢
   go_wp2_with (first | (go_at_call 172; refine HW.out.mono ?_; rintro e w2 ⟨rfl, rfl⟩) | fail)
   go_ret2
   exact ⟨.slice A m c, by rw [E.out]; rfl, by rw [E.out]; exact HN.out, hb1⟩
  ·have E := hide (show splitN s.data.toList = (wrongN (splitC s.data.toList), []) from by unfold splitN; rw [if_neg hne, if_neg hk])
   have hk1 : ((wrongN (splitC s.data.toList) : Int) == 0) = false := by rw [beq_eq_false_iff_ne]; omega
   have hk2 : ((wrongN (splitC s.data.toList) : Int) != 0) = true := by simp [bne, hk1]
   clear hne h0
   go_enter Tryz.func166, Tryz.ntmps166
   go_wp2_with fail
   refine HP.out.mono ?_
   rintro e w1 ⟨v, rfl, hN, hb1⟩
   obtain ⟨A, c, rfl, hc, hSl⟩ := id hN
   have HW := hide (rwrong_any (w := w1) hN.txc.1 (fun y hy => by have := HSm.out y hy; omega))
   clear hSl hN
   generalize wrongN (splitC s.data.toList) = wn at HW hk1 hk2 hk E
   clear hk
   generalize (splitC s.data.toList).length = m at HW hc
   go_wp2_with (first | (go_at_call 172; refine HW.out.mono ?_; rintro e w2 ⟨rfl, rfl⟩) | fail)
   go_ret2
   exact ⟨.slice none 0 0, by rw [E.out]; rfl, by rw [E.out]; exact newC_nil _ _ _, hb1⟩
end
end Go.Proofs.YtmgfcjpifkoahaaGreatDoor
