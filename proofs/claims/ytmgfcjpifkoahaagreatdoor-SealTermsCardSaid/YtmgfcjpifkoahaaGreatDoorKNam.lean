/-
  The contracts of package names' Right, check, Split and Join. Conditions: texts that fit; the library's own number is there.
-/
import Derived.Test.YtmgfcjpifkoahaaGreatDoorKKxPG
import Derived.Test.YtmgfcjpifkoahaaGreatDoorKRefA
import Derived.Test.YtmgfcjpifkoahaaGreatDoorKShelf
import Derived.Lib.SplitLaws
set_option linter.unusedVariables false
set_option linter.unusedSimpArgs false
namespace Go.Proofs.YtmgfcjpifkoahaaGreatDoor
open Go.RowKit Go.ChangeShapes Go.WideShapes Go.Sort
def MaxL (w : World) : Prop := ∃ m, w.cell? ⟨0, 0, none⟩ = some (.int .i64 m)
theorem MaxL.below {w w' : World} (h : MaxL w) (hb : Below w.heap.size w w') : MaxL w' := by
 obtain ⟨m, hm⟩ := h
 exact ⟨m, (hb.cell (p := ⟨0, 0, none⟩) (World.block_lt_of_cell? w _ hm)).trans hm⟩
theorem bel_newN {w : World} (o : Obj) : Below w.heap.size w (w.alloc o) := (Below.refl _ _).alloc (Nat.le_refl _) o
def NewT (w w' : World) (v : Value) (ls : List (List UInt8)) : Prop := Strs w.heap.size w' v (ls.map bs)
theorem NewT.txs {w w' : World} {v : Value} {ls : List (List UInt8)} (h : NewT w w' v ls) : Txs w' v ls := Strs.mono h (Nat.zero_le _)
def NewC (lo : Nat) (w' : World) (v : Value) (ls : List (List UInt8)) : Prop := ∃ A c, v = .slice A ls.length c ∧ ls.length ≤ c ∧ Sl lo w' 1 A ls.length ((ls.map bs).map Value.string)
theorem newC_nil (lo : Nat) (w' : World) (c : Nat) : NewC lo w' (.slice none 0 c) [] := ⟨none, c, rfl, Nat.zero_le _, Sl.nil_⟩
theorem newC_of {lo : Nat} {w' : World} {A : Option Addr} {n c : Nat} {ls : List (List UInt8)} (h : Strs lo w' (.slice A n c) (ls.map bs)) (hc : ls.length ≤ c) : NewC lo w' (.slice A n c) ls := by
 obtain ⟨A', c', e, hS⟩ := h
 injection e with e1 e2 e3
 subst e1 e2 e3
 rw [List.length_map] at hS ⊢
 exact ⟨A, c, rfl, hc, hS⟩
theorem NewC.mono {lo lo2 : Nat} {w' : World} {v : Value} {ls : List (List UInt8)} (h : NewC lo w' v ls) (hl : lo2 ≤ lo) : NewC lo2 w' v ls := by
 obtain ⟨A, c, e, hc, hS⟩ := h
 exact ⟨A, c, e, hc, hS.mono hl⟩
theorem NewC.set_ {lo : Nat} {w' : World} {v : Value} {ls : List (List UInt8)} (h : NewC lo w' v ls) {p : Addr} (hp : p.block < lo) (u : Value) : NewC lo (w'.setCell p u) v ls := by
 obtain ⟨A, c, e, hc, hS⟩ := h
 exact ⟨A, c, e, hc, hS.setCell hp u⟩
theorem mem_toList {s : ByteArray} {k : Nat} (h : k < s.size) : s[k] ∈ s.data.toList := by
 have h2 : k < s.data.toList.length := h
 exact List.mem_iff_getElem.2 ⟨k, h2, rfl⟩
theorem all_take {s : ByteArray} {k : Nat} {P : UInt8 → Prop} (h : k < s.size) (ha : ∀ c ∈ s.data.toList.take k, P c) (hk : P s[k]) : ∀ c ∈ s.data.toList.take (k + 1), P c := by
 intro c hc
 have h2 : k < s.data.toList.length := h
 rw [List.take_succ_eq_append_getElem h2] at hc
 rcases List.mem_append.1 hc with hc | hc
 ·exact ha c hc
 ·simp only [List.mem_singleton] at hc
  subst hc
  exact hk
theorem all_full {s : ByteArray} {k : Nat} {P : UInt8 → Prop} (h : ¬ k < s.size) (ha : ∀ c ∈ s.data.toList.take k, P c) : ∀ c ∈ s.data.toList, P c := by
 intro c hc
 refine ha c ?_
 rw [List.take_of_length_le (by show s.size ≤ k; omega)]
 exact hc
section
variable {w : World}
set_option maxHeartbeats 1000000 in
theorem nright_any (s : ByteArray) (hs : s.size ≤ 9223372036854775807) (w : World) : Calls Tryz.prog 218 #[.string s] w (fun e w' => e = .returned (.bool (rightL s.data.toList)) ∧ w' = w) := by
 have HC := hide (fun W => Tryz.strings_Contains_one s 44 W)
 rw [contains_comma] at HC
 generalize hb : s.data.toList.contains 44 = b at HC
 have Hb := hide hb
 clear hb
 go_enter Tryz.func218, Tryz.ntmps218
 go_wp2_with fail
 go_loop [6] (fun i => ∃ k : Nat, k ≤ s.size ∧ i = .int .i64 k ∧ Hid (∀ c ∈ s.data.toList.take k, 33 ≤ c.toNat ∧ c.toNat ≤ 126)) (fun i => s.size - (intOf i).toNat)
 case atStart => exact ⟨0, Nat.zero_le _, rfl, hide (by simp)⟩
 case round =>
  obtain ⟨k, hk, rfl, H⟩ := hrel
  by_cases hlt : k < s.size
  ·by_cases h1 : s[k].toNat < 33
   ·have h1' : (s[k].toNat : Int) < 33 := by omega
    have E := hide (rightL_no (mem_toList hlt) (.inl h1))
    go_wp2_with fail
    go_ret
    exact ⟨by rw [E.out]; rfl, rfl⟩
   ·have h1' : ¬ (s[k].toNat : Int) < 33 := by omega
    by_cases h2 : 126 < s[k].toNat
    ·have h2' : (126 : Int) < s[k].toNat := by omega
     have E := hide (rightL_no (mem_toList hlt) (.inr (.inl h2)))
     go_wp2_with fail
     go_ret
     exact ⟨by rw [E.out]; rfl, rfl⟩
    ·have h2' : ¬ (126 : Int) < s[k].toNat := by omega
     have H2 := hide (all_take hlt H.out ⟨Nat.le_of_not_lt h1, Nat.le_of_not_lt h2⟩)
     clear H
     go_wp2_with fail
     go_round
     case rel => exact ⟨k + 1, hlt, by go_num, H2⟩
     case measure => simp [intOf]; omega
  ·have E := hide (rightL_eq (all_full hlt H.out))
   rw [Hb.out] at E
   clear H Hb
   by_cases h0 : s = ⟨#[]⟩
   ·subst h0
    go_wp2_with fail
    go_ret
    exact ⟨rfl, rfl⟩
   ·have hne := bytes_some h0
    have hne2 := bytes_ne h0
    have hne3 : (s.toList != []) = true := by
     rw [bne, Bool.not_eq_true']
     simpa [ByteArray.toList_eq] using hne2
    have hl1 : 1 ≤ s.data.toList.length := by
     rcases Nat.eq_zero_or_pos s.data.toList.length with h9 | h9
     ·exact absurd (toList_inj (List.eq_nil_of_length_eq_zero h9)) h0
     ·exact h9
    have hl2 : s.data.toList.length = s.size := rfl
    by_cases h64 : s.size ≤ 64
    ·have h64' : (s.size : Int) ≤ 64 := by omega
     go_wp2_with (go_at_call 115; refine (HC.out _).mono ?_; rintro e w1 ⟨rfl, rfl⟩)
     go_ret
     refine ⟨?_, rfl⟩
     rw [E.out, decide_eq_true hl1, hl2, decide_eq_true h64]
     rfl
    ·have h64' : ¬ (s.size : Int) ≤ 64 := by omega
     go_wp2_with fail
     go_ret
     refine ⟨?_, rfl⟩
     rw [E.out, decide_eq_true hl1, hl2, decide_eq_false h64]
     rfl
set_option maxHeartbeats 1000000 in
theorem ncheck_any {A : Option Addr} {c : Nat} {ls : List (List UInt8)} (h : Txs w (.slice A ls.length c) ls) (hl : ∀ y ∈ ls, y.length ≤ 9223372036854775807) :
  Calls Tryz.prog 197 #[.slice A ls.length c] w (fun e w' => e = .returned (.int .i64 (wrongN ls)) ∧ w' = w) := by
 obtain ⟨A', c', hv, hA⟩ := h.open_
 obtain ⟨rfl, rfl⟩ : A' = A ∧ c' = c := by injection hv with e1 _ e2; exact ⟨e1.symm, e2.symm⟩
 clear hv h
 go_enter Tryz.func197, Tryz.ntmps197
 by_cases h16 : 16 < ls.length
 ·have h16' : (16 : Int) < ls.length := by omega
  have E := hide (wrongN_long h16)
  go_wp2_with fail
  go_ret
  exact ⟨by rw [E.out]; rfl, rfl⟩
 ·have h16' : ¬ (16 : Int) < ls.length := by omega
  have Hl := hide hl
  clear hl
  go_wp2_with fail
  go_loop [10] (fun i => ∃ k : Nat, k ≤ ls.length ∧ i = .int .i64 k ∧ Hid (∀ x ∈ ls.take k, rightL x = true)) (fun i => ls.length - (intOf i).toNat)
  case atStart => exact ⟨0, Nat.zero_le _, rfl, hide (by simp)⟩
  case round =>
   obtain ⟨k, hk, rfl, H⟩ := hrel
   by_cases hlt : k < ls.length
   ·obtain ⟨ad, rfl, had, hc⟩ := hA k hlt
    have HR := hide (nright_any (bs ls[k]) (Hl.out _ (List.getElem_mem hlt)) w)
    rw [bs_data] at HR
    have hmem := List.getElem_mem hlt
    cases hr : rightL ls[k] with
    | false =>
     rw [hr] at HR
     have E := hide (wrongN_no (l := ls) (by omega) hmem hr)
     clear hmem hr
     go_wp2_with (go_at_call 218; refine HR.out.mono ?_; rintro e w1 ⟨rfl, rfl⟩)
     go_ret
     exact ⟨by rw [E.out]; rfl, rfl⟩
    | true =>
     rw [hr] at HR
     have H2 := hide (show ∀ x ∈ ls.take (k + 1), rightL x = true from by
      intro x hx
      rw [List.take_succ_eq_append_getElem hlt] at hx
      rcases List.mem_append.1 hx with hx | hx
      ·exact H.out x hx
      ·simp only [List.mem_singleton] at hx
       subst hx
       exact hr)
     clear hmem hr H
     go_wp2_with (go_at_call 218; refine HR.out.mono ?_; rintro e w1 ⟨rfl, rfl⟩)
     go_round
     case rel => exact ⟨k + 1, hlt, by go_num, H2⟩
     case measure => simp [intOf]; omega
   ·have E := hide (wrongN_yes (l := ls) (by omega) (fun x hx => H.out x (by rw [List.take_of_length_le (by omega)]; exact hx)))
    clear H hA
    go_wp2_with fail
    go_ret
    exact ⟨by rw [E.out]; rfl, rfl⟩
theorem splitB_txs (s : ByteArray) (w : World) : ((Lib.splitB ⟨#[44]⟩ 0 (Lib.countB s ⟨#[44]⟩) s).map Value.string) = ((splitC s.data.toList).map bs).map Value.string := by
 rw [← splitB_comma, List.map_map, List.map_map]
 congr 1
theorem splitB_len (s : ByteArray) : Lib.countB s ⟨#[44]⟩ + 1 = (splitC s.data.toList).length := by
 rw [← splitB_comma, List.length_map, Lib.splitB_all ⟨#[44]⟩ (by decide) 0 _ s rfl]
theorem splitC_lens (s : List UInt8) : ∀ x ∈ splitC s, x.length ≤ s.length := by
 induction s with
 | nil => simp [splitC]
 | cons c r ih =>
  intro x hx
  unfold splitC at hx
  split at hx
  ·rcases List.mem_cons.1 hx with rfl | hx
   ·simp
   ·have := ih x hx
    simp
    omega
  ·rcases List.mem_cons.1 hx with rfl | hx
   ·have hne := splitC_ne r
    cases hs : splitC r with
    | nil => exact absurd hs hne
    | cons y ys =>
     have := ih y (by rw [hs]; simp)
     simp
     omega
   ·have := ih x (List.mem_of_mem_tail hx)
    simp
    omega
set_option maxHeartbeats 1000000 in
theorem nsplit_any (s : ByteArray) (hM : MaxL w) (hs : s.size < 4294967281) :
  Calls Tryz.prog 145 #[.string s] w (fun e w' => ∃ v, e = .returned (.tuple #[v, .int .i64 (splitN s.data.toList).1]) ∧ NewC w.heap.size w' v (splitN s.data.toList).2 ∧ Below w.heap.size w w') := by
 obtain ⟨m, hm⟩ := hM
 by_cases h0 : s = ⟨#[]⟩
 ·subst h0
  go_enter Tryz.func145, Tryz.ntmps145
  go_wp2_with fail
  go_ret2
  exact ⟨_, rfl, newC_nil _ _ _, by exact bel_by⟩
 ·have hne := bytes_ne h0
  have hne2 := bytes_some h0
  have hnl : s.data.toList ≠ [] := fun e => h0 (toList_inj e)
  have HS := hide (Tryz.strings_Split s ⟨#[44]⟩ m w hs hm (by decide))
  rw [splitB_txs s w, splitB_len s] at HS
  have hT : Strs w.heap.size (w.alloc (.cells (((splitC s.data.toList).map bs).map Value.string).toArray 9)) (.slice (some ⟨w.heap.size, 0, none⟩) (splitC s.data.toList).length (splitC s.data.toList).length) ((splitC s.data.toList).map bs) := by
   have h9 := strs_new w 9 ((splitC s.data.toList).map bs) _ rfl
   rw [List.length_map] at h9
   exact h9
  have hbl := bel_newN (w := w) (.cells (((splitC s.data.toList).map bs).map Value.string).toArray 9)
  have hls := splitC_lens s.data.toList
  have hsp : splitN s.data.toList = if wrongN (splitC s.data.toList) = 0 then (0, splitC s.data.toList) else (wrongN (splitC s.data.toList), []) := by
   unfold splitN
   rw [if_neg hnl]
  have hsz : s.data.toList.length = s.size := rfl
  have Hsp := hide hsp
  generalize splitC s.data.toList = ls at HS hT hbl hls Hsp
  generalize w.alloc (.cells ((ls.map bs).map Value.string).toArray 9) = w1 at HS hT hbl
  have HK := hide (ncheck_any (w := w1) (c := ls.length) (Strs.mono hT (Nat.zero_le _)) (fun y hy => by have := hls y hy; omega))
  have HT := hide hT
  clear hT hls hsp hnl hsz
  go_enter Tryz.func145, Tryz.ntmps145
  go_wp2_with (go_at_call 196; refine HS.out.mono ?_; rintro e w2 ⟨rfl, rfl⟩)
  refine HK.out.mono ?_
  rintro e w3 ⟨rfl, rfl⟩
  rcases wrong_cases ls with h9 | h9 | h9
  ·rw [h9] at Hsp ⊢
   go_wp2_with fail
   go_ret2
   rw [Hsp.out]
   exact ⟨_, rfl, newC_of HT.out (Nat.le_refl _), hbl⟩
  ·rw [h9] at Hsp ⊢
   go_wp2_with fail
   go_ret2
   rw [Hsp.out]
   exact ⟨_, rfl, newC_nil _ _ _, hbl⟩
  ·rw [h9] at Hsp ⊢
   go_wp2_with fail
   go_ret2
   rw [Hsp.out]
   exact ⟨_, rfl, newC_nil _ _ _, hbl⟩
def joinN (ls : List (List UInt8)) : List UInt8 := if wrongN ls = 0 then joinC ls else []
set_option maxHeartbeats 1000000 in
theorem njoin_any {A : Option Addr} {c : Nat} {ls : List (List UInt8)} (h : Txs w (.slice A ls.length c) ls) (hc : ls.length ≤ c) (hl : ∀ y ∈ ls, y.length ≤ 9223372036854775807) :
  Calls Tryz.prog 156 #[.slice A ls.length c] w (fun e w' => e = .returned (.tuple #[.string (bs (joinN ls)), .int .i64 (wrongN ls)]) ∧ Below w.heap.size w w') := by
 have HK := hide (ncheck_any h hl)
 rcases wrong_cases ls with h9 | h9 | h9
 ·have hj : joinN ls = joinC ls := by unfold joinN; rw [if_pos h9]
  obtain ⟨w1, w2⟩ := wrong_ok h9
  have hjl := joinC_len (l := ls) (fun y hy => (right_len (w2 y hy)).2)
  have hj2 : Lib.join ((ls.map bs).map (·.data.toList)) (⟨#[44]⟩ : ByteArray).data.toList = joinC ls := by
   rw [List.map_map, ← join_comma]
   congr 1
   conv => rhs; rw [← List.map_id ls]
   rfl
  have HJ : Hid (Calls Tryz.prog 200 #[.slice A ls.length c, .string ⟨#[44]⟩] w (fun e w' => e = .returned (.string (bs (joinC ls))) ∧ Below w.heap.size w w')) := by
   by_cases hn : ls = []
   ·subst hn
    refine hide ((Tryz.strings_Join_none A c ⟨#[44]⟩ w).mono ?_)
    rintro e w' ⟨rfl, rfl⟩
    exact ⟨rfl, Below.refl _ _⟩
   ·obtain ⟨A', c', hv, hA⟩ := h.open_
    obtain ⟨rfl, rfl⟩ : A' = A ∧ c' = c := by injection hv with e1 _ e2; exact ⟨e1.symm, e2.symm⟩
    have hpos : 0 < ls.length := List.length_pos_iff.2 hn
    obtain ⟨ad, rfl, had, hc0⟩ := hA 0 hpos
    have hsp := World.cell?_spot hc0
    obtain ⟨bk, o, sp⟩ := ad
    have hsp2 : sp = none := by simpa [Addr.add] using hsp
    subst hsp2
    have := Tryz.strings_Join bk o c' (ls.map bs) ⟨#[44]⟩ w (fun j x hx => by
     rw [List.getElem?_map, Option.map_eq_some_iff] at hx
     obtain ⟨y, hy, rfl⟩ := hx
     obtain ⟨hj9, rfl⟩ := List.getElem?_eq_some_iff.1 hy
     obtain ⟨ad2, e2, _, hc2⟩ := hA j hj9
     injection e2 with e2
     rw [← e2] at hc2
     rw [← hc2]
     congr 1
     unfold Addr.add
     split
     ·rename_i hz; subst hz; rfl
     ·rfl) had (by rw [List.length_map]; omega) (by rw [List.length_map]; exact hc) (by rw [hj2]; omega)
    rw [hj2, List.length_map] at this
    exact hide this
  rw [h9] at HK ⊢
  rw [hj]
  clear h hj2 w2 hl
  go_enter Tryz.func156, Tryz.ntmps156
  go_wp2_with (go_at_call 197; refine HK.out.mono ?_; rintro e w1 ⟨rfl, rfl⟩)
  refine HJ.out.mono ?_
  rintro e w2 ⟨rfl, hb2⟩
  go_wp2_with fail
  go_ret2
  exact ⟨rfl, hb2⟩
 ·have hj : joinN ls = [] := by unfold joinN; rw [if_neg (by omega)]
  rw [h9] at HK ⊢
  rw [hj]
  clear h hl
  go_enter Tryz.func156, Tryz.ntmps156
  go_wp2_with (go_at_call 197; refine HK.out.mono ?_; rintro e w1 ⟨rfl, rfl⟩)
  go_ret2
  exact ⟨rfl, Below.refl _ _⟩
 ·have hj : joinN ls = [] := by unfold joinN; rw [if_neg (by omega)]
  rw [h9] at HK ⊢
  rw [hj]
  clear h hl
  go_enter Tryz.func156, Tryz.ntmps156
  go_wp2_with (go_at_call 197; refine HK.out.mono ?_; rintro e w1 ⟨rfl, rfl⟩)
  go_ret2
  exact ⟨rfl, Below.refl _ _⟩
end
end Go.Proofs.YtmgfcjpifkoahaaGreatDoor
