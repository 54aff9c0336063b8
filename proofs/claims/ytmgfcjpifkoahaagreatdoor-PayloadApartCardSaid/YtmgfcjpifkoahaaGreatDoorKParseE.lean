/-
  Several of my texts in one: ParseB, RefE.
-/
import Derived.Test.YtmgfcjpifkoahaaGreatDoorKParseA
import Derived.Test.YtmgfcjpifkoahaaGreatDoorKMakeA
set_option linter.unusedVariables false
set_option linter.unusedSimpArgs false
/-
  The contract of the reference's Parse, at any place of any text. Conditions: texts of moderate length.
-/
namespace Go.Proofs.YtmgfcjpifkoahaaGreatDoor
open Go.RowKit Go.ChangeShapes Go.WideShapes Go.Sort

set_option maxHeartbeats 1000000 in
set_option maxRecDepth 100000 in
theorem parse_end (s : ByteArray) (p : Nat) (hp : p = s.size) (hs : s.size ≤ 131072) (w : World) : Calls Tryz.prog 92 #[.string s, .int .i64 p] w (Parsed s p w) := by
 have HN := hide (show NoT (s.data.toList.drop p) by
  rw [List.drop_eq_nil_of_le (by show s.size ≤ p; omega)]
  exact noT_nil)
 have hi : ¬ (p : Int) < s.size := by omega
 have hi2 : (s.size : Int) ≤ p := by omega
 clear hp
 go_enter Tryz.func92, Tryz.ntmps92
 go_wp2_with fail
 exact bodyPost_ret (v := .tuple #[.agg #[.int .i64 0, .int .i64 0, .int .i64 0, .string ⟨#[]⟩, .slice none 0 0], .int .i64 p, .bool false]) (by simp [results, Tryz.results92, go_sem]) rfl (Parsed.no HN.out (by exact bel_by))
theorem parse_any (s : ByteArray) (hs : s.size ≤ 131072) : ∀ (m p : Nat) (w : World), s.size - p ≤ m → p ≤ s.size → Calls Tryz.prog 92 #[.string s, .int .i64 p] w (Parsed s p w) := by
 intro m
 induction m with
 | zero => exact fun p w h1 h2 => parse_end s p (by omega) hs w
 | succ m ih =>
  intro p w h1 h2
  by_cases hp : p < s.size
  ·exact parse_step s hs m ih p hp h1 w
  ·exact parse_end s p (by omega) hs w
end Go.Proofs.YtmgfcjpifkoahaaGreatDoor

/-
  The contract of the reference's Exp. Conditions: terms that may be.
-/
namespace Go.Proofs.YtmgfcjpifkoahaaGreatDoor
open Go.RowKit Go.ChangeShapes Go.WideShapes Go.Sort

theorem ins_snoc (x y : Tm) : ∀ M : List Tm, ins x (M ++ [y]) = if M.any (tlt x) then ins x M ++ [y] else if tlt x y then M ++ [x, y] else M ++ [y, x]
 | [] => by
  show (if tlt x y then _ else _) = _
  rfl
 | z :: M => by
  show (if tlt x z then _ else _) = _
  have ih := ins_snoc x y M
  by_cases h : tlt x z = true
  ·rw [if_pos h, if_pos (by simp [h])]
   show _ = (if tlt x z then _ else _) ++ [y]
   rw [if_pos h]
   rfl
  ·rw [if_neg h]
   have h2 : tlt x z = false := by simpa using h
   rw [show (List.append M [y]) = M ++ [y] from rfl, ih]
   simp only [List.any_cons, h2, Bool.false_or]
   by_cases h3 : M.any (tlt x) = true
   ·rw [if_pos h3, if_pos h3]
    show _ = (if tlt x z then _ else _) ++ [y]
    rw [if_neg h]
    rfl
   ·rw [if_neg h3, if_neg h3]
    split <;> rfl
theorem ins_no {x : Tm} : ∀ {M : List Tm}, M.any (tlt x) = false → ins x M = M ++ [x]
 | [], _ => rfl
 | z :: M, h => by
  simp only [List.any_cons, Bool.or_eq_false_iff] at h
  show (if tlt x z then _ else _) = _
  rw [if_neg (by rw [h.1]; simp), ins_no h.2]
  rfl
def insTo (x : Tm) (M : List Tm) : List Tm := if M.any (tlt x) then ins x M else M
theorem insTo_snoc (x y : Tm) (M : List Tm) : insTo x (M ++ [y]) = if M.any (tlt x) then insTo x M ++ [y] else if tlt x y then insTo x M ++ [x, y] else insTo x M ++ [y] := by
 unfold insTo
 rw [List.any_append, ins_snoc]
 by_cases h : M.any (tlt x) = true
 ·simp [h]
 ·have h2 : M.any (tlt x) = false := by simpa using h
  simp only [h2, Bool.false_or]
  by_cases h3 : tlt x y = true
  ·simp [h3]
  ·simp [h3]
theorem tExp_share {t x : Tm} (ht : fine t) (hx : fine x) (kt : t.k = 5) (kx : x.k = 2) (h8 : t.l.length < 8) :
  fitsL (head 5 0 0 t.s.data.toList ((ins x t.l).map enc).length ++ ((ins x t.l).map enc).flatten) = txt (tExp (some t) (some x)) := by
 have gs := share_good ht.1 kt
 have h1 := gs.1
 simp only [hd] at h1
 have hkk : ∀ z ∈ ins x t.l, z.k = 2 := fun z hz => by
  rcases mem_ins.1 hz with rfl | hz
  ·exact kx
  ·exact gs.2.1 z hz
 have hgg : goods (ins x t.l) := (goods_iff _).2 fun z hz => by
  rcases mem_ins.1 hz with rfl | hz
  ·exact hx.1
  ·exact (goods_iff _).1 gs.2.2.2 z hz
 have e : ((ins x t.l).map enc).flatten = encs (ins x t.l) := by rw [encs_flat, List.flatMap]
 show _ = txt (if _ then _ else none)
 rw [if_pos ⟨kt, kx, h8⟩, e]
 show _ = enc _
 have e2 : enc (.mk 5 0 0 t.s (ins x t.l)) = head 5 0 0 t.s.data.toList ((ins x t.l).map enc).length ++ encs (ins x t.l) := by simp [enc]
 rw [e2]
 unfold fitsL
 rw [if_pos]
 rw [List.length_append, head5_len, encs_nonces hgg hkk, ins_len, size_len]
 omega
theorem tExp_kind {o p : Option Tm} (h : kindO o ≠ 5 ∨ kindO p ≠ 2) : tExp o p = none := by
 cases o with
 | none => rfl
 | some s => cases p with
  | none => rfl
  | some x =>
   show (if _ then _ else none) = none
   rw [if_neg]
   rintro ⟨h1, h2, _⟩
   rcases h with h | h
   ·exact h h1
   ·exact h h2
theorem kindO_some {o : Option Tm} {k : Nat} (h : kindO o = k) (hk : k ≠ 0) : ∃ t, o = some t ∧ t.k = k := by
 cases o with
 | none => exact absurd h.symm hk
 | some t => exact ⟨t, rfl, h⟩
theorem own_map_snoc {w : World} {B : Nat} {e : TypeId} {v : Value} {M : List Tm} {y : Tm} (h : w.ownsRow B e 1 v (M.length + 1) (((M.map enc).map bs).map Value.string ++ [.string (bs (enc y))])) : w.ownsRow B e 1 v (M ++ [y]).length ((((M ++ [y]).map enc).map bs).map Value.string) := by simpa using h
theorem parse_own {t : Tm} (ht : fine t) (w : World) : Calls Tryz.prog 92 #[.string (bs (enc t)), .int .i64 0] w fun e w' => Below w.heap.size w w' ∧ ∃ (A : Option Addr) (c : Nat), TxL w.heap.size w' (.slice A t.l.length c) (t.l.map enc) ∧
  e = .returned (.tuple #[.agg #[.int .i64 t.k, .int .i64 t.a, .int .i64 t.b, .string t.s, .slice A t.l.length c], .int .i64 ((enc t).length : Nat), .bool true]) := by
 refine (parse_any (bs (enc t)) (by rw [bs_size]; exact ht.2) _ 0 w (Nat.le_refl _) (Nat.zero_le _)).mono ?_
 rintro e w' ⟨hb, h⟩
 refine ⟨hb, ?_⟩
 rw [List.drop_zero, bs_data] at h
 rcases h with ⟨hn, _⟩ | ⟨u, q, A, n, c, hg, _, hq, he, hT, rfl⟩
 ·exact absurd (by simp) (hn t [] ht.1)
 ·obtain ⟨rfl, hd⟩ := enc_inj t u [] _ ht.1 hg (by rw [List.append_nil]; exact he)
  have hq2 : q = (enc t).length := by
   have h9 := congrArg List.length hd
   rw [List.length_drop] at h9
   rw [bs_size] at hq
   simp only [List.length_nil] at h9
   omega
  subst hq2
  obtain ⟨A', c', e', hc⟩ := hT.txs.open_
  injection e' with e1 e2 e3
  subst e1 e2
  rw [List.length_map] at hT ⊢
  exact ⟨A, c, hT, rfl⟩
set_option maxHeartbeats 2000000 in
set_option maxRecDepth 100000 in
theorem rExp_any {o p : Option Tm} (ho : fineO o) (hp : fineO p) (w : World) : Calls Tryz.prog 84 #[.string (bs (txt o)), .string (bs (txt p))] w (Says (txt (tExp o p)) w) := by
 have HK1 := hide (fun W => rKind_any ho W)
 have HK2 := hide (fun W => rKind_any hp W)
 by_cases h5 : kindO o = 5
 ·by_cases h2 : kindO p = 2
  ·obtain ⟨t, rfl, kt⟩ := kindO_some h5 (by omega)
   obtain ⟨x, rfl, kx⟩ := kindO_some h2 (by omega)
   have ft := ho t rfl
   have fx := hp x rfl
   have HK1' : Hid (∀ W, Calls Tryz.prog 36 #[.string (bs (enc t))] W fun e w' => e = .returned (.int .i64 5) ∧ W = w') := fun W => by
    have h9 := rKind_any ho W
    rw [h5] at h9
    exact h9
   have HK2' : Hid (∀ W, Calls Tryz.prog 36 #[.string (bs (enc x))] W fun e w' => e = .returned (.int .i64 2) ∧ W = w') := fun W => by
    have h9 := rKind_any hp W
    rw [h2] at h9
    exact h9
   have HP := hide (fun W => parse_own ft W)
   change Calls Tryz.prog 84 #[.string (bs (enc t)), .string (bs (enc x))] w _
   have hne : enc t ≠ enc x := fun he => by
    have := enc_eq ft.1 fx.1 he
    rw [this] at kt
    omega
   clear HK1 HK2 h5 h2
   by_cases h8 : t.l.length < 8
   ·have h8i : ¬ (8 : Int) ≤ t.l.length := by omega
    have Hft := hide ft
    have Hfx := hide fx
    have Hkt := hide kt
    have Hkx := hide kx
    have Hne := hide hne
    clear ft fx kt kx hne ho hp
    go_enter Tryz.func84, Tryz.ntmps84
    go_wp2_with (first
     | (go_at_call 36; (with_reducible refine (HK1'.out _).mono ?_); rintro e w1 ⟨rfl, rfl⟩)
     | (go_at_call 36; (with_reducible refine (HK2'.out _).mono ?_); rintro e w1 ⟨rfl, rfl⟩)
     | (go_at_call 92; refine (HP.out _).mono ?_; rintro e w1 ⟨hb1, A, c, hT, rfl⟩))
    have hbw1 : Below w.heap.size w (w1.alloc (.cells #[.int .i64 t.k, .int .i64 t.a, .int .i64 t.b, .string t.s, .slice A t.l.length c] 92)) := by exact bel_by
    have hN := Blk.new w1 92 #[.int .i64 t.k, .int .i64 t.a, .int .i64 t.b, .string t.s, .slice A t.l.length c]
    have hT0 := hT.txs.below ((Below.refl _ _).alloc (Nat.le_refl _) (.cells #[.int .i64 t.k, .int .i64 t.a, .int .i64 t.b, .string t.s, .slice A t.l.length c] 92))
    generalize w1.heap.size = nb at hN ⊢
    generalize w1.alloc (.cells #[.int .i64 t.k, .int .i64 t.a, .int .i64 t.b, .string t.s, .slice A t.l.length c] 92) = W0 at hN hT0 hbw1 ⊢
    clear hb1 hT HP HK1' HK2'
    obtain ⟨iI, hiI, hI0, hI1, hI2⟩ := info_parts infoStr
    obtain ⟨A', c', e', hc'⟩ := hT0.open_
    injection e' with e1 e2 e3
    subst e1
    have HC := hide hc'
    clear hT0 hc' e2 e3
    go_loopw [10, 8, 9] (fun vi vl vd wr => ∃ (j : Nat) (M : List Tm) (db : Bool) (A2 : Option Addr) (c2 : Nat), vi = .int .i64 j ∧ j ≤ t.l.length ∧ vl = .slice A2 M.length c2 ∧ vd = .bool db ∧ M.length ≤ j + 1 ∧ Hid (M = insTo x (t.l.take j) ∧ db = (t.l.take j).any (tlt x)) ∧ Below W0.heap.size W0 wr ∧ wr.ownsRow W0.heap.size 9 1 (.slice A2 M.length c2) M.length (((M.map enc).map bs).map Value.string)) (fun vi _ _ _ => t.l.length - (intOf vi).toNat)
    case atStart => exact ⟨0, [], false, none, 0, rfl, Nat.zero_le _, rfl, rfl, Nat.zero_le _, hide ⟨rfl, rfl⟩, Below.refl _ _, World.ownsRow_nil _ _ _ _⟩
    case round =>
     obtain ⟨j, M, db, A2, c2, rfl, hj, rfl, rfl, hMl, HM, hbr, hown⟩ := hrel
     have hNr := hN.below hbr hN.lt
     have n4 : wr.cell? ⟨nb, 4, none⟩ = some (.slice A t.l.length c) := hNr.cell 4
     have n3 : wr.cell? ⟨nb, 3, none⟩ = some (.string (bs t.s.data.toList)) := hNr.cell 3
     have hbs := hbr.size
     by_cases hlt : j < t.l.length
     ·have hji : (j : Int) < t.l.length := by omega
      obtain ⟨ad, rfl, hab, hcc⟩ := HC.out j (by simpa using hlt)
      have hc0 := cellAdd hbr hab hcc
      simp only [List.getElem_map] at hc0
      have hsn := insTo_snoc x t.l[j] (t.l.take j)
      rw [← List.take_succ_eq_append_getElem hlt] at hsn
      have han : (t.l.take (j + 1)).any (tlt x) = ((t.l.take j).any (tlt x) || tlt x t.l[j]) := by rw [List.take_succ_eq_append_getElem hlt, List.any_append]; simp
      obtain ⟨hM1, hM2⟩ := HM.out
      have hless := less_nonce Hfx.out.1 ((goods_iff _).1 (share_good Hft.out.1 Hkt.out).2.2.2 _ (List.getElem_mem hlt)) Hkx.out ((share_good Hft.out.1 Hkt.out).2.1 _ (List.getElem_mem hlt))
      have hcc' : W0.cell? (ad.add j) = some (.string (bs (enc t.l[j]))) := by simpa using hcc
      clear hcc
      cases db with
      | true =>
       have HM' := hide (show M ++ [t.l[j]] = insTo x (t.l.take (j + 1)) ∧ true = (t.l.take (j + 1)).any (tlt x) by
        rw [hsn, han, ← hM2, ← hM1]
        simp)
       clear hsn han hM1 hM2 hless HM hcc'
       have hlo := fun i hi => (hown.lt i hi).1
       go_wp2_with (at_builtin; refine wpList_append_any _ rfl (.tmp 51) (.tmp 57) _ rfl W0.heap.size 9 iI (.string ⟨#[]⟩) 1 16 Tryz.underlying35 hiI hI0 hI1 hI2 rfl (by decide) _ _ _ rfl (hown.alloc _) _ (some ⟨_, 0, none⟩) 1 1 [.string (bs (enc t.l[j]))] rfl (reads_blk (Blk.new _ _ _) rfl) (by simp [Value.oneCell']) (by unfold maxLen; omega) (by omega) (by simp; omega) ?_; intro v7 w7 hown7 hgr7 _)
       have hb7 : Below W0.heap.size W0 w7 := (hbr.alloc hbr.size _).grown hgr7 (by simp; omega) hlo
       obtain ⟨A7, c7, rfl⟩ := own_sl hown7
       have hown8 := hide (own_map_snoc hown7)
       clear hown7 hgr7
       go_wp2
       exact ⟨⟨j + 1, M ++ [t.l[j]], true, A7, c7, by go_num, hlt, by simp, rfl, by simp; omega, HM', hb7, by simpa using hown8.out⟩, by simp [intOf]; omega⟩
      | false =>
       have hlo := fun i hi => (hown.lt i hi).1
       cases hlv : tlt x t.l[j] with
       | true =>
        have HM' := hide (show M ++ [x] ++ [t.l[j]] = insTo x (t.l.take (j + 1)) ∧ true = (t.l.take (j + 1)).any (tlt x) by
         rw [hsn, han, ← hM2, ← hM1, hlv]
         simp)
        have hMj : M.length ≤ j := by
         rw [hM1]
         unfold insTo
         rw [if_neg (by rw [← hM2]; simp)]
         simp
         omega
        rw [hlv, ← bs_toList (enc x), ← bs_toList (enc t.l[j])] at hless
        clear hsn han hM1 hM2 hlv HM
        generalize t.l[j] = y at hc0 hless HM' hcc'
        go_wp2_with (first
         | (at_builtin; refine wpList_append_any _ rfl (.tmp 47) (.tmp 49) _ rfl W0.heap.size 9 iI (.string ⟨#[]⟩) 1 16 Tryz.underlying35 hiI hI0 hI1 hI2 rfl (by decide) _ _ _ rfl (hown.alloc _) _ (some ⟨_, 0, none⟩) 1 1 [.string (bs (enc x))] rfl (reads_blk (Blk.new _ _ _) rfl) (by simp [Value.oneCell']) (by unfold maxLen; omega) (by omega) (by simp; omega) ?_; intro v6 w6 hown6 hgr6 _; have hb6 : Below W0.heap.size W0 w6 := (hbr.alloc hbr.size _).grown hgr6 (by simp; omega) hlo; have hs6 := hb6.size; obtain ⟨A6, c6, rfl⟩ := own_sl hown6; have hlo6 := fun i hi => (hown6.lt i hi).1; have hN6 := hN.below hb6 hN.lt; have m4 : w6.cell? ⟨nb, 4, none⟩ = some (.slice (some ad) t.l.length c) := hN6.cell 4; have hc6 := cellAdd hb6 hab hcc'; have hown9 : w6.ownsRow W0.heap.size 9 1 (.slice A6 (M.length + 1) c6) (M.length + 1) ((((M ++ [x]).map enc).map bs).map Value.string) := (by simpa using hown6); clear hown6 hgr6)
         | (at_builtin; refine wpList_append_any _ rfl (.tmp 51) (.tmp 57) _ rfl W0.heap.size 9 iI (.string ⟨#[]⟩) 1 16 Tryz.underlying35 hiI hI0 hI1 hI2 rfl (by decide) _ _ _ rfl (hown9.alloc _) _ (some ⟨_, 0, none⟩) 1 1 [.string (bs (enc y))] rfl (reads_blk (Blk.new _ _ _) rfl) (by simp [Value.oneCell']) (by unfold maxLen; omega) (by omega) (by simp; omega) ?_; intro v7 w7 hown7 hgr7 _))
        have hb7 : Below W0.heap.size W0 w7 := (hb6.alloc hb6.size _).grown hgr7 (by simp; omega) hlo6
        obtain ⟨A7, c7, rfl⟩ := own_sl hown7
        have hown8 := hide (show w7.ownsRow W0.heap.size 9 1 (.slice A7 (M.length + 1 + 1) c7) (M.length + 1 + 1) ((((M ++ [x] ++ [y]).map enc).map bs).map Value.string) from by simpa using hown7)
        clear hown7 hgr7
        go_wp2
        exact ⟨⟨j + 1, M ++ [x] ++ [y], true, A7, c7, by go_num, hlt, by simp, rfl, by simp; omega, HM', hb7, by simpa using hown8.out⟩, by simp [intOf]; omega⟩
       | false =>
        have HM' := hide (show M ++ [t.l[j]] = insTo x (t.l.take (j + 1)) ∧ false = (t.l.take (j + 1)).any (tlt x) by
         rw [hsn, han, ← hM2, ← hM1, hlv]
         simp)
        rw [hlv, ← bs_toList (enc x), ← bs_toList (enc t.l[j])] at hless
        clear hsn han hM1 hM2 hlv HM hcc'
        go_wp2_with (at_builtin; refine wpList_append_any _ rfl (.tmp 51) (.tmp 57) _ rfl W0.heap.size 9 iI (.string ⟨#[]⟩) 1 16 Tryz.underlying35 hiI hI0 hI1 hI2 rfl (by decide) _ _ _ rfl (hown.alloc _) _ (some ⟨_, 0, none⟩) 1 1 [.string (bs (enc t.l[j]))] rfl (reads_blk (Blk.new _ _ _) rfl) (by simp [Value.oneCell']) (by unfold maxLen; omega) (by omega) (by simp; omega) ?_; intro v7 w7 hown7 hgr7 _)
        have hb7 : Below W0.heap.size W0 w7 := (hbr.alloc hbr.size _).grown hgr7 (by simp; omega) hlo
        obtain ⟨A7, c7, rfl⟩ := own_sl hown7
        have hown8 := hide (own_map_snoc hown7)
        clear hown7 hgr7
        go_wp2
        exact ⟨⟨j + 1, M ++ [t.l[j]], false, A7, c7, by go_num, hlt, by simp, rfl, by simp; omega, HM', hb7, by simpa using hown8.out⟩, by simp [intOf]; omega⟩
     ·have hji : ¬ (j : Int) < t.l.length := by omega
      obtain rfl : j = t.l.length := by omega
      obtain ⟨hM1, hM2⟩ := HM.out
      rw [List.take_length] at hM1 hM2
      have hlo := fun i hi => (hown.lt i hi).1
      have hle : t.l.length ≤ 8 := by omega
      have HSh := hide (fun (W : World) (v : Value) (hS : Txs W v ((ins x t.l).map enc)) => rShare_any t.s.data.toList hS (by
       have h1 := (share_good Hft.out.1 Hkt.out).1
       simp only [hd] at h1
       rw [size_len]
       omega) (by rw [List.length_map, ins_len]; omega) (by
       have h1 := share_good Hft.out.1 Hkt.out
       have e : ((ins x t.l).map enc).flatten = encs (ins x t.l) := by rw [encs_flat, List.flatMap]
       rw [e, encs_nonces ((goods_iff _).2 fun z hz => ?_) (fun z hz => ?_), ins_len]
       ·omega
       ·rcases mem_ins.1 hz with rfl | hz
        ·exact Hfx.out.1
        ·exact (goods_iff _).1 h1.2.2.2 z hz
       ·rcases mem_ins.1 hz with rfl | hz
        ·exact Hkx.out
        ·exact h1.2.1 z hz))
      have heq9 := tExp_share Hft.out Hfx.out Hkt.out Hkx.out h8
      rw [List.length_map] at heq9
      have Heq := hide heq9
      clear heq9
      cases db with
      | true =>
       have hT9 : Txs wr (.slice A2 M.length c2) ((ins x t.l).map enc) := by
        have hM3 : M = ins x t.l := by
         rw [hM1]
         unfold insTo
         rw [if_pos hM2.symm]
        rw [← hM3]
        exact own_txs hown (by simp)
       have hS9 := hide (HSh.out wr _ hT9)
       clear hM1 hM2 HM hT9 HSh hlo
       go_wp2_with (go_at_call 134; refine hS9.out.mono ?_; rintro e w9 ⟨rfl, hb9⟩)
       go_ret
       exact ⟨ret_bsb Heq.out, by exact bel_by⟩
      | false =>
       have hM3 : M ++ [x] = ins x t.l := by
        have hn9 : t.l.any (tlt x) = false := hM2.symm
        rw [ins_no hn9, hM1]
        unfold insTo
        rw [hn9]
        simp
       have HM3 := hide hM3
       clear hM1 hM2 HM hM3
       go_wp2_with (at_builtin; refine wpList_append_any _ rfl (.tmp 61) (.tmp 63) _ rfl W0.heap.size 9 iI (.string ⟨#[]⟩) 1 16 Tryz.underlying35 hiI hI0 hI1 hI2 rfl (by decide) _ _ _ rfl (hown.alloc _) _ (some ⟨_, 0, none⟩) 1 1 [.string (bs (enc x))] rfl (reads_blk (Blk.new _ _ _) rfl) (by simp [Value.oneCell']) (by unfold maxLen; omega) (by omega) (by simp; omega) ?_; intro v6 w6 hown6 hgr6 _; have hb6 : Below W0.heap.size W0 w6 := (hbr.alloc hbr.size _).grown hgr6 (by simp; omega) hlo; obtain ⟨A6, c6, rfl⟩ := own_sl hown6; have hN6 := hN.below hb6 hN.lt; have m3 : w6.cell? ⟨nb, 3, none⟩ = some (.string (bs t.s.data.toList)) := hN6.cell 3)
       have hT9 : Txs w6 (.slice A6 (M.length + 1) c6) ((ins x t.l).map enc) := by
        rw [← HM3.out]
        exact own_txs (by simpa using hown6) (by simp)
       have hS9 := hide (HSh.out w6 _ hT9)
       clear hT9 HSh hlo hown6 hgr6
       go_wp2_with (go_at_call 134; refine hS9.out.mono ?_; rintro e w9 ⟨rfl, hb9⟩)
       go_ret
       exact ⟨ret_bsb Heq.out, by exact bel_by⟩
   ·have h8i : (8 : Int) ≤ t.l.length := by omega
    have Ho := hide (show txt (tExp (some t) (some x)) = [] by
     show txt (if _ then _ else none) = _
     rw [if_neg (fun h => h8 h.2.2)]
     rfl)
    rw [Ho.out]
    go_enter Tryz.func84, Tryz.ntmps84
    go_wp2_with (first
     | (go_at_call 36; (with_reducible refine (HK1'.out _).mono ?_); rintro e w1 ⟨rfl, rfl⟩)
     | (go_at_call 36; (with_reducible refine (HK2'.out _).mono ?_); rintro e w1 ⟨rfl, rfl⟩)
     | (go_at_call 92; refine (HP.out _).mono ?_; rintro e w1 ⟨hb1, A, c, hT, rfl⟩))
    go_ret
    exact ⟨rfl, by exact bel_by⟩
  ·have Ho := hide (show txt (tExp o p) = [] by rw [tExp_kind (.inr h2)]; rfl)
   rw [Ho.out]
   have h5i : ((kindO o : Int) != 5) = false := by rw [h5]; rfl
   have h2i : ((kindO p : Int) != 2) = true := by rw [bne_iff_ne]; omega
   have HK1' : Hid (∀ W, Calls Tryz.prog 36 #[.string (bs (txt o))] W fun e w' => e = .returned (.int .i64 5) ∧ W = w') := fun W => by
    have h9 := rKind_any ho W
    rw [h5] at h9
    exact h9
   have HK2' : Hid (∀ W, Calls Tryz.prog 36 #[.string (bs (txt p))] W fun e w' => e = .returned (.int .i64 (kindO p)) ∧ W = w') := fun W => rKind_any hp W
   clear HK1 HK2 h5 h2
   go_enter Tryz.func84, Tryz.ntmps84
   go_wp2_with (first
    | (go_at_call 36; (with_reducible refine (HK1'.out _).mono ?_); rintro e w1 ⟨rfl, rfl⟩)
    | (go_at_call 36; (with_reducible refine (HK2'.out _).mono ?_); rintro e w1 ⟨rfl, rfl⟩))
   go_ret
   exact ⟨rfl, by exact bel_by⟩
 ·have Ho := hide (show txt (tExp o p) = [] by rw [tExp_kind (.inl h5)]; rfl)
  rw [Ho.out]
  have h5i : ((kindO o : Int) != 5) = true := by rw [bne_iff_ne]; omega
  clear h5
  go_enter Tryz.func84, Tryz.ntmps84
  go_wp2_with (go_at_call 36; refine (HK1.out _).mono ?_; rintro e w1 ⟨rfl, rfl⟩)
  go_ret
  exact ⟨rfl, by exact bel_by⟩
end Go.Proofs.YtmgfcjpifkoahaaGreatDoor
