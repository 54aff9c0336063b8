/-
  Several of my texts in one: MkA, MkB, MkC.
-/
import Derived.Test.YtmgfcjpifkoahaaGreatDoorKParseE
import Derived.Test.YtmgfcjpifkoahaaGreatDoorKMakeA
import Derived.Test.YtmgfcjpifkoahaaGreatDoorKRefA
set_option linter.unusedVariables false
set_option linter.unusedSimpArgs false
/-
  The contracts of the law's Pick, letter and run: terms that were made, by their numbers. Conditions: numbers fit.
-/
namespace Go.Proofs.YtmgfcjpifkoahaaGreatDoor
open Go.RowKit Go.ChangeShapes Go.WideShapes Go.Sort

def Idns (T : List Tm) (ms : List (Option Tm)) (ns : List Int) : Prop := ns.length = ms.length ∧ ∀ (i : Nat) (o : Option Tm) (n : Int), ms[i]? = some o → ns[i]? = some n → Idn T o n
theorem idns_nil (T : List Tm) : Idns T [] [] := ⟨rfl, fun i o n h => by simp at h⟩
theorem Idns.pre {T T' : List Tm} {ms : List (Option Tm)} {ns : List Int} (h : Idns T ms ns) (hp : T <+: T') : Idns T' ms ns := ⟨h.1, fun i o n h1 h2 => (h.2 i o n h1 h2).pre hp⟩
theorem Idns.snoc {T : List Tm} {ms : List (Option Tm)} {ns : List Int} {o : Option Tm} {n : Int} (h : Idns T ms ns) (hn : Idn T o n) : Idns T (ms ++ [o]) (ns ++ [n]) := by
 refine ⟨by simp [h.1], fun i o' n' h1 h2 => ?_⟩
 rcases Nat.lt_or_ge i ms.length with hlt | hge
 ·rw [List.getElem?_append_left hlt] at h1
  rw [List.getElem?_append_left (by rw [h.1]; exact hlt)] at h2
  exact h.2 i o' n' h1 h2
 ·have h3 := (List.getElem?_eq_some_iff.1 h1).1
  simp only [List.length_append, List.length_cons, List.length_nil] at h3
  obtain rfl : i = ms.length := by omega
  rw [List.getElem?_append_right (Nat.le_refl _), Nat.sub_self] at h1
  rw [← h.1, List.getElem?_append_right (Nat.le_refl _), Nat.sub_self] at h2
  simp only [List.getElem?_cons_zero, Option.some.injEq] at h1 h2
  subst h1 h2
  exact hn
theorem Idns.args {T : List Tm} {ms : List (Option Tm)} {ns : List Int} (h : Idns T ms ns) : ns.map (arg T) = ms := by
 refine List.ext_getElem? fun i => ?_
 rw [List.getElem?_map]
 by_cases hi : i < ms.length
 ·have h1 := List.getElem?_eq_getElem hi
  have h2 := List.getElem?_eq_getElem (l := ns) (i := i) (by rw [h.1]; exact hi)
  rw [h1, h2]
  show some _ = _
  rw [(h.2 i _ _ h1 h2).1]
 ·rw [List.getElem?_eq_none (l := ns) (by rw [h.1]; omega), List.getElem?_eq_none (by omega)]
  rfl
structure Md (w : World) (T : List Tm) (ms : List (Option Tm)) (v1 v2 : Value) : Prop where
 ex : ∃ ns, Ids w v1 ns ∧ Idns T ms ns
 tx : Txs w v2 (ms.map txt)
theorem Md.below {w w' : World} {T : List Tm} {ms : List (Option Tm)} {v1 v2 : Value} (h : Md w T ms v1 v2) (hb : Below w.heap.size w w') : Md w' T ms v1 v2 := by
 obtain ⟨⟨ns, h1, h2⟩, h3⟩ := h
 exact ⟨⟨ns, h1.below hb, h2⟩, h3.below hb⟩
theorem Md.pre {w : World} {T T' : List Tm} {ms : List (Option Tm)} {v1 v2 : Value} (h : Md w T ms v1 v2) (hp : T <+: T') : Md w T' ms v1 v2 := by
 obtain ⟨⟨ns, h1, h2⟩, h3⟩ := h
 exact ⟨⟨ns, h1, h2.pre hp⟩, h3⟩
theorem Md.open_ {w : World} {T : List Tm} {ms : List (Option Tm)} {v1 v2 : Value} (h : Md w T ms v1 v2) : ∃ A1 c1 A2 c2, v1 = .slice A1 ms.length c1 ∧ v2 = .slice A2 ms.length c2 ∧ ∀ (k : Nat) (hk : k < ms.length), ∃ a1 a2 n, A1 = some a1 ∧ A2 = some a2 ∧ a1.block < w.heap.size ∧ a2.block < w.heap.size ∧ w.cell? (a1.add k) = some (.int .i64 n) ∧ w.cell? (a2.add k) = some (.string (bs (txt ms[k]))) ∧ Idn T ms[k] n := by
 obtain ⟨⟨ns, ⟨A1, c1, rfl, hs⟩, hi⟩, h3⟩ := h
 obtain ⟨A2, c2, rfl, hc⟩ := h3.open_
 refine ⟨A1, c1, A2, c2, by rw [hi.1], by simp, fun k hk => ?_⟩
 obtain ⟨a1, u, e1, _, hb1, hu, hc1⟩ := hs.at_ (k := k) (by rw [hi.1]; exact hk)
 obtain ⟨a2, e2, hb2, hc2⟩ := hc k (by simpa using hk)
 have hn := List.getElem?_eq_getElem (l := ns) (i := k) (by rw [hi.1]; exact hk)
 rw [List.getElem?_map, hn] at hu
 simp only [Option.map_some, Option.some.injEq] at hu
 subst hu
 exact ⟨a1, a2, _, e1, e2, hb1, hb2, hc1, by simpa using hc2, hi.2 k _ _ (List.getElem?_eq_getElem hk) hn⟩
section
variable {w : World} {T : List Tm} {ms : List (Option Tm)} {v1 v2 : Value}
def Picked (T : List Tm) (o : Option Tm) (w : World) (e : Ending) (w' : World) : Prop := ∃ n, e = .returned (.tuple #[.int .i64 n, .string (bs (txt o))]) ∧ Idn T o n ∧ Below w.heap.size w w'
set_option maxHeartbeats 1000000 in
set_option maxRecDepth 100000 in
theorem pick_any (h : Md w T ms v1 v2) (i : Int) (hm : ms.length ≤ 1000000000) : Calls Tryz.prog 69 #[.agg #[v1, v2], .int .i64 i] w (Picked T (pickO ms i) w) := by
 obtain ⟨A1, c1, A2, c2, rfl, rfl, hc⟩ := h.open_
 clear h
 by_cases h0 : 0 ≤ i
 ·obtain ⟨k, rfl⟩ := Int.eq_ofNat_of_zero_le h0
  by_cases hk : k < ms.length
  ·obtain ⟨a1, a2, n, rfl, rfl, hb1, hb2, d1, d2, hn⟩ := hc k hk
   have hpo : pickO ms (k : Int) = ms[k] := by
    unfold pickO
    rw [if_pos h0, Int.toNat_natCast, List.getElem?_eq_getElem hk]
    rfl
   rw [hpo]
   have Hn := hide hn
   have hki : (k : Int) < ms.length := by omega
   have hbx : Below w.heap.size w (w.alloc (.cells #[.slice (some a1) ms.length c1, .slice (some a2) ms.length c2] 37)) := (Below.refl _ _).alloc (Nat.le_refl _) _
   have e1 := cellAdd hbx hb1 d1
   have e2 := cellAdd hbx hb2 d2
   generalize ms[k] = o at e2 Hn
   clear hn hpo d1 d2 hbx
   go_enter Tryz.func69, Tryz.ntmps69
   go_wp2
   go_quiet (fail)
   go_wp2
   go_ret2
   exact ⟨n, rfl, Hn.out, by exact bel_by⟩
  ·have hpo : pickO ms (k : Int) = none := by
    unfold pickO
    rw [if_pos h0, Int.toNat_natCast, List.getElem?_eq_none (by omega)]
    rfl
   rw [hpo]
   have hki : ¬ (k : Int) < ms.length := by omega
   clear hpo hc
   go_enter Tryz.func69, Tryz.ntmps69
   go_wp2
   go_ret2
   exact ⟨-1, rfl, idn_none _, by exact bel_by⟩
 ·have hpo : pickO ms i = none := by
   unfold pickO
   rw [if_neg h0]
  rw [hpo]
  have h1 : i < 0 := by omega
  clear hpo hc h0
  go_enter Tryz.func69, Tryz.ntmps69
  go_wp2
  go_ret2
  exact ⟨-1, rfl, idn_none _, by exact bel_by⟩
end
theorem letter_any (s : ByteArray) (w : World) (hs : s.size ≤ 1000000000) : Calls Tryz.prog 77 #[.string s] w fun e w' => e = .returned (.int .u8 (letterO s)) ∧ Below w.heap.size w w' := by
 by_cases h : 0 < s.size
 ·have hl : letterO s = s[0].toNat := by
   have h1 := drop_cons (s := s.data.toList) (p := 0) h
   rw [List.drop_zero] at h1
   unfold letterO
   rw [h1]
   rfl
  have Hl := hide hl
  have hi : (0 : Int) < s.size := by omega
  clear hl
  go_enter Tryz.func77, Tryz.ntmps77
  go_wp2
  go_ret
  exact ⟨by rw [Hl.out]; rfl, by exact bel_by⟩
 ·have hl : letterO s = 0 := by
   have h1 : s.data.toList = [] := List.eq_nil_of_length_eq_zero (by show s.size = 0; omega)
   unfold letterO
   rw [h1]
  have Hl := hide hl
  have hi : ¬ (0 : Int) < s.size := by omega
  clear hl
  go_enter Tryz.func77, Tryz.ntmps77
  go_wp2
  go_ret
  exact ⟨by rw [Hl.out]; rfl, by exact bel_by⟩
section
variable {w : World} {T : List Tm} {ms : List (Option Tm)} {v1 v2 : Value}
theorem infoIDr : (Tryz.prog.info? 25).map (fun i => (i.zero, i.size, i.bytes)) = some (some (.int .i64 0), 1, 8) := by kernel_rfl
theorem cellBack {w w' : World} {B : Nat} {ad : Addr} {i : Nat} {u : Value} (hb : Below B w w') (h : ad.block < B) (hc : w'.cell? (ad.add i) = some u) : w.cell? (ad.add i) = some u :=
 (hb.cell (p := ad.add i) (by rw [block_of_add]; exact h)).symm.trans hc
def Ran (T : List Tm) (os : List (Option Tm)) (w : World) (e : Ending) (w' : World) : Prop := ∃ u1 u2 ns, e = .returned (.tuple #[u1, u2]) ∧ Ids w' u1 ns ∧ Idns T os ns ∧ Txs w' u2 (os.map txt) ∧ Below w.heap.size w w'
theorem run_take {ms : List (Option Tm)} {p n j : Nat} (hj : j < n) (h40 : j < 40) (hp : p + j < ms.length) : ((ms.drop p).take (j + 1)) = ((ms.drop p).take j) ++ [ms[p + j]] := by
 rw [List.take_succ_eq_append_getElem (by rw [List.length_drop]; omega), List.getElem_drop]
set_option maxHeartbeats 2000000 in
set_option maxRecDepth 100000 in
theorem run_any (h : Md w T ms v1 v2) (p n : Int) (hm : ms.length ≤ 1000000000) : Calls Tryz.prog 79 #[.agg #[v1, v2], .int .i64 p, .int .i64 n] w (Ran T (runO ms p n) w) := by
 obtain ⟨A1, c1, A2, c2, rfl, rfl, hc⟩ := h.open_
 have HC := hide hc
 clear h hc
 by_cases h0 : 0 ≤ p ∧ p ≤ ms.length
 ·obtain ⟨q, rfl⟩ := Int.eq_ofNat_of_zero_le h0.1
  have hq : q ≤ ms.length := by omega
  have hqi : ¬ (ms.length : Int) < q := by omega
  have hq0 : (0 : Int) ≤ q := by omega
  have Hro := hide (show runO ms q n = ((ms.drop q).take n.toNat).take 40 by unfold runO; rw [if_pos h0.1, Int.toNat_natCast])
  obtain ⟨W0, hW0⟩ : ∃ W0, W0 = w.alloc (.cells #[.slice A1 ms.length c1, .slice A2 ms.length c2] 37) := ⟨_, rfl⟩
  have hbW : Below w.heap.size w W0 := by rw [hW0]; exact (Below.refl _ _).alloc (Nat.le_refl _) _
  have hM : Blk W0 w.heap.size 37 #[.slice A1 ms.length c1, .slice A2 ms.length c2] := by rw [hW0]; exact Blk.new _ _ _
  have hwz := hM.lt
  obtain ⟨iI, hiI, hI0, hI1, hI2⟩ := info_parts infoIDr
  obtain ⟨iS, hiS, hS0, hS1, hS2⟩ := info_parts infoStr
  have m0 : W0.cell? ⟨w.heap.size, 0, none⟩ = some (.slice A1 ms.length c1) := hM.cell 0
  clear h0
  go_enter Tryz.func79, Tryz.ntmps79
  go_wp2
  rw [← hW0]
  clear hW0 m0
  go_loopw [10, 8, 9] (fun vj u1 u2 wr => ∃ (j : Nat) (A3 : Option Addr) (c3 : Nat) (A4 : Option Addr) (c4 : Nat) (ns : List Int), vj = .int .i64 j ∧ j ≤ 40 ∧ (j : Int) ≤ max n 0 ∧ q + j ≤ ms.length ∧ u1 = .slice A3 j c3 ∧ u2 = .slice A4 j c4 ∧ Below W0.heap.size W0 wr ∧ Hid (ns.length = j) ∧
   Hid (Idns T ((ms.drop q).take j) ns) ∧ wr.ownsRow W0.heap.size 25 1 (.slice A3 j c3) j (ns.map (Value.int .i64)) ∧ wr.ownsRow W0.heap.size 9 1 (.slice A4 j c4) j (((((ms.drop q).take j).map txt).map bs).map Value.string)) (fun vj _ _ _ => 40 - (intOf vj).toNat)
  case atStart => exact ⟨0, none, 0, none, 0, [], rfl, by omega, by omega, by omega, rfl, rfl, Below.refl _ _, hide rfl, hide (idns_nil _), World.ownsRow_nil _ _ _ _, World.ownsRow_nil _ _ _ _⟩
  case round =>
   obtain ⟨j, A3, c3, A4, c4, ns, rfl, hj40, hjn, hqj, rfl, rfl, hbr, Hnl, Hns, ho1, ho2⟩ := hrel
   have hbs := hbr.size
   have hMr := hM.below hbr hM.lt
   have m0 : wr.cell? ⟨w.heap.size, 0, none⟩ = some (.slice A1 ms.length c1) := hMr.cell 0
   have m1 : wr.cell? ⟨w.heap.size, 1, none⟩ = some (.slice A2 ms.length c2) := hMr.cell 1
   have fin : (j = 40 ∨ n ≤ j ∨ ms.length ≤ q + j) → (ms.drop q).take j = runO ms q n := fun hf => by
    rw [Hro.out]
    rcases hf with rfl | hf | hf
    ·rw [List.take_take, Nat.min_eq_left (by omega)]
    ·have e9 : n.toNat = j := by omega
     rw [e9, List.take_take, Nat.min_eq_right hj40]
    ·rw [List.take_of_length_le (by rw [List.length_drop]; omega), List.take_take, List.take_of_length_le (by rw [List.length_drop]; omega)]
   have FIN := hide fin
   clear fin
   have ret : (j = 40 ∨ n ≤ j ∨ ms.length ≤ q + j) → Ran T (runO ms q n) w (.returned (.tuple #[.slice A3 j c3, .slice A4 j c4])) wr := fun hf => by
    have e9 := FIN.out hf
    have hl9 : ((ms.drop q).take j).length = j := by rw [List.length_take, List.length_drop]; omega
    refine ⟨_, _, ns, rfl, own_ids Hnl.out.symm ho1, ?_, ?_, hbW.trans (hbr.mono (Nat.le_of_lt hwz))⟩
    ·rw [← e9]; exact Hns.out
    ·rw [← e9]; exact own_txs ho2 (by rw [List.length_map, hl9])
   have RET := hide ret
   clear ret
   by_cases hn : (j : Int) < n
   ·by_cases h40 : (j : Int) < 40
    ·by_cases hlt : q + j < ms.length
     ·have hle : ¬ (ms.length : Int) - q ≤ j := by omega
      obtain ⟨a1, a2, m, rfl, rfl, hb1, hb2, d1, d2, hidn⟩ := HC.out (q + j) hlt
      have hbw : Below w.heap.size w wr := hbW.trans (hbr.mono (Nat.le_of_lt hwz))
      have e1 := cellAdd hbw hb1 d1
      have e2 := cellAdd hbw hb2 d2
      have eqj : ((q : Int) + j).toNat = q + j := by omega
      have wqj : IntKind.i64.wrap ((q : Int) + j) = (q : Int) + j := by rw [IntKind.wrap_i64]; omega
      have bqj : (q : Int) + j < ms.length := by omega
      have pqj : (0 : Int) ≤ (q : Int) + j := by omega
      have htk := run_take (n := 1000) (p := q) (ms := ms) (j := j) (by omega) (by omega) hlt
      have Hid2 := hide hidn
      have hlo1 := fun i hi => (ho1.lt i hi).1
      have hlo2 := fun i hi => (ho2.lt i hi).1
      have Htk := hide htk
      clear d1 d2 hidn htk FIN RET
      generalize ms[q + j] = o at e2 Hid2 Htk
      go_wp2_with (first
       | (at_builtin; refine wpList_append_any _ rfl (.tmp 40) (.tmp 48) _ rfl W0.heap.size 25 iI (.int .i64 0) 1 8 Tryz.underlying34 hiI hI0 hI1 hI2 rfl (by decide) _ _ _ rfl (ho1.alloc _) _ (some ⟨_, 0, none⟩) 1 1 [.int .i64 m] rfl (reads_blk (Blk.new _ _ _) rfl) (by simp [Value.oneCell']) (by unfold maxLen; omega) (by omega) (by simp; omega) ?_; intro v6 w6 hown6 hgr6 _; have hb6 : Below W0.heap.size W0 w6 := (hbr.alloc hbr.size _).grown hgr6 (by simp; omega) hlo1; have hs6 := hb6.size; obtain ⟨A6, c6, rfl⟩ := own_sl hown6; have hM6 := hM.below hb6 hM.lt; have n1 : w6.cell? ⟨w.heap.size, 1, none⟩ = some (.slice (some a2) ms.length c2) := hM6.cell 1; have e26 := cellAdd (hbW.trans (hb6.mono (Nat.le_of_lt hwz))) hb2 (cellBack hbw hb2 e2); have ho26 := (ho2.alloc (.cells #[.int .i64 m] 25)).kept hgr6 (ne_row (own_ne ho2 ho1 (by decide))))
       | (at_builtin; refine wpList_append_any _ rfl (.tmp 50) (.tmp 58) _ rfl W0.heap.size 9 iS (.string ⟨#[]⟩) 1 16 Tryz.underlying35 hiS hS0 hS1 hS2 rfl (by decide) _ _ _ rfl (ho26.alloc _) _ (some ⟨_, 0, none⟩) 1 1 [.string (bs (txt o))] rfl (reads_blk (Blk.new _ _ _) rfl) (by simp [Value.oneCell']) (by unfold maxLen; omega) (by omega) (by simp; omega) ?_; intro v7 w7 hown7 hgr7 _))
      have hb7 : Below W0.heap.size W0 w7 := (hb6.alloc hb6.size _).grown hgr7 (by simp; omega) hlo2
      obtain ⟨A7, c7, rfl⟩ := own_sl hown7
      have ho17 := (hown6.alloc (.cells #[.string (bs (txt o))] 9)).kept hgr7 (ne_row (own_ne hown6 ho26 (by decide)))
      have HO1 := hide (show w7.ownsRow W0.heap.size 25 1 (.slice A6 (j + 1) c6) (j + 1) ((ns ++ [m]).map (Value.int .i64)) from by simpa using ho17)
      have HO2 := hide (show w7.ownsRow W0.heap.size 9 1 (.slice A7 (j + 1) c7) (j + 1) (((((ms.drop q).take (j + 1)).map txt).map bs).map Value.string) from by rw [Htk.out]; simpa using hown7)
      have HNs := hide (show Idns T ((ms.drop q).take (j + 1)) (ns ++ [m]) from by rw [Htk.out]; exact Hns.out.snoc Hid2.out)
      clear hown6 hown7 hgr6 hgr7 ho17 ho26
      go_wp2
      exact ⟨⟨j + 1, A6, c6, A7, c7, ns ++ [m], by go_num, by omega, by omega, by omega, rfl, rfl, hb7, hide (by rw [List.length_append, Hnl.out]; rfl), HNs, HO1.out, HO2.out⟩, by simp [intOf]; omega⟩
     ·have hle : (ms.length : Int) - q ≤ j := by omega
      have R9 := hide (RET.out (.inr (.inr (by omega))))
      go_wp2
      go_ret2
      exact R9.out
    ·have R9 := hide (RET.out (.inl (by omega)))
     go_wp2
     go_ret2
     exact R9.out
   ·have R9 := hide (RET.out (.inr (.inl (by omega))))
    go_wp2
    go_ret2
    exact R9.out
 ·have Hro := hide (show runO ms p n = [] by
   unfold runO
   split
   ·rw [List.drop_eq_nil_of_le (by omega)]
    simp
   ·rfl)
  rw [Hro.out]
  by_cases h1 : p < 0
  ·clear h0
   go_enter Tryz.func79, Tryz.ntmps79
   go_wp2
   go_ret2
   exact ⟨_, _, [], rfl, ids_nil _ _, idns_nil _, txs_nil _ _, by exact bel_by⟩
  ·have h2 : (ms.length : Int) < p := by omega
   have h3 : ¬ p < 0 := h1
   clear h0 h1
   go_enter Tryz.func79, Tryz.ntmps79
   go_wp2
   go_ret2
   exact ⟨_, _, [], rfl, ids_nil _ _, idns_nil _, txs_nil _ _, by exact bel_by⟩
end
end Go.Proofs.YtmgfcjpifkoahaaGreatDoor

/-
  The contracts of the law's id and text: a term more, in an arena, and as the document writes it down. Conditions: numbers fit.
-/
namespace Go.Proofs.YtmgfcjpifkoahaaGreatDoor
open Go.RowKit Go.ChangeShapes Go.WideShapes

theorem u32w (c : Int) : IntKind.u32.wrap c = ((c % 4294967296).toNat : Nat) := by
 rw [IntKind.wrap_u32]
 omega
theorem aSeal_at {B g : Nat} {w : World} {T : List Tm} {S : Nat → Prop} (h : Use B w g T S) (C : Int) (c : Nat) (hC : C = c) (hc : c < 4294967296) (n m : Int) :
  Calls Tryz.prog 78 #[.pointer (some ⟨g, 0, none⟩), .int .i64 n, .int .u32 C, .int .i64 m] w (Done B w g T S (tSeal c (arg T n) (arg T m))) := by
 subst hC
 exact aSeal_any h c hc n m
theorem rSeal_at (C : Int) (c : Nat) (hC : C = c) (hc : c < 4294967296) {o p : Option Tm} (ho : fineO o) (hp : fineO p) (w : World) : Calls Tryz.prog 88 #[.string (bs (txt o)), .int .u32 C, .string (bs (txt p))] w (Says (txt (tSeal c o p)) w) := by
 subst hC
 exact rSeal_any c hc ho hp w
section
variable {B g : Nat} {w : World} {T : List Tm} {S : Nat → Prop} {ms : List (Option Tm)} {v1 v2 : Value}
theorem letterO_s (s : ByteArray) : letterO s < 256 := letterO_lt s
set_option maxHeartbeats 4000000 in
set_option maxRecDepth 100000 in
theorem mid_any (h : Use B w g T S) (hm : Md w T ms v1 v2) (k a b c : Int) (s : ByteArray) (hs : s.size ≤ 1000000) (hml : ms.length ≤ 1000000) :
  Calls Tryz.prog 34 #[.agg #[v1, v2], .pointer (some ⟨g, 0, none⟩), .agg #[.int .i64 k, .int .i64 a, .int .i64 b, .int .i64 c, .string s]] w (Done B w g T S (mkO ms ⟨k, a, b, c, s⟩)) := by
 obtain ⟨A1, c1, A2, c2, rfl, rfl, _⟩ := hm.open_
 have HA := hide (fun (w2 : World) (hb : Below w.heap.size w w2) => pick_any (hm.below hb) a (by omega))
 have HB := hide (fun (w2 : World) (hb : Below w.heap.size w w2) => pick_any (hm.below hb) b (by omega))
 have HC := hide (fun (w2 : World) (hb : Below w.heap.size w w2) => pick_any (hm.below hb) c (by omega))
 have HL := hide (fun (w2 : World) => letter_any s w2 (by omega))
 have Hn := hide (fun (w2 : World) (hb : Below w.heap.size w w2) => Done.none_ h.ar hb)
 obtain ⟨o, ho⟩ : ∃ o, o = mkO ms ⟨k, a, b, c, s⟩ := ⟨_, rfl⟩
 rw [← ho]
 have Ho := hide ho
 clear ho
 by_cases hk : 1 ≤ k ∧ k ≤ 10
 ·obtain rfl | rfl | rfl | rfl | rfl | rfl | rfl | rfl | rfl | rfl : k = 1 ∨ k = 2 ∨ k = 3 ∨ k = 4 ∨ k = 5 ∨ k = 6 ∨ k = 7 ∨ k = 8 ∨ k = 9 ∨ k = 10 := by omega
  ·have HM := hide (fun (w2 : World)  (hb : Below w.heap.size w w2) => (aData_any (h.below hb) (s := s) hs).mono fun e w9 hd => hd.from_ hb)
   have Hr := hide (show o = tData s from Ho.out)
   clear h hm hk
   go_enter Tryz.func34, Tryz.ntmps34
   go_wp2_with (first
     | (go_at_call 69; (with_reducible refine (HA.out _ (by exact bel_by)).mono ?_); rintro e w1 ⟨n1, rfl, hn1, hb1⟩; obtain ⟨hc1, hf1⟩ := bcell hb1; have hz1 : w.heap.size + 1 < w1.heap.size := (by have := hb1.size; (try simp at this); omega); have hy1 : w.heap.size < w1.heap.size := (by omega))
     | (go_at_call 69; (with_reducible refine (HB.out _ (by exact bel_by)).mono ?_); rintro e w2 ⟨n2, rfl, hn2, hb2⟩; obtain ⟨hc2, hf2⟩ := bcell hb2; have hz2 : w.heap.size + 1 < w2.heap.size := (by have := hb2.size; (try simp at this); omega); have hy2 : w.heap.size < w2.heap.size := (by omega))
     | (go_at_call 69; (with_reducible refine (HC.out _ (by exact bel_by)).mono ?_); rintro e w3 ⟨n3, rfl, hn3, hb3⟩; obtain ⟨hc3, hf3⟩ := bcell hb3; have hz3 : w.heap.size + 1 < w3.heap.size := (by have := hb3.size; (try simp at this); omega); have hy3 : w.heap.size < w3.heap.size := (by omega))
     | (go_at_call 18; refine (HM.out _  (by exact bel_by)).mono ?_; rintro e w9 ⟨T', n, S', rfl, hp, hA', hG⟩))
   go_ret
   rw [Hr.out]
   exact ⟨T', _, S', rfl, hp, hA', hG⟩
  ·have HM := hide (fun (w2 : World)  (hb : Below w.heap.size w w2) => (aNonce_any (h.below hb) a b).mono fun e w9 hd => hd.from_ hb)
   have Hr := hide (show o = tNonce a b from Ho.out)
   clear h hm hk
   go_enter Tryz.func34, Tryz.ntmps34
   go_wp2_with (first
     | (go_at_call 69; (with_reducible refine (HA.out _ (by exact bel_by)).mono ?_); rintro e w1 ⟨n1, rfl, hn1, hb1⟩; obtain ⟨hc1, hf1⟩ := bcell hb1; have hz1 : w.heap.size + 1 < w1.heap.size := (by have := hb1.size; (try simp at this); omega); have hy1 : w.heap.size < w1.heap.size := (by omega))
     | (go_at_call 69; (with_reducible refine (HB.out _ (by exact bel_by)).mono ?_); rintro e w2 ⟨n2, rfl, hn2, hb2⟩; obtain ⟨hc2, hf2⟩ := bcell hb2; have hz2 : w.heap.size + 1 < w2.heap.size := (by have := hb2.size; (try simp at this); omega); have hy2 : w.heap.size < w2.heap.size := (by omega))
     | (go_at_call 69; (with_reducible refine (HC.out _ (by exact bel_by)).mono ?_); rintro e w3 ⟨n3, rfl, hn3, hb3⟩; obtain ⟨hc3, hf3⟩ := bcell hb3; have hz3 : w.heap.size + 1 < w3.heap.size := (by have := hb3.size; (try simp at this); omega); have hy3 : w.heap.size < w3.heap.size := (by omega))
     | (go_at_call 70; refine (HM.out _  (by exact bel_by)).mono ?_; rintro e w9 ⟨T', n, S', rfl, hp, hA', hG⟩))
   go_ret
   rw [Hr.out]
   exact ⟨T', _, S', rfl, hp, hA', hG⟩
  ·have HM := hide (fun (w2 : World)  (hb : Below w.heap.size w w2) => (aKey_any (h.below hb) a).mono fun e w9 hd => hd.from_ hb)
   have Hr := hide (show o = tKey a from Ho.out)
   clear h hm hk
   go_enter Tryz.func34, Tryz.ntmps34
   go_wp2_with (first
     | (go_at_call 69; (with_reducible refine (HA.out _ (by exact bel_by)).mono ?_); rintro e w1 ⟨n1, rfl, hn1, hb1⟩; obtain ⟨hc1, hf1⟩ := bcell hb1; have hz1 : w.heap.size + 1 < w1.heap.size := (by have := hb1.size; (try simp at this); omega); have hy1 : w.heap.size < w1.heap.size := (by omega))
     | (go_at_call 69; (with_reducible refine (HB.out _ (by exact bel_by)).mono ?_); rintro e w2 ⟨n2, rfl, hn2, hb2⟩; obtain ⟨hc2, hf2⟩ := bcell hb2; have hz2 : w.heap.size + 1 < w2.heap.size := (by have := hb2.size; (try simp at this); omega); have hy2 : w.heap.size < w2.heap.size := (by omega))
     | (go_at_call 69; (with_reducible refine (HC.out _ (by exact bel_by)).mono ?_); rintro e w3 ⟨n3, rfl, hn3, hb3⟩; obtain ⟨hc3, hf3⟩ := bcell hb3; have hz3 : w.heap.size + 1 < w3.heap.size := (by have := hb3.size; (try simp at this); omega); have hy3 : w.heap.size < w3.heap.size := (by omega))
     | (go_at_call 42; refine (HM.out _  (by exact bel_by)).mono ?_; rintro e w9 ⟨T', n, S', rfl, hp, hA', hG⟩))
   go_ret
   rw [Hr.out]
   exact ⟨T', _, S', rfl, hp, hA', hG⟩
  ·have HM := hide (fun (w2 : World) (n : Int) (hb : Below w.heap.size w w2) => (aPub_any (h.below hb) n).mono fun e w9 hd => hd.from_ hb)
   have Hr := hide (show o = tPub (pickO ms a) from Ho.out)
   clear h hm hk
   go_enter Tryz.func34, Tryz.ntmps34
   go_wp2_with (first
     | (go_at_call 69; (with_reducible refine (HA.out _ (by exact bel_by)).mono ?_); rintro e w1 ⟨n1, rfl, hn1, hb1⟩; obtain ⟨hc1, hf1⟩ := bcell hb1; have hz1 : w.heap.size + 1 < w1.heap.size := (by have := hb1.size; (try simp at this); omega); have hy1 : w.heap.size < w1.heap.size := (by omega))
     | (go_at_call 69; (with_reducible refine (HB.out _ (by exact bel_by)).mono ?_); rintro e w2 ⟨n2, rfl, hn2, hb2⟩; obtain ⟨hc2, hf2⟩ := bcell hb2; have hz2 : w.heap.size + 1 < w2.heap.size := (by have := hb2.size; (try simp at this); omega); have hy2 : w.heap.size < w2.heap.size := (by omega))
     | (go_at_call 69; (with_reducible refine (HC.out _ (by exact bel_by)).mono ?_); rintro e w3 ⟨n3, rfl, hn3, hb3⟩; obtain ⟨hc3, hf3⟩ := bcell hb3; have hz3 : w.heap.size + 1 < w3.heap.size := (by have := hb3.size; (try simp at this); omega); have hy3 : w.heap.size < w3.heap.size := (by omega))
     | (go_at_call 71; refine (HM.out _ n1 (by exact bel_by)).mono ?_; rintro e w9 ⟨T', n, S', rfl, hp, hA', hG⟩))
   go_ret
   rw [Hr.out, ← hn1.1]
   exact ⟨T', _, S', rfl, hp, hA', hG⟩
  ·by_cases h5 : a < 0
   ·have HM := hide (fun (w2 : World)  (hb : Below w.heap.size w w2) => (aBase_any (h.below hb) (s := s) (by omega)).mono fun e w9 hd => hd.from_ hb)
    have Hr := hide (show o = tBase s from by rw [Ho.out]; show (if a < 0 then _ else _) = _; rw [if_pos h5])
    clear h hm hk
    go_enter Tryz.func34, Tryz.ntmps34
    go_wp2_with (first
      | (go_at_call 69; (with_reducible refine (HA.out _ (by exact bel_by)).mono ?_); rintro e w1 ⟨n1, rfl, hn1, hb1⟩; obtain ⟨hc1, hf1⟩ := bcell hb1; have hz1 : w.heap.size + 1 < w1.heap.size := (by have := hb1.size; (try simp at this); omega); have hy1 : w.heap.size < w1.heap.size := (by omega))
      | (go_at_call 69; (with_reducible refine (HB.out _ (by exact bel_by)).mono ?_); rintro e w2 ⟨n2, rfl, hn2, hb2⟩; obtain ⟨hc2, hf2⟩ := bcell hb2; have hz2 : w.heap.size + 1 < w2.heap.size := (by have := hb2.size; (try simp at this); omega); have hy2 : w.heap.size < w2.heap.size := (by omega))
      | (go_at_call 69; (with_reducible refine (HC.out _ (by exact bel_by)).mono ?_); rintro e w3 ⟨n3, rfl, hn3, hb3⟩; obtain ⟨hc3, hf3⟩ := bcell hb3; have hz3 : w.heap.size + 1 < w3.heap.size := (by have := hb3.size; (try simp at this); omega); have hy3 : w.heap.size < w3.heap.size := (by omega))
      | (go_at_call 72; refine (HM.out _  (by exact bel_by)).mono ?_; rintro e w9 ⟨T', n, S', rfl, hp, hA', hG⟩))
    go_ret
    rw [Hr.out]
    exact ⟨T', _, S', rfl, hp, hA', hG⟩
   ·have HM := hide (fun (w2 : World) (n m : Int) (hb : Below w.heap.size w w2) => (aExp_any (h.below hb) n m).mono fun e w9 hd => hd.from_ hb)
    have Hr := hide (show o = tExp (pickO ms a) (pickO ms b) from by rw [Ho.out]; show (if a < 0 then _ else _) = _; rw [if_neg h5])
    clear h hm hk
    go_enter Tryz.func34, Tryz.ntmps34
    go_wp2_with (first
      | (go_at_call 69; (with_reducible refine (HA.out _ (by exact bel_by)).mono ?_); rintro e w1 ⟨n1, rfl, hn1, hb1⟩; obtain ⟨hc1, hf1⟩ := bcell hb1; have hz1 : w.heap.size + 1 < w1.heap.size := (by have := hb1.size; (try simp at this); omega); have hy1 : w.heap.size < w1.heap.size := (by omega))
      | (go_at_call 69; (with_reducible refine (HB.out _ (by exact bel_by)).mono ?_); rintro e w2 ⟨n2, rfl, hn2, hb2⟩; obtain ⟨hc2, hf2⟩ := bcell hb2; have hz2 : w.heap.size + 1 < w2.heap.size := (by have := hb2.size; (try simp at this); omega); have hy2 : w.heap.size < w2.heap.size := (by omega))
      | (go_at_call 69; (with_reducible refine (HC.out _ (by exact bel_by)).mono ?_); rintro e w3 ⟨n3, rfl, hn3, hb3⟩; obtain ⟨hc3, hf3⟩ := bcell hb3; have hz3 : w.heap.size + 1 < w3.heap.size := (by have := hb3.size; (try simp at this); omega); have hy3 : w.heap.size < w3.heap.size := (by omega))
      | (go_at_call 73; refine (HM.out _ n1 n2 (by exact bel_by)).mono ?_; rintro e w9 ⟨T', n, S', rfl, hp, hA', hG⟩))
    go_ret
    rw [Hr.out, ← hn1.1, ← hn2.1]
    exact ⟨T', _, S', rfl, hp, hA', hG⟩
  ·have HM := hide (fun (w2 : World) (n m : Int) (hb : Below w.heap.size w w2) => (aSign_any (h.below hb) (s := s) (by omega) n m).mono fun e w9 hd => hd.from_ hb)
   have Hr := hide (show o = tSign s (pickO ms a) (pickO ms b) from Ho.out)
   clear h hm hk
   go_enter Tryz.func34, Tryz.ntmps34
   go_wp2_with (first
     | (go_at_call 69; (with_reducible refine (HA.out _ (by exact bel_by)).mono ?_); rintro e w1 ⟨n1, rfl, hn1, hb1⟩; obtain ⟨hc1, hf1⟩ := bcell hb1; have hz1 : w.heap.size + 1 < w1.heap.size := (by have := hb1.size; (try simp at this); omega); have hy1 : w.heap.size < w1.heap.size := (by omega))
     | (go_at_call 69; (with_reducible refine (HB.out _ (by exact bel_by)).mono ?_); rintro e w2 ⟨n2, rfl, hn2, hb2⟩; obtain ⟨hc2, hf2⟩ := bcell hb2; have hz2 : w.heap.size + 1 < w2.heap.size := (by have := hb2.size; (try simp at this); omega); have hy2 : w.heap.size < w2.heap.size := (by omega))
     | (go_at_call 69; (with_reducible refine (HC.out _ (by exact bel_by)).mono ?_); rintro e w3 ⟨n3, rfl, hn3, hb3⟩; obtain ⟨hc3, hf3⟩ := bcell hb3; have hz3 : w.heap.size + 1 < w3.heap.size := (by have := hb3.size; (try simp at this); omega); have hy3 : w.heap.size < w3.heap.size := (by omega))
     | (go_at_call 74; refine (HM.out _ n1 n2 (by exact bel_by)).mono ?_; rintro e w9 ⟨T', n, S', rfl, hp, hA', hG⟩))
   go_ret
   rw [Hr.out, ← hn1.1, ← hn2.1]
   exact ⟨T', _, S', rfl, hp, hA', hG⟩
  ·have HM := hide (fun (w2 : World) (n : Int) (hb : Below w.heap.size w w2) => (aHash_any (h.below hb) n).mono fun e w9 hd => hd.from_ hb)
   have Hr := hide (show o = tHash (pickO ms a) from Ho.out)
   clear h hm hk
   go_enter Tryz.func34, Tryz.ntmps34
   go_wp2_with (first
     | (go_at_call 69; (with_reducible refine (HA.out _ (by exact bel_by)).mono ?_); rintro e w1 ⟨n1, rfl, hn1, hb1⟩; obtain ⟨hc1, hf1⟩ := bcell hb1; have hz1 : w.heap.size + 1 < w1.heap.size := (by have := hb1.size; (try simp at this); omega); have hy1 : w.heap.size < w1.heap.size := (by omega))
     | (go_at_call 69; (with_reducible refine (HB.out _ (by exact bel_by)).mono ?_); rintro e w2 ⟨n2, rfl, hn2, hb2⟩; obtain ⟨hc2, hf2⟩ := bcell hb2; have hz2 : w.heap.size + 1 < w2.heap.size := (by have := hb2.size; (try simp at this); omega); have hy2 : w.heap.size < w2.heap.size := (by omega))
     | (go_at_call 69; (with_reducible refine (HC.out _ (by exact bel_by)).mono ?_); rintro e w3 ⟨n3, rfl, hn3, hb3⟩; obtain ⟨hc3, hf3⟩ := bcell hb3; have hz3 : w.heap.size + 1 < w3.heap.size := (by have := hb3.size; (try simp at this); omega); have hy3 : w.heap.size < w3.heap.size := (by omega))
     | (go_at_call 75; refine (HM.out _ n1 (by exact bel_by)).mono ?_; rintro e w9 ⟨T', n, S', rfl, hp, hA', hG⟩))
   go_ret
   rw [Hr.out, ← hn1.1]
   exact ⟨T', _, S', rfl, hp, hA', hG⟩
  ·have HM := hide (fun (w2 : World) (n m q : Int) (hb : Below w.heap.size w w2) => (aDerive_any (h.below hb) (letterO s) (letterO_s s) n m q).mono fun e w9 hd => hd.from_ hb)
   have Hr := hide (show o = tDerive (letterO s) (pickO ms a) (pickO ms b) (pickO ms c) from Ho.out)
   clear h hm hk
   go_enter Tryz.func34, Tryz.ntmps34
   go_wp2_with (first
     | (go_at_call 69; (with_reducible refine (HA.out _ (by exact bel_by)).mono ?_); rintro e w1 ⟨n1, rfl, hn1, hb1⟩; obtain ⟨hc1, hf1⟩ := bcell hb1; have hz1 : w.heap.size + 1 < w1.heap.size := (by have := hb1.size; (try simp at this); omega); have hy1 : w.heap.size < w1.heap.size := (by omega))
     | (go_at_call 69; (with_reducible refine (HB.out _ (by exact bel_by)).mono ?_); rintro e w2 ⟨n2, rfl, hn2, hb2⟩; obtain ⟨hc2, hf2⟩ := bcell hb2; have hz2 : w.heap.size + 1 < w2.heap.size := (by have := hb2.size; (try simp at this); omega); have hy2 : w.heap.size < w2.heap.size := (by omega))
     | (go_at_call 69; (with_reducible refine (HC.out _ (by exact bel_by)).mono ?_); rintro e w3 ⟨n3, rfl, hn3, hb3⟩; obtain ⟨hc3, hf3⟩ := bcell hb3; have hz3 : w.heap.size + 1 < w3.heap.size := (by have := hb3.size; (try simp at this); omega); have hy3 : w.heap.size < w3.heap.size := (by omega))
     | (go_at_call 77; refine (HL.out _).mono ?_; rintro e w4 ⟨rfl, hb4⟩)
     | (go_at_call 76; refine (HM.out _ n1 n2 n3 (by exact bel_by)).mono ?_; rintro e w9 ⟨T', n, S', rfl, hp, hA', hG⟩))
   go_ret
   rw [Hr.out, ← hn1.1, ← hn2.1, ← hn3.1]
   exact ⟨T', _, S', rfl, hp, hA', hG⟩
  ·have HM := hide (fun (w2 : World) (n m : Int) (hb : Below w.heap.size w w2) => (aSeal_at (h.below hb) (IntKind.u32.wrap c) (c % 4294967296).toNat (u32w c) (by omega) n m).mono fun e w9 hd => hd.from_ hb)
   have Hr := hide (show o = tSeal (c % 4294967296).toNat (pickO ms a) (pickO ms b) from Ho.out)
   clear h hm hk
   go_enter Tryz.func34, Tryz.ntmps34
   go_wp2_with (first
     | (go_at_call 69; (with_reducible refine (HA.out _ (by exact bel_by)).mono ?_); rintro e w1 ⟨n1, rfl, hn1, hb1⟩; obtain ⟨hc1, hf1⟩ := bcell hb1; have hz1 : w.heap.size + 1 < w1.heap.size := (by have := hb1.size; (try simp at this); omega); have hy1 : w.heap.size < w1.heap.size := (by omega))
     | (go_at_call 69; (with_reducible refine (HB.out _ (by exact bel_by)).mono ?_); rintro e w2 ⟨n2, rfl, hn2, hb2⟩; obtain ⟨hc2, hf2⟩ := bcell hb2; have hz2 : w.heap.size + 1 < w2.heap.size := (by have := hb2.size; (try simp at this); omega); have hy2 : w.heap.size < w2.heap.size := (by omega))
     | (go_at_call 69; (with_reducible refine (HC.out _ (by exact bel_by)).mono ?_); rintro e w3 ⟨n3, rfl, hn3, hb3⟩; obtain ⟨hc3, hf3⟩ := bcell hb3; have hz3 : w.heap.size + 1 < w3.heap.size := (by have := hb3.size; (try simp at this); omega); have hy3 : w.heap.size < w3.heap.size := (by omega))
     | (go_at_call 78; refine (HM.out _ n1 n2 (by exact bel_by)).mono ?_; rintro e w9 ⟨T', n, S', rfl, hp, hA', hG⟩))
   go_ret
   rw [Hr.out, ← hn1.1, ← hn2.1]
   exact ⟨T', _, S', rfl, hp, hA', hG⟩
  ·have HR := hide (fun (w2 : World) (hb : Below w.heap.size w w2) => run_any (hm.below hb) a b (by omega))
   have HM := hide (fun (w2 : World) (v : Value) (ns : List Int) (hI : Ids w2 v ns) (hn : ns.length ≤ 1000000000) (hb : Below w.heap.size w w2) => (aList_any (h.below hb) hI hn).mono fun e w9 hd => hd.from_ hb)
   have Hr := hide (show o = tList (runO ms a b) from Ho.out)
   have hrl : (runO ms a b).length ≤ 40 := by unfold runO; split <;> simp; omega
   clear h hm hk
   go_enter Tryz.func34, Tryz.ntmps34
   go_wp2_with (first
     | (go_at_call 69; (with_reducible refine (HA.out _ (by exact bel_by)).mono ?_); rintro e w1 ⟨n1, rfl, hn1, hb1⟩; obtain ⟨hc1, hf1⟩ := bcell hb1; have hz1 : w.heap.size + 1 < w1.heap.size := (by have := hb1.size; (try simp at this); omega); have hy1 : w.heap.size < w1.heap.size := (by omega))
     | (go_at_call 69; (with_reducible refine (HB.out _ (by exact bel_by)).mono ?_); rintro e w2 ⟨n2, rfl, hn2, hb2⟩; obtain ⟨hc2, hf2⟩ := bcell hb2; have hz2 : w.heap.size + 1 < w2.heap.size := (by have := hb2.size; (try simp at this); omega); have hy2 : w.heap.size < w2.heap.size := (by omega))
     | (go_at_call 69; (with_reducible refine (HC.out _ (by exact bel_by)).mono ?_); rintro e w3 ⟨n3, rfl, hn3, hb3⟩; obtain ⟨hc3, hf3⟩ := bcell hb3; have hz3 : w.heap.size + 1 < w3.heap.size := (by have := hb3.size; (try simp at this); omega); have hy3 : w.heap.size < w3.heap.size := (by omega))
     | (go_at_call 79; refine (HR.out _ (by exact bel_by)).mono ?_; rintro e w4 ⟨u1, u2, ns, rfl, hI, hIn, hTx, hb4⟩)
     | (go_at_call 17; refine (HM.out _ _ ns hI (by rw [hIn.1]; omega) (by exact bel_by)).mono ?_; rintro e w9 ⟨T', n, S', rfl, hp, hA', hG⟩))
   go_ret
   rw [Hr.out, ← hIn.args]
   exact ⟨T', _, S', rfl, hp, hA', hG⟩
 ·have Hr := hide (show o = none from by
   rw [Ho.out]
   unfold mkO
   simp only
   repeat rw [if_neg (by omega)])
  have t1 : (k == 1) = false := beq_eq_false_iff_ne.2 (by omega)
  have t2 : (k == 2) = false := beq_eq_false_iff_ne.2 (by omega)
  have t3 : (k == 3) = false := beq_eq_false_iff_ne.2 (by omega)
  have t4 : (k == 4) = false := beq_eq_false_iff_ne.2 (by omega)
  have t5 : (k == 5) = false := beq_eq_false_iff_ne.2 (by omega)
  have t6 : (k == 6) = false := beq_eq_false_iff_ne.2 (by omega)
  have t7 : (k == 7) = false := beq_eq_false_iff_ne.2 (by omega)
  have t8 : (k == 8) = false := beq_eq_false_iff_ne.2 (by omega)
  have t9 : (k == 9) = false := beq_eq_false_iff_ne.2 (by omega)
  have t10 : (k == 10) = false := beq_eq_false_iff_ne.2 (by omega)
  clear h hm hk
  go_enter Tryz.func34, Tryz.ntmps34
  go_wp2_with (first
   | (go_at_call 69; (with_reducible refine (HA.out _ (by exact bel_by)).mono ?_); rintro e w1 ⟨n1, rfl, hn1, hb1⟩; obtain ⟨hc1, hf1⟩ := bcell hb1; have hz1 : w.heap.size + 1 < w1.heap.size := (by have := hb1.size; (try simp at this); omega); have hy1 : w.heap.size < w1.heap.size := (by omega))
   | (go_at_call 69; (with_reducible refine (HB.out _ (by exact bel_by)).mono ?_); rintro e w2 ⟨n2, rfl, hn2, hb2⟩; obtain ⟨hc2, hf2⟩ := bcell hb2; have hz2 : w.heap.size + 1 < w2.heap.size := (by have := hb2.size; (try simp at this); omega); have hy2 : w.heap.size < w2.heap.size := (by omega))
   | (go_at_call 69; (with_reducible refine (HC.out _ (by exact bel_by)).mono ?_); rintro e w3 ⟨n3, rfl, hn3, hb3⟩; obtain ⟨hc3, hf3⟩ := bcell hb3; have hz3 : w.heap.size + 1 < w3.heap.size := (by have := hb3.size; (try simp at this); omega); have hy3 : w.heap.size < w3.heap.size := (by omega)))
  go_ret
  rw [Hr.out]
  exact Hn.out _ (by exact bel_by)
end
end Go.Proofs.YtmgfcjpifkoahaaGreatDoor

/-
  The contract of the law's text: a term more, as the document writes it down. Conditions: numbers fit.
-/
namespace Go.Proofs.YtmgfcjpifkoahaaGreatDoor
open Go.RowKit Go.ChangeShapes Go.WideShapes

theorem rData_s (s : ByteArray) (w : World) (h : s.size ≤ 1000000) : Calls Tryz.prog 32 #[.string s] w (Says (txt (tData s)) w) := rData_any s.data.toList w (by rw [size_len]; omega)
theorem rBase_s (s : ByteArray) (w : World) (h : s.size ≤ 1000000) : Calls Tryz.prog 83 #[.string s] w (Says (txt (tBase s)) w) := rBase_any s.data.toList w (by rw [size_len]; omega)
theorem rSign_s (s : ByteArray) {o p : Option Tm} (ho : fineO o) (hp : fineO p) (w : World) (h : s.size ≤ 1000000) : Calls Tryz.prog 85 #[.string s, .string (bs (txt o)), .string (bs (txt p))] w (Says (txt (tSign s o p)) w) := rSign_any s.data.toList ho hp w (by rw [size_len]; omega)
section
variable {w : World} {T : List Tm} {ms : List (Option Tm)} {v1 v2 : Value}
set_option maxHeartbeats 4000000 in
set_option maxRecDepth 100000 in
theorem mtext_any (hm : Md w T ms v1 v2) (hf : ∀ o ∈ ms, fineO o) (k a b c : Int) (s : ByteArray) (hs : s.size ≤ 1000000) (hml : ms.length ≤ 1000000) :
  Calls Tryz.prog 35 #[.agg #[v1, v2], .agg #[.int .i64 k, .int .i64 a, .int .i64 b, .int .i64 c, .string s]] w (Says (txt (mkO ms ⟨k, a, b, c, s⟩)) w) := by
 obtain ⟨A1, c1, A2, c2, rfl, rfl, _⟩ := hm.open_
 have HA := hide (fun (w2 : World) (hb : Below w.heap.size w w2) => pick_any (hm.below hb) a (by omega))
 have HB := hide (fun (w2 : World) (hb : Below w.heap.size w w2) => pick_any (hm.below hb) b (by omega))
 have HC := hide (fun (w2 : World) (hb : Below w.heap.size w w2) => pick_any (hm.below hb) c (by omega))
 have HL := hide (fun (w2 : World) => letter_any s w2 (by omega))
 have fa := pickO_fine hf a
 have fb := pickO_fine hf b
 have fc := pickO_fine hf c
 obtain ⟨o, ho⟩ : ∃ o, o = mkO ms ⟨k, a, b, c, s⟩ := ⟨_, rfl⟩
 rw [← ho]
 have Ho := hide ho
 clear ho
 by_cases hk : 1 ≤ k ∧ k ≤ 10
 ·obtain rfl | rfl | rfl | rfl | rfl | rfl | rfl | rfl | rfl | rfl : k = 1 ∨ k = 2 ∨ k = 3 ∨ k = 4 ∨ k = 5 ∨ k = 6 ∨ k = 7 ∨ k = 8 ∨ k = 9 ∨ k = 10 := by omega
  ·have HM := hide (fun (w2 : World) => rData_s s w2 hs)
   have Hr := hide (show o = tData s from Ho.out)
   clear hm hk hf fa fb fc
   go_enter Tryz.func35, Tryz.ntmps35
   go_wp2_with (first
     | (go_at_call 69; (with_reducible refine (HA.out _ (by exact bel_by)).mono ?_); rintro e w1 ⟨n1, rfl, hn1, hb1⟩; obtain ⟨hc1, hf1⟩ := bcell hb1; have hz1 : w.heap.size + 1 < w1.heap.size := (by have := hb1.size; (try simp at this); omega); have hy1 : w.heap.size < w1.heap.size := (by omega))
     | (go_at_call 69; (with_reducible refine (HB.out _ (by exact bel_by)).mono ?_); rintro e w2 ⟨n2, rfl, hn2, hb2⟩; obtain ⟨hc2, hf2⟩ := bcell hb2; have hz2 : w.heap.size + 1 < w2.heap.size := (by have := hb2.size; (try simp at this); omega); have hy2 : w.heap.size < w2.heap.size := (by omega))
     | (go_at_call 69; (with_reducible refine (HC.out _ (by exact bel_by)).mono ?_); rintro e w3 ⟨n3, rfl, hn3, hb3⟩; obtain ⟨hc3, hf3⟩ := bcell hb3; have hz3 : w.heap.size + 1 < w3.heap.size := (by have := hb3.size; (try simp at this); omega); have hy3 : w.heap.size < w3.heap.size := (by omega))
     | (go_at_call 32; refine (HM.out _).mono ?_; rintro e w9 ⟨rfl, hb9⟩))
   go_ret
   rw [Hr.out]
   exact ⟨rfl, by exact bel_by⟩
  ·have HM := hide (fun (w2 : World) => rNonce_any a b w2)
   have Hr := hide (show o = tNonce a b from Ho.out)
   clear hm hk hf fa fb fc
   go_enter Tryz.func35, Tryz.ntmps35
   go_wp2_with (first
     | (go_at_call 69; (with_reducible refine (HA.out _ (by exact bel_by)).mono ?_); rintro e w1 ⟨n1, rfl, hn1, hb1⟩; obtain ⟨hc1, hf1⟩ := bcell hb1; have hz1 : w.heap.size + 1 < w1.heap.size := (by have := hb1.size; (try simp at this); omega); have hy1 : w.heap.size < w1.heap.size := (by omega))
     | (go_at_call 69; (with_reducible refine (HB.out _ (by exact bel_by)).mono ?_); rintro e w2 ⟨n2, rfl, hn2, hb2⟩; obtain ⟨hc2, hf2⟩ := bcell hb2; have hz2 : w.heap.size + 1 < w2.heap.size := (by have := hb2.size; (try simp at this); omega); have hy2 : w.heap.size < w2.heap.size := (by omega))
     | (go_at_call 69; (with_reducible refine (HC.out _ (by exact bel_by)).mono ?_); rintro e w3 ⟨n3, rfl, hn3, hb3⟩; obtain ⟨hc3, hf3⟩ := bcell hb3; have hz3 : w.heap.size + 1 < w3.heap.size := (by have := hb3.size; (try simp at this); omega); have hy3 : w.heap.size < w3.heap.size := (by omega))
     | (go_at_call 80; refine (HM.out _).mono ?_; rintro e w9 ⟨rfl, hb9⟩))
   go_ret
   rw [Hr.out]
   exact ⟨rfl, by exact bel_by⟩
  ·have HM := hide (fun (w2 : World) => rKey_any a w2)
   have Hr := hide (show o = tKey a from Ho.out)
   clear hm hk hf fa fb fc
   go_enter Tryz.func35, Tryz.ntmps35
   go_wp2_with (first
     | (go_at_call 69; (with_reducible refine (HA.out _ (by exact bel_by)).mono ?_); rintro e w1 ⟨n1, rfl, hn1, hb1⟩; obtain ⟨hc1, hf1⟩ := bcell hb1; have hz1 : w.heap.size + 1 < w1.heap.size := (by have := hb1.size; (try simp at this); omega); have hy1 : w.heap.size < w1.heap.size := (by omega))
     | (go_at_call 69; (with_reducible refine (HB.out _ (by exact bel_by)).mono ?_); rintro e w2 ⟨n2, rfl, hn2, hb2⟩; obtain ⟨hc2, hf2⟩ := bcell hb2; have hz2 : w.heap.size + 1 < w2.heap.size := (by have := hb2.size; (try simp at this); omega); have hy2 : w.heap.size < w2.heap.size := (by omega))
     | (go_at_call 69; (with_reducible refine (HC.out _ (by exact bel_by)).mono ?_); rintro e w3 ⟨n3, rfl, hn3, hb3⟩; obtain ⟨hc3, hf3⟩ := bcell hb3; have hz3 : w.heap.size + 1 < w3.heap.size := (by have := hb3.size; (try simp at this); omega); have hy3 : w.heap.size < w3.heap.size := (by omega))
     | (go_at_call 81; refine (HM.out _).mono ?_; rintro e w9 ⟨rfl, hb9⟩))
   go_ret
   rw [Hr.out]
   exact ⟨rfl, by exact bel_by⟩
  ·have HM := hide (fun (w2 : World) => rPub_any fa w2)
   have Hr := hide (show o = tPub (pickO ms a) from Ho.out)
   clear hm hk hf fa fb fc
   go_enter Tryz.func35, Tryz.ntmps35
   go_wp2_with (first
     | (go_at_call 69; (with_reducible refine (HA.out _ (by exact bel_by)).mono ?_); rintro e w1 ⟨n1, rfl, hn1, hb1⟩; obtain ⟨hc1, hf1⟩ := bcell hb1; have hz1 : w.heap.size + 1 < w1.heap.size := (by have := hb1.size; (try simp at this); omega); have hy1 : w.heap.size < w1.heap.size := (by omega))
     | (go_at_call 69; (with_reducible refine (HB.out _ (by exact bel_by)).mono ?_); rintro e w2 ⟨n2, rfl, hn2, hb2⟩; obtain ⟨hc2, hf2⟩ := bcell hb2; have hz2 : w.heap.size + 1 < w2.heap.size := (by have := hb2.size; (try simp at this); omega); have hy2 : w.heap.size < w2.heap.size := (by omega))
     | (go_at_call 69; (with_reducible refine (HC.out _ (by exact bel_by)).mono ?_); rintro e w3 ⟨n3, rfl, hn3, hb3⟩; obtain ⟨hc3, hf3⟩ := bcell hb3; have hz3 : w.heap.size + 1 < w3.heap.size := (by have := hb3.size; (try simp at this); omega); have hy3 : w.heap.size < w3.heap.size := (by omega))
     | (go_at_call 82; refine (HM.out _).mono ?_; rintro e w9 ⟨rfl, hb9⟩))
   go_ret
   rw [Hr.out]
   exact ⟨rfl, by exact bel_by⟩
  ·by_cases h5 : a < 0
   ·have HM := hide (fun (w2 : World) => rBase_s s w2 hs)
    have Hr := hide (show o = tBase s from by rw [Ho.out]; show (if a < 0 then _ else _) = _; rw [if_pos h5])
    clear hm hk hf fa fb fc
    go_enter Tryz.func35, Tryz.ntmps35
    go_wp2_with (first
      | (go_at_call 69; (with_reducible refine (HA.out _ (by exact bel_by)).mono ?_); rintro e w1 ⟨n1, rfl, hn1, hb1⟩; obtain ⟨hc1, hf1⟩ := bcell hb1; have hz1 : w.heap.size + 1 < w1.heap.size := (by have := hb1.size; (try simp at this); omega); have hy1 : w.heap.size < w1.heap.size := (by omega))
      | (go_at_call 69; (with_reducible refine (HB.out _ (by exact bel_by)).mono ?_); rintro e w2 ⟨n2, rfl, hn2, hb2⟩; obtain ⟨hc2, hf2⟩ := bcell hb2; have hz2 : w.heap.size + 1 < w2.heap.size := (by have := hb2.size; (try simp at this); omega); have hy2 : w.heap.size < w2.heap.size := (by omega))
      | (go_at_call 69; (with_reducible refine (HC.out _ (by exact bel_by)).mono ?_); rintro e w3 ⟨n3, rfl, hn3, hb3⟩; obtain ⟨hc3, hf3⟩ := bcell hb3; have hz3 : w.heap.size + 1 < w3.heap.size := (by have := hb3.size; (try simp at this); omega); have hy3 : w.heap.size < w3.heap.size := (by omega))
      | (go_at_call 83; refine (HM.out _).mono ?_; rintro e w9 ⟨rfl, hb9⟩))
    go_ret
    rw [Hr.out]
    exact ⟨rfl, by exact bel_by⟩
   ·have HM := hide (fun (w2 : World) => rExp_any fa fb w2)
    have Hr := hide (show o = tExp (pickO ms a) (pickO ms b) from by rw [Ho.out]; show (if a < 0 then _ else _) = _; rw [if_neg h5])
    clear hm hk hf fa fb fc
    go_enter Tryz.func35, Tryz.ntmps35
    go_wp2_with (first
      | (go_at_call 69; (with_reducible refine (HA.out _ (by exact bel_by)).mono ?_); rintro e w1 ⟨n1, rfl, hn1, hb1⟩; obtain ⟨hc1, hf1⟩ := bcell hb1; have hz1 : w.heap.size + 1 < w1.heap.size := (by have := hb1.size; (try simp at this); omega); have hy1 : w.heap.size < w1.heap.size := (by omega))
      | (go_at_call 69; (with_reducible refine (HB.out _ (by exact bel_by)).mono ?_); rintro e w2 ⟨n2, rfl, hn2, hb2⟩; obtain ⟨hc2, hf2⟩ := bcell hb2; have hz2 : w.heap.size + 1 < w2.heap.size := (by have := hb2.size; (try simp at this); omega); have hy2 : w.heap.size < w2.heap.size := (by omega))
      | (go_at_call 69; (with_reducible refine (HC.out _ (by exact bel_by)).mono ?_); rintro e w3 ⟨n3, rfl, hn3, hb3⟩; obtain ⟨hc3, hf3⟩ := bcell hb3; have hz3 : w.heap.size + 1 < w3.heap.size := (by have := hb3.size; (try simp at this); omega); have hy3 : w.heap.size < w3.heap.size := (by omega))
      | (go_at_call 84; refine (HM.out _).mono ?_; rintro e w9 ⟨rfl, hb9⟩))
    go_ret
    rw [Hr.out]
    exact ⟨rfl, by exact bel_by⟩
  ·have HM := hide (fun (w2 : World) => rSign_s s fa fb w2 hs)
   have Hr := hide (show o = tSign s (pickO ms a) (pickO ms b) from Ho.out)
   clear hm hk hf fa fb fc
   go_enter Tryz.func35, Tryz.ntmps35
   go_wp2_with (first
     | (go_at_call 69; (with_reducible refine (HA.out _ (by exact bel_by)).mono ?_); rintro e w1 ⟨n1, rfl, hn1, hb1⟩; obtain ⟨hc1, hf1⟩ := bcell hb1; have hz1 : w.heap.size + 1 < w1.heap.size := (by have := hb1.size; (try simp at this); omega); have hy1 : w.heap.size < w1.heap.size := (by omega))
     | (go_at_call 69; (with_reducible refine (HB.out _ (by exact bel_by)).mono ?_); rintro e w2 ⟨n2, rfl, hn2, hb2⟩; obtain ⟨hc2, hf2⟩ := bcell hb2; have hz2 : w.heap.size + 1 < w2.heap.size := (by have := hb2.size; (try simp at this); omega); have hy2 : w.heap.size < w2.heap.size := (by omega))
     | (go_at_call 69; (with_reducible refine (HC.out _ (by exact bel_by)).mono ?_); rintro e w3 ⟨n3, rfl, hn3, hb3⟩; obtain ⟨hc3, hf3⟩ := bcell hb3; have hz3 : w.heap.size + 1 < w3.heap.size := (by have := hb3.size; (try simp at this); omega); have hy3 : w.heap.size < w3.heap.size := (by omega))
     | (go_at_call 85; refine (HM.out _).mono ?_; rintro e w9 ⟨rfl, hb9⟩))
   go_ret
   rw [Hr.out]
   exact ⟨rfl, by exact bel_by⟩
  ·have HM := hide (fun (w2 : World) => rHash_any fa w2)
   have Hr := hide (show o = tHash (pickO ms a) from Ho.out)
   clear hm hk hf fa fb fc
   go_enter Tryz.func35, Tryz.ntmps35
   go_wp2_with (first
     | (go_at_call 69; (with_reducible refine (HA.out _ (by exact bel_by)).mono ?_); rintro e w1 ⟨n1, rfl, hn1, hb1⟩; obtain ⟨hc1, hf1⟩ := bcell hb1; have hz1 : w.heap.size + 1 < w1.heap.size := (by have := hb1.size; (try simp at this); omega); have hy1 : w.heap.size < w1.heap.size := (by omega))
     | (go_at_call 69; (with_reducible refine (HB.out _ (by exact bel_by)).mono ?_); rintro e w2 ⟨n2, rfl, hn2, hb2⟩; obtain ⟨hc2, hf2⟩ := bcell hb2; have hz2 : w.heap.size + 1 < w2.heap.size := (by have := hb2.size; (try simp at this); omega); have hy2 : w.heap.size < w2.heap.size := (by omega))
     | (go_at_call 69; (with_reducible refine (HC.out _ (by exact bel_by)).mono ?_); rintro e w3 ⟨n3, rfl, hn3, hb3⟩; obtain ⟨hc3, hf3⟩ := bcell hb3; have hz3 : w.heap.size + 1 < w3.heap.size := (by have := hb3.size; (try simp at this); omega); have hy3 : w.heap.size < w3.heap.size := (by omega))
     | (go_at_call 86; refine (HM.out _).mono ?_; rintro e w9 ⟨rfl, hb9⟩))
   go_ret
   rw [Hr.out]
   exact ⟨rfl, by exact bel_by⟩
  ·have HM := hide (fun (w2 : World) => rDerive_any (letterO s) (letterO_s s) fa fb fc w2)
   have Hr := hide (show o = tDerive (letterO s) (pickO ms a) (pickO ms b) (pickO ms c) from Ho.out)
   clear hm hk hf fa fb fc
   go_enter Tryz.func35, Tryz.ntmps35
   go_wp2_with (first
     | (go_at_call 69; (with_reducible refine (HA.out _ (by exact bel_by)).mono ?_); rintro e w1 ⟨n1, rfl, hn1, hb1⟩; obtain ⟨hc1, hf1⟩ := bcell hb1; have hz1 : w.heap.size + 1 < w1.heap.size := (by have := hb1.size; (try simp at this); omega); have hy1 : w.heap.size < w1.heap.size := (by omega))
     | (go_at_call 69; (with_reducible refine (HB.out _ (by exact bel_by)).mono ?_); rintro e w2 ⟨n2, rfl, hn2, hb2⟩; obtain ⟨hc2, hf2⟩ := bcell hb2; have hz2 : w.heap.size + 1 < w2.heap.size := (by have := hb2.size; (try simp at this); omega); have hy2 : w.heap.size < w2.heap.size := (by omega))
     | (go_at_call 69; (with_reducible refine (HC.out _ (by exact bel_by)).mono ?_); rintro e w3 ⟨n3, rfl, hn3, hb3⟩; obtain ⟨hc3, hf3⟩ := bcell hb3; have hz3 : w.heap.size + 1 < w3.heap.size := (by have := hb3.size; (try simp at this); omega); have hy3 : w.heap.size < w3.heap.size := (by omega))
     | (go_at_call 77; refine (HL.out _).mono ?_; rintro e w4 ⟨rfl, hb4⟩)
     | (go_at_call 87; refine (HM.out _).mono ?_; rintro e w9 ⟨rfl, hb9⟩))
   go_ret
   rw [Hr.out]
   exact ⟨rfl, by exact bel_by⟩
  ·have HM := hide (fun (w2 : World) => rSeal_at (IntKind.u32.wrap c) (c % 4294967296).toNat (u32w c) (by omega) fa fb w2)
   have Hr := hide (show o = tSeal (c % 4294967296).toNat (pickO ms a) (pickO ms b) from Ho.out)
   clear hm hk hf fa fb fc
   go_enter Tryz.func35, Tryz.ntmps35
   go_wp2_with (first
     | (go_at_call 69; (with_reducible refine (HA.out _ (by exact bel_by)).mono ?_); rintro e w1 ⟨n1, rfl, hn1, hb1⟩; obtain ⟨hc1, hf1⟩ := bcell hb1; have hz1 : w.heap.size + 1 < w1.heap.size := (by have := hb1.size; (try simp at this); omega); have hy1 : w.heap.size < w1.heap.size := (by omega))
     | (go_at_call 69; (with_reducible refine (HB.out _ (by exact bel_by)).mono ?_); rintro e w2 ⟨n2, rfl, hn2, hb2⟩; obtain ⟨hc2, hf2⟩ := bcell hb2; have hz2 : w.heap.size + 1 < w2.heap.size := (by have := hb2.size; (try simp at this); omega); have hy2 : w.heap.size < w2.heap.size := (by omega))
     | (go_at_call 69; (with_reducible refine (HC.out _ (by exact bel_by)).mono ?_); rintro e w3 ⟨n3, rfl, hn3, hb3⟩; obtain ⟨hc3, hf3⟩ := bcell hb3; have hz3 : w.heap.size + 1 < w3.heap.size := (by have := hb3.size; (try simp at this); omega); have hy3 : w.heap.size < w3.heap.size := (by omega))
     | (go_at_call 88; refine (HM.out _).mono ?_; rintro e w9 ⟨rfl, hb9⟩))
   go_ret
   rw [Hr.out]
   exact ⟨rfl, by exact bel_by⟩
  ·have HR := hide (fun (w2 : World) (hb : Below w.heap.size w w2) => run_any (hm.below hb) a b (by omega))
   have hrl : (runO ms a b).length ≤ 40 := by unfold runO; split <;> simp; omega
   have hrf : ∀ o ∈ runO ms a b, fineO o := fun o ho => by
    unfold runO at ho
    split at ho
    ·exact hf o (List.mem_of_mem_drop (List.mem_of_mem_take (List.mem_of_mem_take ho)))
    ·cases ho
   have HM := hide (fun (w2 : World) (v : Value) (hS : Txs w2 v ((runO ms a b).map txt)) => rList_any hS hrf (by omega))
   have Hr := hide (show o = tList (runO ms a b) from Ho.out)
   clear hm hk hf fa fb fc hrf
   go_enter Tryz.func35, Tryz.ntmps35
   go_wp2_with (first
     | (go_at_call 69; (with_reducible refine (HA.out _ (by exact bel_by)).mono ?_); rintro e w1 ⟨n1, rfl, hn1, hb1⟩; obtain ⟨hc1, hf1⟩ := bcell hb1; have hz1 : w.heap.size + 1 < w1.heap.size := (by have := hb1.size; (try simp at this); omega); have hy1 : w.heap.size < w1.heap.size := (by omega))
     | (go_at_call 69; (with_reducible refine (HB.out _ (by exact bel_by)).mono ?_); rintro e w2 ⟨n2, rfl, hn2, hb2⟩; obtain ⟨hc2, hf2⟩ := bcell hb2; have hz2 : w.heap.size + 1 < w2.heap.size := (by have := hb2.size; (try simp at this); omega); have hy2 : w.heap.size < w2.heap.size := (by omega))
     | (go_at_call 69; (with_reducible refine (HC.out _ (by exact bel_by)).mono ?_); rintro e w3 ⟨n3, rfl, hn3, hb3⟩; obtain ⟨hc3, hf3⟩ := bcell hb3; have hz3 : w.heap.size + 1 < w3.heap.size := (by have := hb3.size; (try simp at this); omega); have hy3 : w.heap.size < w3.heap.size := (by omega))
     | (go_at_call 79; refine (HR.out _ (by exact bel_by)).mono ?_; rintro e w4 ⟨u1, u2, ns, rfl, hI, hIn, hTx, hb4⟩)
     | (go_at_call 68; refine (HM.out _ _ hTx).mono ?_; rintro e w9 ⟨rfl, hb9⟩))
   go_ret
   rw [Hr.out]
   exact ⟨rfl, by exact bel_by⟩
 ·have Hr := hide (show o = none from by
   rw [Ho.out]
   unfold mkO
   simp only
   repeat rw [if_neg (by omega)])
  have t1 : (k == 1) = false := beq_eq_false_iff_ne.2 (by omega)
  have t2 : (k == 2) = false := beq_eq_false_iff_ne.2 (by omega)
  have t3 : (k == 3) = false := beq_eq_false_iff_ne.2 (by omega)
  have t4 : (k == 4) = false := beq_eq_false_iff_ne.2 (by omega)
  have t5 : (k == 5) = false := beq_eq_false_iff_ne.2 (by omega)
  have t6 : (k == 6) = false := beq_eq_false_iff_ne.2 (by omega)
  have t7 : (k == 7) = false := beq_eq_false_iff_ne.2 (by omega)
  have t8 : (k == 8) = false := beq_eq_false_iff_ne.2 (by omega)
  have t9 : (k == 9) = false := beq_eq_false_iff_ne.2 (by omega)
  have t10 : (k == 10) = false := beq_eq_false_iff_ne.2 (by omega)
  clear hm hk hf fa fb fc
  go_enter Tryz.func35, Tryz.ntmps35
  go_wp2_with (first
   | (go_at_call 69; (with_reducible refine (HA.out _ (by exact bel_by)).mono ?_); rintro e w1 ⟨n1, rfl, hn1, hb1⟩; obtain ⟨hc1, hf1⟩ := bcell hb1; have hz1 : w.heap.size + 1 < w1.heap.size := (by have := hb1.size; (try simp at this); omega); have hy1 : w.heap.size < w1.heap.size := (by omega))
   | (go_at_call 69; (with_reducible refine (HB.out _ (by exact bel_by)).mono ?_); rintro e w2 ⟨n2, rfl, hn2, hb2⟩; obtain ⟨hc2, hf2⟩ := bcell hb2; have hz2 : w.heap.size + 1 < w2.heap.size := (by have := hb2.size; (try simp at this); omega); have hy2 : w.heap.size < w2.heap.size := (by omega))
   | (go_at_call 69; (with_reducible refine (HC.out _ (by exact bel_by)).mono ?_); rintro e w3 ⟨n3, rfl, hn3, hb3⟩; obtain ⟨hc3, hf3⟩ := bcell hb3; have hz3 : w.heap.size + 1 < w3.heap.size := (by have := hb3.size; (try simp at this); omega); have hy3 : w.heap.size < w3.heap.size := (by omega)))
  go_ret
  rw [Hr.out]
  exact ⟨rfl, by exact bel_by⟩
end
end Go.Proofs.YtmgfcjpifkoahaaGreatDoor
