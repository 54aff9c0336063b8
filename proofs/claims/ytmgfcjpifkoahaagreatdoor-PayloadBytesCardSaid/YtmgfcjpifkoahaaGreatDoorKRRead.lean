/-
  The contracts of the reference's place and read. Conditions: payloads of at most 1,000,000 bytes; forms of at most 13 letters.
-/
import Derived.Test.YtmgfcjpifkoahaaGreatDoorKRGetX
import Derived.Test.YtmgfcjpifkoahaaGreatDoorKDecW
import Derived.Test.YtmgfcjpifkoahaaGreatDoorKGetsG
set_option linter.unusedVariables false
set_option linter.unusedSimpArgs false
namespace Go.Proofs.YtmgfcjpifkoahaaGreatDoor
open Go.RowKit Go.ChangeShapes Go.WideShapes Go.Sort
def digB : ByteArray := ⟨#[48, 49, 50, 51, 52, 53, 54, 55, 56, 57]⟩
theorem place_1 : ∀ i < 10, (digB.extract i (i + 1) ++ (⟨#[32]⟩ : ByteArray)).data.toList = Lib.decDigits i ++ [32] := by decide +kernel
theorem place_2 : ∀ i < 100, 10 ≤ i → (digB.extract (i / 10) (i / 10 + 1) ++ digB.extract (i % 10) (i % 10 + 1) ++ (⟨#[32]⟩ : ByteArray)).data.toList = Lib.decDigits i ++ [32] := by decide +kernel
theorem place_len : ∀ i < 100, (atL [Lib.decDigits i]).length ≤ 10 := by decide +kernel
theorem rplace_any (i : Nat) (hi : i < 100) (w : World) : Calls Tryz.prog 125 #[.int .i64 i] w (Says (atL [Lib.decDigits i]) w) := by
 have hat : atL [Lib.decDigits i] = Lib.decDigits i ++ [32] := by simp [atL]
 rw [hat]
 have hd10 : digB.size = 10 := rfl
 by_cases h10 : i < 10
 ·have h10' : (i : Int) < 10 := by omega
  have HE := hide (bs_eq (place_1 i h10))
  have hw : IntKind.i64.wrap ((i : Int) + 1) = ((i + 1 : Nat) : Int) := by rw [wrap_small _ (by omega) (by omega)]; omega
  clear hat
  go_enter Tryz.func125, Tryz.ntmps125
  rw [show (⟨#[48, 49, 50, 51, 52, 53, 54, 55, 56, 57]⟩ : ByteArray) = digB from rfl]
  go_wp2_with fail
  go_ret
  exact ⟨by rw [← HE.out]; rfl, Below.refl _ _⟩
 ·have h10' : ¬ (i : Int) < 10 := by omega
  have HE := hide (bs_eq (place_2 i hi (by omega)))
  have hq : (i : Int).tdiv 10 = ((i / 10 : Nat) : Int) := by rw [Int.tdiv_eq_ediv_of_nonneg (by omega)]; omega
  have hr : (i : Int).tmod 10 = ((i % 10 : Nat) : Int) := by rw [Int.tmod_eq_emod_of_nonneg (by omega)]; omega
  obtain ⟨a, ha⟩ : ∃ a, a = i / 10 := ⟨_, rfl⟩
  obtain ⟨b, hb⟩ : ∃ b, b = i % 10 := ⟨_, rfl⟩
  rw [← ha] at hq HE
  rw [← hb] at hr HE
  have hw1 : IntKind.i64.wrap ((a : Int) + 1) = ((a + 1 : Nat) : Int) := by rw [wrap_small _ (by omega) (by omega)]; omega
  have hw2 : IntKind.i64.wrap ((b : Int) + 1) = ((b + 1 : Nat) : Int) := by rw [wrap_small _ (by omega) (by omega)]; omega
  have ha10 : a < 10 := by omega
  have hb10 : b < 10 := by omega
  clear hat hi ha hb
  go_enter Tryz.func125, Tryz.ntmps125
  rw [show (⟨#[48, 49, 50, 51, 52, 53, 54, 55, 56, 57]⟩ : ByteArray) = digB from rfl]
  go_wp2_with fail
  go_region
  go_wp2_with fail
  go_ret
  exact ⟨by rw [← HE.out]; rfl, (Below.refl _ _).drew⟩
def RReadP (R : RdR) (w : World) (e : Ending) (w' : World) : Prop :=
 Below w.heap.size w w' ∧ ((∃ l A c, R = .ok l ∧ e = .returned (.tuple #[.slice A l.length c, .agg #[.int .i64 0, .string ⟨#[]⟩]]) ∧ FldsN w.heap.size w' A l) ∨
  (∃ ps, ∃ k : Nat, readErr R = some (ps, k) ∧ (∀ l, R ≠ .ok l) ∧ k ≠ 0 ∧ (atL ps).length ≤ 10 ∧ e = .returned (.tuple #[.slice none 0 0, .agg #[.int .i64 k, .string (bs (atL ps))]])))
theorem two_fin {w : World} {r : Nat} {t : TypeId} {o0 o1 : Value} (h : Blk w r t #[o0, o1]) (v0 v1 : Value) : Blk ((w.setCell ⟨r, 0, none⟩ v0).setCell ⟨r, 1, none⟩ v1) r t #[v0, v1] := by
 have h1 := (h.set_ 0 v0).set_ 1 v1
 simpa using h1
structure RReadI (w : World) (f : ByteArray) (R : RdR) (i : Nat) (A : Option Addr) (c : Nat) (wr : World) : Prop where
 bel : Below w.heap.size w wr
 eb : Blk wr w.heap.size 81 #[.int .i64 0, .string ⟨#[]⟩]
 st : ∃ zs r', FOwn (w.heap.size + 2) wr A i c zs ∧ Rd3 wr (w.heap.size + 1) r' 0 ∧ r'.length ≤ 1000000 ∧ R = consAll (zs.map (·.1)) (readFs (f.data.toList.drop i) r' i)
theorem getF_left {k : Nat} {r r' : List UInt8} {x : Fld} (h : getF k r = .ok x r') : r'.length ≤ r.length := by
 obtain ⟨_, _, b, _, e⟩ := put_get h
 rw [e, List.length_append]
 omega
section
variable {w : World}
set_option maxHeartbeats 16000000 in
set_option maxRecDepth 100000 in
theorem rread_anyM (pl f : ByteArray) (hpl : pl.size ≤ 1000000) (hp1 : 1 ≤ pl.size) (hf13 : f.size ≤ 13) :
  Calls Tryz.prog 62 #[.string pl, .string f] w (RReadP (readFs f.data.toList (pl.data.toList.drop 1) 0) w) := by
 obtain ⟨r, hr⟩ : ∃ r, r = pl.data.toList.drop 1 := ⟨_, rfl⟩
 have hs0 : pl.extract 1 pl.size = bs r := by
  apply bs_eq
  rw [Lib.extract_data, hr]
  rw [List.take_of_length_le]
  rw [List.length_drop]
  exact Nat.le_refl _
 have hrl : r.length ≤ 1000000 := by
  rw [hr, List.length_drop]
  have : pl.data.toList.length = pl.size := rfl
  omega
 rw [← hr]
 generalize hRR : readFs f.data.toList r 0 = R
 have HRR := hide hRR
 have h1p : (1 : Int) ≤ pl.size := by omega
 obtain ⟨iI, hiI, hI0, hI1, hI2⟩ := info_partsN infoFd
 have HII := hide (And.intro hiI (And.intro hI0 (And.intro hI1 hI2)))
 obtain ⟨W0, hW0⟩ : ∃ W0, W0 = (w.alloc (.cells #[.int .i64 0, .string ⟨#[]⟩] 81)).alloc (.cells #[.string (bs r), .int .i64 0] 165) := ⟨_, rfl⟩
 have hb0 : Below w.heap.size w W0 := by rw [hW0]; exact bel_by
 have hE0 : Blk W0 w.heap.size 81 #[.int .i64 0, .string ⟨#[]⟩] := by rw [hW0]; exact (Blk.new w _ _).alloc _
 have hR0 : Rd3 W0 (w.heap.size + 1) r 0 := by rw [hW0]; exact blk_new2 w _ _ _
 have HI0 := hide (show RReadI w f R 0 none 0 W0 from ⟨hb0, hE0, [], r, ⟨rfl, World.ownsRow_nil _ _ _ _, by simp⟩, hR0, hrl, HRR.out.symm⟩)
 clear hRR hr hrl hb0 hE0 hR0 hiI hI0 hI1 hI2
 go_enter Tryz.func62, Tryz.ntmps62
 go_upto_region 2 with fail
 rw [← hW0]
 clear hW0 hs0
 go_wp2_with fail
 go_loopw [7, 8] (fun vo vi wr => ∃ (i : Nat) (A : Option Addr) (c : Nat), vo = .slice A i c ∧ vi = .int .i64 i ∧ i ≤ f.size ∧ Hid (RReadI w f R i A c wr)) (fun _ vi _ => f.size - (intOf vi).toNat)
 case atStart => exact ⟨0, none, 0, rfl, rfl, Nat.zero_le _, HI0⟩
 case round =>
  obtain ⟨i, A, c, rfl, rfl, hi, HI⟩ := hrel
  have hbr := HI.out.bel
  have heb := HI.out.eb
  obtain ⟨zs, r', hF, hr, hrl, hR⟩ := HI.out.st
  by_cases hlt : i < f.size
  ·have hlt' : (i : Int) < f.size := by omega
   have hlf : i < f.data.toList.length := hlt
   have hR2 := hR
   rw [List.drop_eq_getElem_cons hlf] at hR2
   have hfc : f.data.toList[i]'hlf = f[i] := rfl
   rw [hfc] at hR2
   have hok := hide (fun x q (hg : getF f[i].toNat r' = .ok x q) => show R = consAll (zs.map (·.1) ++ [x]) (readFs (f.data.toList.drop (i + 1)) q (i + 1)) from by rw [hR2, readFs_of hg, consAll_snoc])
   have hno := hide (fun x (hg : getF f[i].toNat r' = .no x) => show R = .no x i from by rw [hR2, readFs_no hg, consAll_no])
   have HG := hide (rget_any f[i].toNat hr hrl)
   have hc7 : f[i].toNat < 256 := f[i].toNat_lt
   have hzr : w.heap.size + 2 ≤ wr.heap.size := Nat.succ_le_of_lt (Blk.lt hr)
   have HX := hide (And.intro hF (And.intro hbr heb))
   have hi13 : i < 100 := by omega
   have HPl := hide (fun W => rplace_any i hi13 W)
   have hrl1 := hrl
   clear hfc hR2 hR hF hr heb hbr HI hrl
   go_wp2_with fail
   refine HG.out.mono ?_
   rintro e w9 (⟨x, lv, q, hg, rfl, hN, hr9, ho9⟩ | ⟨ke, v0, v1, v2, v3, v4, v5, hg, hk0, rfl, ho9⟩)
   ·have hkx := getF_k hg
    have HR := hide (hok.out _ _ hg)
    have hql : q.length ≤ 1000000 := Nat.le_trans (getF_left hg) hrl1
    have hb9 : Below w.heap.size w w9 := HX.out.2.1.grown ho9 HX.out.2.1.size (fun k e => by cases e; omega)
    have heb9 := HX.out.2.2.grown ho9 (fun e => by have := Option.some.inj e; omega)
    have hF9 := HX.out.1.step ho9 (fun j e => by cases e; omega)
    have hz9 : w.heap.size + 2 ≤ w9.heap.size := Nat.le_trans hzr ho9.size
    have HN9 := hide hN
    have Hr9 := hide (show Rd3 w9 (w.heap.size + 1) q 0 from hr9)
    have Hho9 := hide ho9
    have Heb9 := hide heb9
    have hk256 : x.k < 256 := by omega
    obtain ⟨lA, lc, rfl, hlc, _⟩ := hN
    clear hg hok hno HG hr9 ho9 hkx heb9
    obtain ⟨hiI, hI0, hI1, hI2⟩ := HII.out
    unfold fldV
    go_wp2_with (first
     | (at_builtin; refine wpList_append_any _ rfl (.tmp 35) (.tmp 37) _ rfl (w.heap.size + 2) 67 iI (.agg #[.int .u8 0, .int .i64 0, .string ⟨#[]⟩, .slice none 0 0]) 4 56 Tryz.underlying58 hiI hI0 hI1 hI2 rfl (by decide) (.slice A i c) i _ rfl ((hF9.own.alloc _).alloc _) _ (some ⟨_, 0, none⟩) 1 1 [.int .u8 x.k, .int .i64 x.n, .string (bs x.s), .slice lA x.l.length lc] rfl (reads_blkN (blk_new2 _ _ _ _) rfl) (by simp [Value.oneCell']) (by unfold maxLen; omega) (by omega) (by simp only [World.size_alloc]; omega) ?_; intro v6 w6 hown6 hgr6 hor6; obtain ⟨A6, c6, rfl⟩ := own_slN hown6)
     | fail)
    have hgX : w9.grownBy w6 (Value.slice A i c).ownBlock := only_trans (only_alloc (only_alloc (only_refl w9 _) (.cells #[.int .u8 x.k, .int .i64 x.n, .string (bs x.s), .slice lA x.l.length lc] 67)) (.cells #[.int .u8 x.k, .int .i64 x.n, .string (bs x.s), .slice lA x.l.length lc] 67)) hgr6
    have hrow : ∀ k, (Value.slice A i c).ownBlock = some k → w.heap.size + 2 ≤ k := fun k e => (hF9.own.lt k e).1
    have hr6 : Rd3 w6 (w.heap.size + 1) q 0 := Blk.grown Hr9.out hgX (fun e => by have := hrow _ e.symm; omega)
    have heb6 := Heb9.out.grown hgX (fun e => by have := hrow _ e.symm; omega)
    have hb6 : Below w.heap.size w w6 := hb9.grown hgX hb9.size (fun k e => by have := hrow _ e; omega)
    have hF6 := HX.out.1.add ⟨_, Hho9.out, fun j e => by cases e; omega⟩ HN9.out hk256 (by omega) hgX (fun k e => e) (by
     rcases hor6 with h6 | h6
     ·exact .inl h6
     ·exact .inr ⟨_, h6, by simp only [World.size_alloc]; omega⟩) (by rw [fcs_snoc]; exact hown6)
    refine ⟨⟨i + 1, A6, c6, by first | rfl | (simp; done), by first | rfl | go_num, by omega, hide ⟨hb6, heb6, _, q, hF6, hr6, hql, by rw [List.map_append]; exact HR.out⟩⟩, ?_⟩
    simp [intOf]
    omega
   ·have HR := hide (hno.out _ hg)
    have hb9 : Below w.heap.size w w9 := HX.out.2.1.grown ho9 HX.out.2.1.size (fun k e => by cases e; omega)
    have heb9 := HX.out.2.2.grown ho9 (fun e => by have := Option.some.inj e; omega)
    have hx1 : ((ke : Int) == 0) = false := by rw [beq_eq_false_iff_ne]; omega
    have hx2 : ((ke : Int) != 0) = true := by simp [bne, hx1]
    have Hk0 := hide hk0
    have Hb9 := hide hb9
    have HX9 := hide (heb9.alloc (.cells #[.int .u8 v0, .int .i64 v1, .string v2, .slice v3 v4 v5] 67))
    have HA := hide (show Below w.heap.size w (w9.alloc (.cells #[.int .u8 v0, .int .i64 v1, .string v2, .slice v3 v4 v5] 67)) from hb9.alloc hb9.size _)
    clear hg hok hno HG ho9 hk0 HX hb9 heb9
    go_wp2_with (first
     | (go_at_call 125; refine (HPl.out _).mono ?_; rintro e w6 ⟨rfl, hb6⟩; have hX7 := HX9.out.below hb6 HX9.out.lt; have x0 := hX7.cell 0; have x1 := hX7.cell 1; have t0 := hX7.frozen 0; have t1 := hX7.frozen 1; simp at x0 x1)
     | fail)
    have hF := two_fin hX7 (.int .i64 (ke : Nat)) (.string (bs (atL [Lib.decDigits i])))
    have q0 := hF.cell 0
    have q1 := hF.cell 1
    simp at q0 q1
    exact bodyPost_ret (v := .tuple #[.slice none 0 0, .agg #[.int .i64 (ke : Nat), .string (bs (atL [Lib.decDigits i]))]]) (by simp [results, Tryz.results62, go_sem, q0, q1]) rfl ⟨msg_end (Nat.le_refl _) (HA.out.trans (hb6.mono HA.out.size)), .inr ⟨_, ke, by rw [HR.out]; rfl, (fun l e => by rw [HR.out] at e; cases e), Hk0.out, place_len i hi13, rfl⟩⟩
  ·have hil : i = f.size := by omega
   subst hil
   have hlt' : ¬ (f.size : Int) < f.size := by omega
   have hR2 : R = consAll (zs.map (·.1)) (if endV r' = 0 then .ok [] else .tail) := by
    rw [hR, List.drop_of_length_le (show f.data.toList.length ≤ f.size from Nat.le_refl _), readFs_nil]
   have HE := hide (r3end_any hr)
   have HF := hide hF
   have Hbr := hide hbr
   have Heb := hide heb
   have hec := endV_cases r'
   have hzl := hF.len
   have x0 := heb.cell 0
   have x1 := heb.cell 1
   have t0 := heb.frozen 0
   have t1 := heb.frozen 1
   simp at x0 x1
   generalize endV r' = ev at hR2 HE hec
   clear HI hR hF hr hbr heb hrl
   rcases hec with rfl | rfl
   ·have HR := hide (show R = .ok (zs.map (·.1)) from by rw [hR2, if_pos rfl, consAll_ok, List.append_nil])
    clear hR2
    go_wp2_with (first | (go_at_call 126; refine HE.out.mono ?_; rintro e w6 ⟨rfl, e6⟩; (obtain rfl : wr = w6 := e6.symm)) | fail)
    have hF := two_fin Heb.out (.int .i64 0) (.string ⟨#[]⟩)
    have q0 := hF.cell 0
    have q1 := hF.cell 1
    simp at q0 q1
    refine bodyPost_ret (v := .tuple #[.slice A f.size c, .agg #[.int .i64 0, .string ⟨#[]⟩]]) (by simp [results, Tryz.results62, go_sem, q0, q1]) rfl ⟨msg_end (Nat.le_refl _) Hbr.out, .inl ⟨_, A, c, HR.out, by rw [List.length_map, hzl], ?_⟩⟩
    exact ((HF.out.flds.setCell (p := ⟨w.heap.size, 0, none⟩) (by show w.heap.size < _; omega) _).setCell (p := ⟨w.heap.size, 1, none⟩) (by show w.heap.size < _; omega) _).mono (by omega)
   ·have HR := hide (show R = .tail from by rw [hR2, if_neg (by decide), consAll_tail])
    clear hR2
    go_wp2_with (first | (go_at_call 126; refine HE.out.mono ?_; rintro e w6 ⟨rfl, e6⟩; (obtain rfl : wr = w6 := e6.symm)) | fail)
    have hF := two_fin Heb.out (.int .i64 3) (.string ⟨#[101, 110, 100, 32]⟩)
    have q0 := hF.cell 0
    have q1 := hF.cell 1
    simp at q0 q1
    exact bodyPost_ret (v := .tuple #[.slice none 0 0, .agg #[.int .i64 3, .string ⟨#[101, 110, 100, 32]⟩]]) (by simp [results, Tryz.results62, go_sem, q0, q1]) rfl ⟨msg_end (Nat.le_refl _) Hbr.out, .inr ⟨[endB], 3, by rw [HR.out]; rfl, (fun l e => by rw [HR.out] at e; cases e), by decide, by decide, rfl⟩⟩
end
end Go.Proofs.YtmgfcjpifkoahaaGreatDoor
