/-
  The contract of package msg's Decode. Conditions: payloads of at most 1,000,000 bytes; the library's own number is there.
-/
import Derived.Test.YtmgfcjpifkoahaaGreatDoorKReadW
set_option linter.unusedVariables false
set_option linter.unusedSimpArgs false
namespace Go.Proofs.YtmgfcjpifkoahaaGreatDoor
open Go.RowKit Go.ChangeShapes Go.WideShapes Go.Sort
def readErr : RdR → Option (List (List UInt8) × Nat)
 | .ok _ => none
 | .no e i => some ([Lib.decDigits i], e)
 | .tail => some ([endB], 3)
def decErr : DecR → Option (List (List UInt8) × Nat)
 | .ok _ _ => none
 | .all e => some ([msgB], e)
 | .bad num R => (readErr R).map fun x => ((word (num : Nat)).data.toList :: x.1, x.2)
def DecN (D : DecR) (w : World) (e : Ending) (w' : World) : Prop :=
 Below w.heap.size w w' ∧ ((∃ num l A c, D = .ok num l ∧ e = .returned (.tuple #[.agg #[.int .i64 (num : Nat), .slice A l.length c], .nilIface]) ∧ FldsN w.heap.size w' A l) ∨
  (∃ b ps, ∃ k : Nat, decErr D = some (ps, k) ∧ e = .returned (.tuple #[.agg #[.int .i64 0, .slice none 0 0], errV b]) ∧ IsErr w' (errV b) ps k))
theorem read_two {R : RdR} {w : World} {e : Ending} {w' : World} (h : ReadP R w e w') : Below w.heap.size w w' ∧ ((∃ l A c, R = .ok l ∧ e = .returned (.tuple #[.slice A l.length c, .nilIface]) ∧ FldsN w.heap.size w' A l) ∨
  (∃ b A n c ps, ∃ k : Nat, readErr R = some (ps, k) ∧ (∀ l, R ≠ .ok l) ∧ ps.length ≤ 1 ∧ e = .returned (.tuple #[.slice A n c, errV b]) ∧ IsErr w' (errV b) ps k)) := by
 obtain ⟨hb, h | ⟨x, i, b, A, n, c, hR, h0, he, hi⟩ | ⟨b, A, n, c, hR, he, hi⟩⟩ := h
 ·exact ⟨hb, .inl h⟩
 ·exact ⟨hb, .inr ⟨b, A, n, c, _, x, by rw [hR]; rfl, (fun l e => by rw [hR] at e; cases e), by simp, he, hi⟩⟩
 ·exact ⟨hb, .inr ⟨b, A, n, c, _, 3, by rw [hR]; rfl, (fun l e => by rw [hR] at e; cases e), by simp, he, hi⟩⟩
theorem decS_long {c : UInt8} {r : List UInt8} (h : 32768 < (c :: r).length) : decS (c :: r) = .all 2 := by
 simp only [decS]
 rw [if_pos h]
theorem decS_none {c : UInt8} {r : List UInt8} (h : ¬ 32768 < (c :: r).length) (hf : forms c.toNat = []) : decS (c :: r) = .all 6 := by
 simp only [decS]
 rw [if_neg h]
 split
 ·rfl
 ·rename_i h2
  rw [hf] at h2
  cases h2
theorem decS_bad {c : UInt8} {r : List UInt8} {f : ByteArray} {fs : List ByteArray} (h : ¬ 32768 < (c :: r).length) (hf : forms c.toNat = f :: fs) (hn : firstF (forms c.toNat) r = none) : decS (c :: r) = .bad c.toNat (readFs f.data.toList r 0) := by
 simp only [decS]
 rw [if_neg h]
 split
 ·rename_i h2
  rw [hf] at h2
  cases h2
 ·rename_i f2 fs2 h2
  rw [hf] at h2
  cases h2
  rw [hf] at hn
  rw [hn]
theorem msg2 {w : World} {r : Nat} {t : TypeId} {o0 o1 : Value} (h : Blk w r t #[o0, o1]) (v0 v1 : Value) : Blk ((w.setCell ⟨r, 0, none⟩ v0).setCell ⟨r, 1, none⟩ v1) r t #[v0, v1] := by
 have h1 := (h.set_ 0 v0).set_ 1 v1
 simpa using h1
structure DecI (w : World) (p : List UInt8) (fs : List ByteArray) (j : Nat) (vf : Value) (wr : World) : Prop where
 bel : Below w.heap.size w wr
 blk : Blk wr w.heap.size 60 #[.int .i64 0, .slice none 0 0]
 rest : firstF fs (p.drop 1) = firstF (fs.drop j) (p.drop 1)
 first : 0 < j → ∃ b ps, ∃ k : Nat, vf = errV b ∧ IsErr wr (errV b) ps k ∧ ps.length ≤ 1 ∧ ∀ f r, fs = f :: r → readErr (readFs f.data.toList (p.drop 1) 0) = some (ps, k)
section
variable {w : World}
theorem msg_end {w w7 : World} {v0 v1 : Value} {g : Nat} (hg : w.heap.size ≤ g) (hb : Below w.heap.size w w7) : Below w.heap.size w ((w7.setCell ⟨g, 0, none⟩ v0).setCell ⟨g, 1, none⟩ v1) := (hb.setCell (p := ⟨g, 0, none⟩) hg v0).setCell (p := ⟨g, 1, none⟩) hg v1
theorem msg_err {w7 : World} {v0 v1 : Value} {g : Nat} {cs : Array Value} (hB : Blk w7 g 60 cs) {v : Value} {ps : List (List UInt8)} {k : Int} (h : IsErr w7 v ps k) : IsErr ((w7.setCell ⟨g, 0, none⟩ v0).setCell ⟨g, 1, none⟩ v1) v ps k :=
 IsErr.own hB (by decide) (only_setCell (only_setCell (only_refl w7 (some g)) (p := ⟨g, 0, none⟩) (.inl rfl) v0) (p := ⟨g, 1, none⟩) (.inl rfl) v1) h
set_option maxHeartbeats 16000000 in
set_option maxRecDepth 100000 in
theorem decode_anyN (pl : ByteArray) (hpl : pl.size ≤ 1000000) (hM : MaxL w) : Calls Tryz.prog 24 #[.string pl] w (DecN (decS pl.data.toList) w) := by
 have hX0 := Blk.new w 60 #[.int .i64 0, .slice none 0 0]
 have hb0 : Below w.heap.size w (w.alloc (.cells #[.int .i64 0, .slice none 0 0] 60)) := (Below.refl _ _).alloc (Nat.le_refl _) _
 by_cases hnil : pl = ⟨#[]⟩
 ·subst hnil
  have HE := hide (show decErr (decS (⟨#[]⟩ : ByteArray).data.toList) = some ([msgB], 4) from rfl)
  have HOf := hide (fun W => fof_any ⟨#[109, 101, 115, 115, 97, 103, 101]⟩ 4 (by decide) W)
  unfold errV at HOf
  have HX := hide (And.intro hX0 hb0)
  clear hX0 hb0 hM
  go_enter Tryz.func24, Tryz.ntmps24
  go_wp2_with (first
   | (go_at_call 48; refine (HOf.out _).mono ?_; rintro e w7 ⟨b7, rfl, hi7, hb7⟩; have hX7 := HX.out.1.below hb7 HX.out.1.lt; have x0 := hX7.cell 0; have x1 := hX7.cell 1; have t0 := hX7.frozen 0; have t1 := hX7.frozen 1; simp at x0 x1)
   | fail)
  have hF := msg2 hX7 (.int .i64 0) (.slice none 0 0)
  have q0 := hF.cell 0
  have q1 := hF.cell 1
  simp at q0 q1
  exact bodyPost_ret (v := .tuple #[.agg #[.int .i64 0, .slice none 0 0], errV b7]) (by simp [results, Tryz.results24, go_sem, q0, q1, errV]) rfl ⟨msg_end (Nat.le_refl _) (HX.out.2.trans (hb7.mono HX.out.2.size)), .inr ⟨b7, _, 4, HE.out, rfl, msg_err hX7 hi7⟩⟩
 ·have hz : 0 < pl.size := Nat.pos_of_ne_zero (fun e => hnil (by
   have : pl.data.size = 0 := e
   have h2 : pl.data = #[] := Array.eq_empty_of_size_eq_zero this
   cases pl
   simp_all))
  have hzl : pl.data.toList.length = pl.size := rfl
  obtain ⟨c, r, hcr⟩ := List.exists_cons_of_ne_nil (show pl.data.toList ≠ [] from fun e => by rw [e] at hzl; simp at hzl; omega)
  have hg0 : pl[0] = c := by
   have h2 : pl.data.toList[0]'(by rw [hzl]; exact hz) = c := by simp only [hcr, List.getElem_cons_zero]
   exact h2
  have hne := bytes_ne hnil
  have hne2 := bytes_some hnil
  have hw64 : wrap64 ((pl[0].toNat : Nat) : Int) = (pl[0].toNat : Nat) := by
   have := pl[0].toNat_lt
   unfold wrap64
   omega
  rw [hcr] at hzl ⊢
  have hz1 : (0 : Int) < pl.size := by omega
  by_cases hlong : 32768 < pl.size
  ·have hlong' : (32768 : Int) < pl.size := by omega
   have HK := hide (fun W => known_any 0 W)
   have HE := hide (show decErr (decS (c :: r)) = some ([msgB], 2) from by rw [decS_long (by omega)]; rfl)
   have HOf := hide (fun W => fof_any ⟨#[109, 101, 115, 115, 97, 103, 101]⟩ 2 (by decide) W)
   unfold errV at HOf
   have HX := hide (And.intro hX0 hb0)
   clear hX0 hb0 hM HK hg0 hlong
   go_enter Tryz.func24, Tryz.ntmps24
   go_wp2_with (first
    | (go_at_call 49; refine (HK.out _).mono ?_; rintro e w6 ⟨rfl, hb6⟩)
    | (go_at_call 48; refine (HOf.out _).mono ?_; rintro e w7 ⟨b7, rfl, hi7, hb7⟩; have hb17 : Below (w.alloc (.cells #[.int .i64 0, .slice none 0 0] 60)).heap.size (w.alloc (.cells #[.int .i64 0, .slice none 0 0] 60)) w7 := (by exact bel_by); have hX7 := HX.out.1.below hb17 HX.out.1.lt; have x0 := hX7.cell 0; have x1 := hX7.cell 1; have t0 := hX7.frozen 0; have t1 := hX7.frozen 1; simp at x0 x1)
    | fail)
   have hF := msg2 hX7 (.int .i64 0) (.slice none 0 0)
   have q0 := hF.cell 0
   have q1 := hF.cell 1
   simp at q0 q1
   exact bodyPost_ret (v := .tuple #[.agg #[.int .i64 0, .slice none 0 0], errV b7]) (by simp [results, Tryz.results24, go_sem, q0, q1, errV]) rfl ⟨msg_end (Nat.le_refl _) (HX.out.2.trans (hb17.mono HX.out.2.size)), .inr ⟨b7, _, 2, HE.out, rfl, msg_err hX7 hi7⟩⟩
  ·have hlong' : ¬ (32768 : Int) < pl.size := by omega
   have hl2 : ¬ 32768 < (c :: r).length := by omega
   cases hfs : forms c.toNat with
   | nil =>
    have HK := hide (fun W => known_any (pl[0].toNat : Nat) W)
    have hkn : known ((pl[0].toNat : Nat) : Int) = false := by rw [hg0]; unfold known; rw [hfs]; rfl
    rw [hkn] at HK
    have HE := hide (show decErr (decS (c :: r)) = some ([msgB], 6) from by rw [decS_none hl2 hfs]; rfl)
    have HOf := hide (fun W => fof_any ⟨#[109, 101, 115, 115, 97, 103, 101]⟩ 6 (by decide) W)
    unfold errV at HOf
    have HX := hide (And.intro hX0 hb0)
    clear hX0 hb0 hM hg0 hlong hkn hfs hl2
    go_enter Tryz.func24, Tryz.ntmps24
    go_wp2_with (first
     | (go_at_call 49; refine (HK.out _).mono ?_; rintro e w6 ⟨rfl, hb6⟩)
     | (go_at_call 48; refine (HOf.out _).mono ?_; rintro e w7 ⟨b7, rfl, hi7, hb7⟩; have hb17 : Below (w.alloc (.cells #[.int .i64 0, .slice none 0 0] 60)).heap.size (w.alloc (.cells #[.int .i64 0, .slice none 0 0] 60)) w7 := (by exact bel_by); have hX7 := HX.out.1.below hb17 HX.out.1.lt; have x0 := hX7.cell 0; have x1 := hX7.cell 1; have t0 := hX7.frozen 0; have t1 := hX7.frozen 1; simp at x0 x1)
     | fail)
    have hF := msg2 hX7 (.int .i64 0) (.slice none 0 0)
    have q0 := hF.cell 0
    have q1 := hF.cell 1
    simp at q0 q1
    exact bodyPost_ret (v := .tuple #[.agg #[.int .i64 0, .slice none 0 0], errV b7]) (by simp [results, Tryz.results24, go_sem, q0, q1, errV]) rfl ⟨msg_end (Nat.le_refl _) (HX.out.2.trans (hb17.mono HX.out.2.size)), .inr ⟨b7, _, 6, HE.out, rfl, msg_err hX7 hi7⟩⟩
   | cons f0 fs0 =>
    have HK := hide (fun W => known_any (pl[0].toNat : Nat) W)
    have hkn : known ((pl[0].toNat : Nat) : Int) = true := by rw [hg0]; unfold known; rw [hfs]; rfl
    rw [hkn] at HK
    have HFm := hide (fun W => forms_any (pl[0].toNat : Nat) W)
    have HWd := hide (fun W => word_any (pl[0].toNat : Nat) W)
    rw [hg0] at HFm HWd
    have hmem : ∀ f ∈ f0 :: fs0, f.size ≤ 13 ∧ ∀ x ∈ f.data.toList, x.toNat < 128 := fun f hf => form_ascii (n := (c.toNat : Nat)) (by rw [hfs]; exact hf)
    have Hmem := hide hmem
    have HOk := hide (fun l (h : firstF (f0 :: fs0) r = some l) => decS_of (c := c) (r := r) (l := l) (by omega) (by rw [hfs]; exact h))
    have HBad := hide (fun (h : firstF (f0 :: fs0) r = none) => decS_bad (c := c) (r := r) (f := f0) (fs := fs0) hl2 hfs (by rw [hfs]; exact h))
    rw [hfs] at HFm
    generalize hD : decS (c :: r) = D at HOk HBad ⊢
    clear hD hkn hmem
    have HRd := hide (fun (W : World) (f : ByteArray) (hf : f ∈ f0 :: fs0) (hW : MaxL W) => (read_anyM (w := W) pl f hpl hz (Hmem.out f hf).1 (Hmem.out f hf).2 hW).mono fun _ _ h => read_two h)
    rw [hcr] at HRd
    rw [show List.drop 1 (c :: r) = r from rfl] at HRd
    have HM := hide hM
    have Hg0 := hide hg0
    have HX := hide (And.intro hX0 hb0)
    have hfl : (f0 :: fs0).length ≤ 3 := by rw [← hfs]; exact forms_len _
    obtain ⟨fs, hfs1⟩ : ∃ fs, fs = f0 :: fs0 := ⟨_, rfl⟩
    have Hfs1 := hide hfs1
    rw [← hfs1] at hfl HFm HRd HOk HBad
    clear hfs1 hfs hg0 hX0 hb0 hM hlong hl2 hzl hcr hnil Hmem
    go_enter Tryz.func24, Tryz.ntmps24
    go_wp2_with (first
     | (go_at_call 49; refine (HK.out _).mono ?_; rintro e w6 ⟨rfl, hb6⟩)
     | (rw [Hg0.out]; go_at_call 50; refine (HFm.out _).mono ?_; rintro e w7 ⟨v7, rfl, ⟨fA, fc, rfl, hS7⟩, hb7⟩)
     | fail)
    have hb07 : Below (w.alloc (.cells #[.int .i64 0, .slice none 0 0] 60)).heap.size (w.alloc (.cells #[.int .i64 0, .slice none 0 0] 60)) w7 := by exact bel_by
    have HI0 := hide (show DecI w (c :: r) fs 0 .nilIface w7 ∧ Sl w6.heap.size w7 1 fA fs.length (fs.map Value.string) from ⟨⟨HX.out.2.trans (hb07.mono HX.out.2.size), HX.out.1.below hb07 HX.out.1.lt, rfl, fun h => absurd h (by omega)⟩, hS7⟩)
    have hw0 : IntKind.i64.wrap ((c.toNat : Nat) : Int) = (c.toNat : Nat) := wrap_small _ (by omega) (by have := c.toNat_lt; omega)
    have hwc : wrap64 ((c.toNat : Nat) : Int) = (c.toNat : Nat) := by rw [← Hg0.out]; exact hw64
    clear hS7 hb7 hb6 hb07 HFm HK hne hne2 hz1 hlong' hw64
    generalize w6.heap.size = lo at HI0
    rw [hwc]
    go_loopw [5, 35] (fun vf vi wr => ∃ j : Nat, vi = .int .i64 j ∧ j ≤ fs.length ∧ (j = 0 → vf = .nilIface) ∧ Hid (DecI w (c :: r) fs j vf wr ∧ Sl lo wr 1 fA fs.length (fs.map Value.string))) (fun _ vi _ => fs.length - (intOf vi).toNat)
    case atStart => exact ⟨0, rfl, Nat.zero_le _, fun _ => rfl, HI0⟩
    case round =>
     obtain ⟨j, rfl, hj, hj0, HI⟩ := hrel
     have hbr := HI.out.1.bel
     have hblk := HI.out.1.blk
     have hrest := HI.out.1.rest
     have hfirst := HI.out.1.first
     have hSl := HI.out.2
     by_cases hlt : j < fs.length
     ·obtain ⟨ad, rfl, had, hc⟩ := hSl.str hlt
      have hmj := List.getElem_mem hlt
      rw [List.drop_eq_getElem_cons hlt] at hrest
      have hfst : j = 0 → ∀ f q, fs = f :: q → fs[j] = f := fun e f q h => by subst e; simp [h]
      have HR := hide (HRd.out wr fs[j] hmj (HM.out.below hbr))
      have hnext := hide (fun (h : ∀ l, readFs fs[j].data.toList r 0 ≠ .ok l) => hrest.trans (firstF_no h))
      have hyes := hide (fun l (h : readFs fs[j].data.toList r 0 = .ok l) => HOk.out l (hrest.trans (firstF_of h)))
      have hzr : w.heap.size < wr.heap.size := hblk.lt
      have HS := hide (And.intro hblk (And.intro hbr hSl))
      have hre := hide (fun x (hx : readErr (readFs fs[j].data.toList r 0) = x) (e : j = 0) f q (h : fs = f :: q) => show readErr (readFs f.data.toList r 0) = x from by rw [← hfst e f q h]; exact hx)
      have Hfirst := hide hfirst
      have hj4 : j ≤ 3 := by omega
      generalize fs[j] = f at hc HR hnext hyes hre
      generalize readFs f.data.toList r 0 = R at HR hnext hyes hre
      clear hblk hbr hSl hrest hfirst hfst HI hmj HRd HOk HBad HX HWd
      go_wp2_with fail
      refine HR.out.mono ?_
      rintro e w2 ⟨hb2, (⟨l, A2, c2, hR2, rfl, hF2⟩ | ⟨b2, A2, n2, c2, ps, k, hR2, hn2, hps, rfl, hi2⟩)⟩
      ·have hx2 := HS.out.1.below hb2 HS.out.1.lt
       have x0 := hx2.cell 0
       have x1 := hx2.cell 1
       have t0 := hx2.frozen 0
       have t1 := hx2.frozen 1
       simp at x0 x1
       have HY := hide (hyes.out _ hR2)
       have HF := hide hF2
       clear hR2 hyes hnext hre hF2 HR
       go_wp2_with fail
       have hF := msg2 hx2 (.int .i64 (c.toNat : Nat)) (.slice A2 l.length c2)
       have q0 := hF.cell 0
       have q1 := hF.cell 1
       simp at q0 q1
       exact bodyPost_ret (v := .tuple #[.agg #[.int .i64 (c.toNat : Nat), .slice A2 l.length c2], .nilIface]) (by simp [results, Tryz.results24, go_sem, q0, q1]) rfl ⟨msg_end (Nat.le_refl _) (HS.out.2.1.trans (hb2.mono (Nat.le_of_lt hzr))), .inl ⟨c.toNat, l, A2, c2, HY.out, rfl, ((HF.out.setCell (p := ⟨w.heap.size, 0, none⟩) hzr _).setCell (p := ⟨w.heap.size, 1, none⟩) hzr _).mono (Nat.le_of_lt hzr)⟩⟩
      ·have HX2 := hide (And.intro (HS.out.1.below hb2 HS.out.1.lt) (And.intro (HS.out.2.1.trans (hb2.mono (Nat.le_of_lt hzr))) (HS.out.2.2.below hb2)))
       have HN := hide (hnext.out hn2)
       have HR2 := hide (hre.out _ hR2)
       have Hi2 := hide hi2
       have Hps := hide hps
       unfold errV
       clear hR2 hn2 hyes hnext hre hi2 HR hps
       rcases Nat.eq_zero_or_pos j with rfl | hjp
       ·obtain rfl := hj0 rfl
        go_wp2_with fail
        exact ⟨⟨1, by go_num, by omega, fun h => absurd h (by omega), hide ⟨⟨HX2.out.2.1, HX2.out.1, HN.out, fun _ => ⟨b2, ps, k, rfl, Hi2.out, Hps.out, fun f q h => HR2.out (by first | rfl | trivial) f q h⟩⟩, HX2.out.2.2⟩⟩, by simp [intOf]; omega⟩
       ·have hj1 : ((j : Int) == 0) = false := by rw [beq_eq_false_iff_ne]; omega
        have Hj := hide (Hfirst.out hjp)
        clear hj0
        go_wp2_with fail
        refine ⟨⟨j + 1, by go_num, by omega, fun h => absurd h (by omega), hide ⟨⟨HX2.out.2.1, HX2.out.1, HN.out, fun _ => ?_⟩, HX2.out.2.2⟩⟩, by simp [intOf]; omega⟩
        obtain ⟨b, ps, k, e1, h1, h2, h3⟩ := Hj.out
        exact ⟨b, ps, k, e1, h1.below hb2, h2, h3⟩
     ·have hjl : j = fs.length := by omega
      subst hjl
      have hpos : 0 < fs.length := by rw [Hfs1.out]; simp
      obtain ⟨b, ps, k, rfl, hi, hps, hq⟩ := hfirst hpos
      have HE := hide (show decErr D = some ((word (c.toNat : Nat)).data.toList :: ps, k) from by
       rw [HBad.out (hrest.trans (by rw [List.drop_length]; rfl))]
       show Option.map _ (readErr (readFs f0.data.toList (List.drop 1 (c :: r)) 0)) = _
       rw [hq _ _ Hfs1.out]
       rfl)
      have HAt := hide (fun (W : World) (h : IsErr W (errV b) ps k) => fat_any (word (c.toNat : Nat)) b h)
      have Hi := hide hi
      have HS := hide (And.intro hblk hbr)
      have hzr : w.heap.size < wr.heap.size := hblk.lt
      unfold errV at HAt ⊢
      clear hblk hbr hrest hfirst hq hi hSl HI HRd HOk HBad HX hj0
      go_wp2_with (first
       | (go_at_call 53; refine (HWd.out _).mono ?_; rintro e w5 ⟨rfl, rfl⟩)
       | (go_at_call 52; refine (HAt.out _ Hi.out).mono ?_; rintro e w7 ⟨b7, rfl, hi7, hb7⟩; have hX7 := HS.out.1.below hb7 HS.out.1.lt; have x0 := hX7.cell 0; have x1 := hX7.cell 1; have t0 := hX7.frozen 0; have t1 := hX7.frozen 1; simp at x0 x1)
       | fail)
      have hF := msg2 hX7 (.int .i64 0) (.slice none 0 0)
      have q0 := hF.cell 0
      have q1 := hF.cell 1
      simp at q0 q1
      exact bodyPost_ret (v := .tuple #[.agg #[.int .i64 0, .slice none 0 0], errV b7]) (by simp [results, Tryz.results24, go_sem, q0, q1, errV]) rfl ⟨msg_end (Nat.le_refl _) (HS.out.2.trans (hb7.mono (Nat.le_of_lt hzr))), .inr ⟨b7, _, k, HE.out, rfl, msg_err hX7 hi7⟩⟩
end
end Go.Proofs.YtmgfcjpifkoahaaGreatDoor
