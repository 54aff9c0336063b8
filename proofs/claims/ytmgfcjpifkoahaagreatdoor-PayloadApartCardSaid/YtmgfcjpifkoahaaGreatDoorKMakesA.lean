/-
  Several of my texts in one: Makes, Few, Data, DataS.
-/
import Derived.Test.YtmgfcjpifkoahaaGreatDoorKMkS
import Derived.Deep.RegionHeld3
import Derived.Deep.DeepCutAuto
set_option linter.unusedVariables false
set_option linter.unusedSimpArgs false
/-
  The contract of the law's Makes: terms one behind the other. Conditions: numbers fit.
-/
namespace Go.Proofs.YtmgfcjpifkoahaaGreatDoor
open Go.RowKit Go.ChangeShapes Go.WideShapes

theorem Grown.outs {S S' : Nat → Prop} {w w' : World} (h : Grown S w S' w') : Outs S w w' := ⟨h.os, h.tape, h.output, h.size, h.block⟩
structure MdO (B0 : Nat) (w : World) (T : List Tm) (ms : List (Option Tm)) (v1 v2 : Value) (S : Nat → Prop) : Prop where
 ids : ∃ ns, w.ownsRow B0 25 1 v1 ms.length (ns.map (Value.int .i64)) ∧ Idns T ms ns
 txs : w.ownsRow B0 9 1 v2 ms.length (((ms.map txt).map bs).map Value.string)
 o1 : ∀ i, v1.ownBlock = some i → ¬ S i
 o2 : ∀ i, v2.ownBlock = some i → ¬ S i
section
variable {B0 : Nat} {w w' : World} {T T' : List Tm} {ms : List (Option Tm)} {v1 v2 : Value} {S S' : Nat → Prop}
theorem MdO.md (h : MdO B0 w T ms v1 v2 S) : Md w T ms v1 v2 := by
 obtain ⟨⟨ns, h1, h2⟩, h3, _, _⟩ := h
 exact ⟨⟨ns, own_ids h2.1.symm h1, h2⟩, own_txs h3 (by simp)⟩
theorem MdO.grown (h : MdO B0 w T ms v1 v2 S) (hg : Grown S w S' w') (hp : T <+: T') : MdO B0 w' T' ms v1 v2 S' := by
 obtain ⟨⟨ns, h1, h2⟩, h3, h4, h5⟩ := h
 refine ⟨⟨ns, hg.outs.own h1 h4, h2.pre hp⟩, hg.outs.own h3 h5, fun i hi hs => ?_, fun i hi hs => ?_⟩
 ·rcases hg.new i hs with h6 | h6
  ·exact h4 i hi h6
  ·have := (h1.lt i hi).2
   omega
 ·rcases hg.new i hs with h6 | h6
  ·exact h5 i hi h6
  ·have := (h3.lt i hi).2
   omega
end
def mkC (x : Mk) : List Value := [.int .i64 x.k, .int .i64 x.a, .int .i64 x.b, .int .i64 x.c, .string x.s]
structure Mks (lo : Nat) (w : World) (A : Option Addr) (l : List Mk) : Prop where
 at_ : ∀ (i : Nat) (x : Mk), l[i]? = some x → ∃ ad, A = some ad ∧ ad.block < lo ∧ ad.block < w.heap.size ∧ w.cell? (ad.add (i * 5)) = some (.int .i64 x.k) ∧ w.cell? ((ad.add (i * 5)).add 1) = some (.int .i64 x.a) ∧ w.cell? ((ad.add (i * 5)).add 2) = some (.int .i64 x.b) ∧ w.cell? ((ad.add (i * 5)).add 3) = some (.int .i64 x.c) ∧ w.cell? ((ad.add (i * 5)).add 4) = some (.string x.s)
theorem Mks.outs {lo : Nat} {w w' : World} {A : Option Addr} {l : List Mk} {R : Nat → Prop} (h : Mks lo w A l) (ho : Outs R w w') (hR : ∀ i, R i → lo ≤ i) : Mks lo w' A l := by
 refine ⟨fun i x hx => ?_⟩
 obtain ⟨ad, e, h1, h2, c0, c1, c2, c3, c4⟩ := h.at_ i x hx
 have nr : ¬ R ad.block := fun hc => by have := hR _ hc; omega
 have key : ∀ p : Addr, p.block = ad.block → ∀ v, w.cell? p = some v → w'.cell? p = some v := fun p hp v hv => ho.cell hv (by rw [hp]; exact nr)
 exact ⟨ad, e, h1, Nat.lt_of_lt_of_le h2 ho.size, key _ (by rw [block_of_add]) _ c0, key _ (by rw [block_of_add, block_of_add]) _ c1, key _ (by rw [block_of_add, block_of_add]) _ c2, key _ (by rw [block_of_add, block_of_add]) _ c3, key _ (by rw [block_of_add, block_of_add]) _ c4⟩
theorem makes_fine {l : List Mk} (hs : ∀ x ∈ l, x.s.size ≤ 1000000) : ∀ o ∈ makes l, fineO o := by
 have key : ∀ n, n ≤ l.length → ∀ o ∈ makes (l.take n), fineO o := by
  intro n
  induction n with
  | zero => intro _ o ho; simp [makes] at ho
  | succ n ih =>
   intro hn o ho
   rw [List.take_succ_eq_append_getElem hn, makes_snoc] at ho
   rcases List.mem_append.1 ho with ho | ho
   ·exact ih (by omega) o ho
   ·rw [List.mem_singleton] at ho
    subst ho
    exact mkO_fine (ih (by omega)) _ (by have := hs _ (List.getElem_mem hn); omega)
 have := key l.length (Nat.le_refl _)
 rwa [List.take_length] at this
def MadeP (B : Nat) (w : World) (g : Nat) (T : List Tm) (S : Nat → Prop) (l : List Mk) (e : Ending) (w' : World) : Prop :=
 ∃ T' S' v1 v2, e = .returned (.agg #[v1, v2]) ∧ MdO w.heap.size w' T' (makes l) v1 v2 S' ∧ T <+: T' ∧ T'.length ≤ T.length + l.length ∧ Ar B w' g T' S' ∧ Grown S w S' w'
structure MkI (B : Nat) (w : World) (g : Nat) (T : List Tm) (S : Nat → Prop) (l : List Mk) (i : Nat) (wr : World) (T' : List Tm) (S' : Nat → Prop) (v1 v2 : Value) : Prop where
 ar : Ar B wr g T' S'
 grown : Grown S w S' wr
 pre : T <+: T'
 few : T'.length ≤ T.length + i
 md : MdO w.heap.size wr T' (makes (l.take i)) v1 v2 S'
 blk : Blk wr (w.heap.size + 1) 37 #[v1, v2]
 rblk : Blk wr w.heap.size 37 #[.slice none 0 0, .slice none 0 0]
 nm : ¬ S' (w.heap.size + 1)
 nr : ¬ S' w.heap.size
theorem Grown.keepNew {S S2 : Nat → Prop} {w wx wz : World} {row : Option Nat} (h : Grown S w S2 wx) (k : wx.grownBy wz row) (hr : ∀ b, row = some b → w.heap.size ≤ b) : Grown S w S2 wz :=
 ⟨k.os.trans h.os, k.tape.trans h.tape, k.output.trans h.output, Nat.le_trans h.size k.size, fun i hi hn => (k.block i (Nat.lt_of_lt_of_le hi h.size) (fun e => by have := hr i e.symm; omega)).trans (h.block i hi hn), h.sub, h.new⟩
theorem at_new {v v' : Value} {S : Nat → Prop} {n : Nat} (h : v'.ownBlock = v.ownBlock ∨ v'.ownBlock = some n) (hv : ∀ i, v.ownBlock = some i → ¬ S i) (hn : ∀ i, S i → i < n) : ∀ i, v'.ownBlock = some i → ¬ S i := by
 intro i hi hs
 rcases h with h | h
 ·exact hv i (h.symm.trans hi) hs
 ·rw [h] at hi
  cases hi
  have := hn _ hs
  omega
structure Kp (B : Nat) (w : World) (g : Nat) (T : List Tm) (S0 S : Nat → Prop) (W : World) : Prop where
 ar : Ar B W g T S
 grown : Grown S0 w S W
theorem Kp.step {B g : Nat} {w wx W : World} {T : List Tm} {S0 S : Nat → Prop} {row : Option Nat} (h : Kp B w g T S0 S wx) (k : wx.grownBy W row) (hr : ∀ b, row = some b → w.heap.size ≤ b ∧ ¬ S b) : Kp B w g T S0 S W :=
 ⟨h.ar.kept k fun b e => (hr b e).2, h.grown.keepNew k fun b e => (hr b e).1⟩
def Rnd (B : Nat) (wr : World) (g : Nat) (T : List Tm) (S : Nat → Prop) (o : Option Tm) (v7 v8 : Value) (wx : World) : Prop :=
 ∃ T' n S', v7 = .int .i64 n ∧ v8 = .string (bs (txt o)) ∧ Put T o T' n ∧ Ar B wx g T' S' ∧ Grown S wr S' wx
section
variable {B g : Nat} {w : World} {T : List Tm} {S : Nat → Prop}
set_option maxHeartbeats 4000000 in
set_option maxRecDepth 100000 in
theorem makes_any (h : Use B w g T S) {A : Option Addr} {c : Nat} {l : List Mk} (hl : Mks B w A l) (hll : l.length ≤ 1000000) (hs : ∀ x ∈ l, x.s.size ≤ 1000000) (hT : T.length + l.length ≤ 1000000000) :
  Calls Tryz.prog 14 #[.pointer (some ⟨g, 0, none⟩), .slice A l.length c] w (MadeP B w g T S l) := by
 have HU := hide h
 have HL := hide hl
 have Hs := hide hs
 have hSL := h.ar.sL
 have hBw := h.base
 clear h hl hs
 go_enter Tryz.func14, Tryz.ntmps14
 go_wp2_with fail
 have hb0 := (Below.refl w.heap.size w).alloc (Nat.le_refl _) (.cells #[.slice none 0 0, .slice none 0 0] 37)
 have hb1 := hb0.alloc (by simp) (.cells #[.slice none 0 0, .slice none 0 0] 37)
 have hI0 : MkI B w g T S l 0 ((w.alloc (.cells #[.slice none 0 0, .slice none 0 0] 37)).alloc (.cells #[.slice none 0 0, .slice none 0 0] 37)) T S (.slice none 0 0) (.slice none 0 0) :=
  ⟨HU.out.ar.below hb1, Grown.of_below hb1, List.prefix_refl _, Nat.le_refl _, ⟨⟨[], World.ownsRow_nil _ _ _ _, idns_nil _⟩, World.ownsRow_nil _ _ _ _, fun i hi => by simp [Value.ownBlock] at hi, fun i hi => by simp [Value.ownBlock] at hi⟩,
   by simpa using Blk.new (w.alloc (.cells #[.slice none 0 0, .slice none 0 0] 37)) 37 #[.slice none 0 0, .slice none 0 0], (Blk.new w _ _).alloc _, fun hc => by have := hSL _ hc; omega, fun hc => by have := hSL _ hc; omega⟩
 have HI0 := hide hI0
 clear hb0 hb1 hI0
 go_loopw [6] (fun vi wr => ∃ (i : Nat) (T' : List Tm) (S' : Nat → Prop) (v1 v2 : Value), vi = .int .i64 i ∧ i ≤ l.length ∧ MkI B w g T S l i wr T' S' v1 v2) (fun vi _ => l.length - (intOf vi).toNat)
 case atStart => exact ⟨0, T, S, _, _, rfl, Nat.zero_le _, HI0.out⟩
 case round =>
  obtain ⟨i, T', S', v1, v2, rfl, hi, hI⟩ := hrel
  have HI := hide hI
  have hbw := hI.grown.size
  obtain ⟨ns0, ho1, hn0⟩ := hI.md.ids
  have hml : (makes (l.take i)).length = i := by rw [makes_len, List.length_take]; omega
  obtain ⟨A1, c1, hv1⟩ := own_sl ho1
  obtain ⟨A2, c2, hv2⟩ := own_sl hI.md.txs
  rw [hml] at hv1 hv2
  subst hv1 hv2
  have hml2 : (makes (l.take i)).length ≤ 1000000 := by omega
  have Hml := hide hml
  clear hml
  have m0 : wr.cell? ⟨w.heap.size + 1, 0, none⟩ = some (.slice A1 i c1) := hI.blk.cell 0
  have m1 : wr.cell? ⟨w.heap.size + 1, 1, none⟩ = some (.slice A2 i c2) := hI.blk.cell 1
  by_cases hlt : i < l.length
  ·have hii : (i : Int) < l.length := by omega
   have hUr : Use B wr g T' S' := HU.out.grown hI.grown hI.ar (by have := hI.few; omega)
   obtain ⟨ad, rfl, hab, hab2, d0, d1, d2, d3, d4⟩ := (HL.out.outs hI.grown.outs HU.out.ar.sB).at_ i l[i] (List.getElem?_eq_getElem hlt)
   have hsz := Hs.out _ (List.getElem_mem hlt)
   obtain ⟨x, hx⟩ : ∃ x, x = l[i] := ⟨_, rfl⟩
   rw [← hx] at d0 d1 d2 d3 d4 hsz
   have hfin : ∀ o ∈ makes (l.take i), fineO o := makes_fine fun y hy => Hs.out y (List.mem_of_mem_take hy)
   have HID := hide (fun (W : World) (hb : Below wr.heap.size wr W) => (mid_any (hUr.below hb) (hI.md.md.below hb) x.k x.a x.b x.c x.s hsz hml2).mono fun e w9 hd => hd.from_ hb)
   have HTX := hide (fun (W : World) (hm : Md W T' (makes (l.take i)) (.slice A1 i c1) (.slice A2 i c2)) => mtext_any hm hfin x.k x.a x.b x.c x.s hsz hml2)
   have nad : ¬ S' (ad.add (i * 5)).block := fun hc => by
    have := hI.ar.sB _ hc
    rw [block_of_add] at this
    omega
   have d1' : wr.cell? ⟨(ad.add (i * 5)).block, (ad.add (i * 5)).off + 1, none⟩ = some (.int .i64 x.a) := d1
   have d2' : wr.cell? ⟨(ad.add (i * 5)).block, (ad.add (i * 5)).off + 2, none⟩ = some (.int .i64 x.b) := d2
   have d3' : wr.cell? ⟨(ad.add (i * 5)).block, (ad.add (i * 5)).off + 3, none⟩ = some (.int .i64 x.c) := d3
   have d4' : wr.cell? ⟨(ad.add (i * 5)).block, (ad.add (i * 5)).off + 4, none⟩ = some (.string x.s) := d4
   have KG := hide (fun (W1 W : World) (S2 : Nat → Prop) (hG : Grown S' wr S2 W1) (hb : Below W1.heap.size W1 W) => (⟨cellB hb (hG.outs.cell m0 hI.nm), cellB hb (hG.outs.cell m1 hI.nm), cellB hb (hG.outs.cell d0 nad), cellB hb (hG.outs.cell d1' nad), cellB hb (hG.outs.cell d2' nad), cellB hb (hG.outs.cell d3' nad), cellB hb (hG.outs.cell d4' nad)⟩ :
    W.cell? ⟨w.heap.size + 1, 0, none⟩ = some (.slice A1 i c1) ∧ W.cell? ⟨w.heap.size + 1, 1, none⟩ = some (.slice A2 i c2) ∧ W.cell? (ad.add (i * 5)) = some (.int .i64 x.k) ∧ W.cell? ⟨(ad.add (i * 5)).block, (ad.add (i * 5)).off + 1, none⟩ = some (.int .i64 x.a) ∧ W.cell? ⟨(ad.add (i * 5)).block, (ad.add (i * 5)).off + 2, none⟩ = some (.int .i64 x.b) ∧ W.cell? ⟨(ad.add (i * 5)).block, (ad.add (i * 5)).off + 3, none⟩ = some (.int .i64 x.c) ∧ W.cell? ⟨(ad.add (i * 5)).block, (ad.add (i * 5)).off + 4, none⟩ = some (.string x.s)))
   have MG := hide (fun (W1 W : World) (S2 : Nat → Prop) (hG : Grown S' wr S2 W1) (hb : Below W1.heap.size W1 W) => (hI.md.grown hG (List.prefix_refl T')).md.below hb)
   have K0 := hide (fun (W : World) (hb : Below wr.heap.size wr W) => KG.out wr W S' (Grown.refl _ _) hb)
   have M0 := hide (fun (W : World) (hb : Below wr.heap.size wr W) => MG.out wr W S' (Grown.refl _ _) hb)
   have hiw : i < 9223372036854775807 := by omega
   have hI' := hide hI
   have Hx := hide hx
   clear d1 d2 d3 d4 hUr hfin ho1 hn0 hI hx hml2
   generalize hmk : makes (l.take i) = mk at HID HTX MG M0 Hml ⊢
   have Hmk := hide hmk
   clear hmk
   go_upto_region 5 with fail
   go_cut [7, 8] (fun v7 v8 wx => Rnd B wr g T' S' (mkO mk x) v7 v8 wx)
   case first =>
    as_aux_lemma =>
    go_region_held3 (fun W => W.cell? ⟨w.heap.size + 1, 0, none⟩ = some (.slice A1 i c1) ∧ W.cell? ⟨w.heap.size + 1, 1, none⟩ = some (.slice A2 i c2) ∧ W.cell? (ad.add (i * 5)) = some (.int .i64 x.k) ∧ W.cell? ⟨(ad.add (i * 5)).block, (ad.add (i * 5)).off + 1, none⟩ = some (.int .i64 x.a) ∧ W.cell? ⟨(ad.add (i * 5)).block, (ad.add (i * 5)).off + 2, none⟩ = some (.int .i64 x.b) ∧ W.cell? ⟨(ad.add (i * 5)).block, (ad.add (i * 5)).off + 3, none⟩ = some (.int .i64 x.c) ∧ W.cell? ⟨(ad.add (i * 5)).block, (ad.add (i * 5)).off + 4, none⟩ = some (.string x.s))
     (first | (refine K0.out _ ?_; (repeat (first | exact Below.refl _ _ | refine below_drewN ?_ _ | refine Below.drew ?_ | refine Below.alloc ?_ (by first | omega | (simp; done) | (simp; omega)) _ | refine Below.setCell ?_ (by first | omega | (simp; done) | (simp; omega)) _ | refine bel_alloc ?_ _ | refine bel_trans ?_ (by assumption) | refine Below.trans ?_ (Below.mono (by assumption) (by first | omega | (simp; done) | (simp; omega))))); done) | (refine KG.out w1 _ _ hG ?_; (repeat (first | exact Below.refl _ _ | refine below_drewN ?_ _ | refine Below.drew ?_ | refine Below.alloc ?_ (by first | omega | (simp; done) | (simp; omega)) _ | refine Below.setCell ?_ (by first | omega | (simp; done) | (simp; omega)) _ | refine bel_alloc ?_ _ | refine bel_trans ?_ (by assumption) | refine Below.trans ?_ (Below.mono (by assumption) (by first | omega | (simp; done) | (simp; omega))))); done))
     (first
     | (go_at_call 34; refine (HID.out _ (by exact bel_by)).mono ?_; rintro e w1 ⟨T2, n2, S2, rfl, hp, hA2, hG⟩)
     | (go_at_call 35; refine (HTX.out _ (by first | (refine M0.out _ ?_; (repeat (first | exact Below.refl _ _ | refine below_drewN ?_ _ | refine Below.drew ?_ | refine Below.alloc ?_ (by first | omega | (simp; done) | (simp; omega)) _ | refine Below.setCell ?_ (by first | omega | (simp; done) | (simp; omega)) _ | refine bel_alloc ?_ _ | refine bel_trans ?_ (by assumption) | refine Below.trans ?_ (Below.mono (by assumption) (by first | omega | (simp; done) | (simp; omega))))); done) | (refine MG.out w1 _ _ hG ?_; (repeat (first | exact Below.refl _ _ | refine below_drewN ?_ _ | refine Below.drew ?_ | refine Below.alloc ?_ (by first | omega | (simp; done) | (simp; omega)) _ | refine Below.setCell ?_ (by first | omega | (simp; done) | (simp; omega)) _ | refine bel_alloc ?_ _ | refine bel_trans ?_ (by assumption) | refine Below.trans ?_ (Below.mono (by assumption) (by first | omega | (simp; done) | (simp; omega))))); done))).mono ?_; rintro e w2 ⟨rfl, hb2⟩))
    all_goals go_wp2_with fail
    all_goals go_meet
    all_goals first | exact ⟨_, _, _, rfl, rfl, hp, hA2, hG⟩ | (refine ⟨_, _, _, rfl, rfl, hp, hA2.below ?_, hG.trans (Grown.of_below ?_)⟩ <;> ((repeat (first | exact Below.refl _ _ | refine below_drewN ?_ _ | refine Below.drew ?_ | refine Below.alloc ?_ (by first | omega | (simp; done) | (simp; omega)) _ | refine Below.setCell ?_ (by first | omega | (simp; done) | (simp; omega)) _ | refine bel_alloc ?_ _ | refine bel_trans ?_ (by assumption) | refine Below.trans ?_ (Below.mono (by assumption) (by first | omega | (simp; done) | (simp; omega))))); done))
   case rest =>
    obtain ⟨wx, rfl⟩ : ∃ wx : World, wx = wc := ⟨wc, rfl⟩
    obtain ⟨T2, n2, S2, rfl, rfl, hp, hA2, hG⟩ := hcut
    have hml : (makes (l.take i)).length = i := by rw [makes_len, List.length_take]; omega
    have hI := hI'.out
    have hmd := hI.md.grown hG hp.pre
    obtain ⟨ns, ho1, hidn⟩ := hmd.ids
    have ho2 := hmd.txs
    have ho1n := hmd.o1
    have ho2n := hmd.o2
    rw [hml] at ho1 ho2
    have hblk := hG.outs.blk hI.blk hI.nm
    have hrblk := hG.outs.blk hI.rblk hI.nr
    have hblt := hI.blk.lt
    have hnm : ¬ S2 (w.heap.size + 1) := fun hc => by
     rcases hG.new _ hc with h9 | h9
     ·exact hI.nm h9
     ·omega
    have hnr : ¬ S2 w.heap.size := fun hc => by
     rcases hG.new _ hc with h9 | h9
     ·exact hI.nr h9
     ·omega
    have hKp : Kp B w g T2 S S2 wx := ⟨hA2, hI.grown.trans hG⟩
    have hSx := hA2.sL
    have hidn2 := hidn.snoc hp.idn
    have hsn : makes (l.take (i + 1)) = makes (l.take i) ++ [mkO mk x] := by
     rw [List.take_succ_eq_append_getElem hlt, makes_snoc, Hmk.out, Hx.out]
    have hbx := hG.size
    have hlo1 := fun i hi => (ho1.lt i hi).1
    have hlo2 := fun i hi => (ho2.lt i hi).1
    have hlen2 : T2.length ≤ T.length + (i + 1) := by have := hp.len; have := hI.few; omega
    have hpre2 : T <+: T2 := hI.pre.trans hp.pre
    have HX := hide (And.intro hidn2 (And.intro hsn (And.intro hlen2 (And.intro hpre2 (And.intro ho1n (And.intro ho2n (And.intro hnm (And.intro hnr (And.intro hKp (And.intro hSx hml))))))))))
    obtain ⟨iI, hiI, hI0, hI1, hI2⟩ := info_parts infoIDr
    obtain ⟨iS, hiS, hS0, hS1, hS2⟩ := info_parts infoStr
    have p0 : wx.cell? ⟨w.heap.size + 1, 0, none⟩ = some (.slice A1 i c1) := hblk.cell 0
    have f0 := hblk.frozen 0
    have ne1 := own_blk_ne ho1 hblk (by decide)
    have ne2 := own_blk_ne ho2 hblk (by decide)
    clear hidn hidn2 hsn hlen2 hpre2 ho1n ho2n hnm hnr hKp hSx hml hI hmd hA2 hG hp m0 m1 d0 d1' d2' d3' d4' KG MG K0 M0 HID HTX nad
    generalize mkO mk x = o at HX ⊢
    generalize makes (l.take i) = mi at HX ho1 ho2 ne1 ne2
    go_wp2_with (first
     | (at_builtin; refine wpList_append_any _ rfl (.tmp 29) (.tmp 31) _ rfl w.heap.size 25 iI (.int .i64 0) 1 8 Tryz.underlying34 hiI hI0 hI1 hI2 rfl (by decide) _ _ _ rfl (ho1.alloc _) _ (some ⟨_, 0, none⟩) 1 1 [.int .i64 n2] rfl (reads_blk (Blk.new _ _ _) rfl) (by simp [Value.oneCell']) (by unfold maxLen; omega) (by omega) (by simp; omega) ?_; intro v6 w6 hown6 hgr6 hor6; have hB6 := (hblk.alloc (.cells #[.int .i64 n2] 25)).grown hgr6 (Ne.symm ne1); have hs6 : w.heap.size + 1 < w6.heap.size := hB6.lt; have p6 : w6.cell? ⟨w.heap.size + 1, 0, none⟩ = some (.slice A1 i c1) := hB6.cell 0; have q6 : w6.cell? ⟨w.heap.size + 1, 1, none⟩ = some (.slice A2 i c2) := hB6.cell 1; have f6 := hB6.frozen 0; have g6 := hB6.frozen 1; obtain ⟨A6, c6, rfl⟩ := own_sl hown6; have hB6' := hB6.set_ 0 (.slice A6 (i + 1) c6); have r6 : (w6.setCell ⟨w.heap.size + 1, 0, none⟩ (.slice A6 (i + 1) c6)).cell? ⟨w.heap.size + 1, 1, none⟩ = some (.slice A2 i c2) := hB6'.cell 1; have ho26 := (ho2.alloc (.cells #[.int .i64 n2] 25)).kept hgr6 (ne_row (own_ne ho2 ho1 (by decide))); have ho26' := own_set_ ho26 hB6 (by decide) 0 (.slice A6 (i + 1) c6); have ho16' := own_set_ hown6 hB6 (by decide) 0 (.slice A6 (i + 1) c6))
     | (at_builtin; refine wpList_append_any _ rfl (.tmp 35) (.tmp 37) _ rfl w.heap.size 9 iS (.string ⟨#[]⟩) 1 16 Tryz.underlying35 hiS hS0 hS1 hS2 rfl (by decide) _ _ _ rfl (ho26'.alloc _) _ (some ⟨_, 0, none⟩) 1 1 [.string (bs (txt o))] rfl (reads_blk (show Blk ((w6.setCell ⟨w.heap.size + 1, 0, none⟩ (.slice A6 (i + 1) c6)).alloc (.cells #[.string (bs (txt o))] 9)) w6.heap.size 9 #[.string (bs (txt o))] from by simpa only [World.size_setCell] using Blk.new (w6.setCell ⟨w.heap.size + 1, 0, none⟩ (.slice A6 (i + 1) c6)) 9 #[.string (bs (txt o))]) rfl) (by simp [Value.oneCell']) (by unfold maxLen; omega) (by omega) (by simp [World.setCell]; omega) ?_; intro v7 w7 hown7 hgr7 hor7; have hB7 := (hB6'.alloc (.cells #[.string (bs (txt o))] 9)).grown hgr7 (Ne.symm ne2); have f7 := hB7.frozen 1; have q7 : w7.cell? ⟨w.heap.size + 1, 1, none⟩ = some (.slice A2 i c2) := hB7.cell 1; obtain ⟨A7, c7, rfl⟩ := own_sl hown7)
     | fail)
    obtain ⟨hidn2, hsn, hlen2, hpre2, ho1n, ho2n, hnm, hnr, hKp, hSx, hml⟩ := HX.out
    have hB7' := hB7.set_ 1 (.slice A7 (i + 1) c7)
    have hbz : w.heap.size < wx.heap.size := by omega
    have k1 := hKp.step (only_alloc (only_refl wx none) (.cells #[.int .i64 n2] 25)) (fun b e => by cases e)
    have k2 := k1.step hgr6 (fun b e => ⟨(ho1.lt b e).1, ho1n b e⟩)
    have k3 := k2.step (only_setCell (only_refl w6 (some (w.heap.size + 1))) (p := ⟨w.heap.size + 1, 0, none⟩) (.inl rfl) (.slice A6 (i + 1) c6)) (fun b e => by cases e; exact ⟨by omega, hnm⟩)
    have k4 := k3.step (only_alloc (only_refl _ none) (.cells #[.string (bs (txt o))] 9)) (fun b e => by cases e)
    have k5 := k4.step hgr7 (fun b e => ⟨(ho2.lt b e).1, ho2n b e⟩)
    have k6 := k5.step (only_setCell (only_refl w7 (some (w.heap.size + 1))) (p := ⟨w.heap.size + 1, 1, none⟩) (.inl rfl) (.slice A7 (i + 1) c7)) (fun b e => by cases e; exact ⟨by omega, hnm⟩)
    have ho17 := (ho16'.alloc (.cells #[.string (bs (txt o))] 9)).kept hgr7 (ne_row (own_ne ho16' ho26' (by decide)))
    have ho17' := own_set_ ho17 hB7 (by decide) 1 (.slice A7 (i + 1) c7)
    have ho27' := own_set_ hown7 hB7 (by decide) 1 (.slice A7 (i + 1) c7)
    have hr6 := (hrblk.alloc (.cells #[.int .i64 n2] 25)).grown hgr6 (Ne.symm (own_blk_ne ho1 hrblk (by decide)))
    have hr7 := ((hr6.far (p := ⟨w.heap.size + 1, 0, none⟩) (by simp) (.slice A6 (i + 1) c6)).alloc (.cells #[.string (bs (txt o))] 9)).grown hgr7 (Ne.symm (own_blk_ne ho2 hrblk (by decide)))
    have hsl : (makes (l.take (i + 1))).length = i + 1 := by rw [hsn, List.length_append, hml]; rfl
    refine ⟨⟨i + 1, T2, S2, .slice A6 (i + 1) c6, .slice A7 (i + 1) c7, by go_num, by omega, k6.ar, k6.grown, hpre2, hlen2, ⟨⟨ns ++ [n2], ?_, ?_⟩, ?_, ?_, ?_⟩, ?_, ?_, hnm, hnr⟩, by simp [intOf]; omega⟩
    ·rw [hsl]; simpa using ho17'
    ·rw [hsn]; exact hidn2
    ·rw [hsl, hsn]; simpa using ho27'
    ·exact at_new hor6 ho1n (fun i hi => by have := hSx i hi; simp; omega)
    ·exact at_new hor7 ho2n (fun i hi => by have := hSx i hi; have := hgr6.size; simp [World.size_setCell] at *; omega)
    ·simpa using hB7'
    ·exact hr7.far (p := ⟨w.heap.size + 1, 1, none⟩) (by simp) (.slice A7 (i + 1) c7)
  ·obtain rfl : i = l.length := by omega
   rw [List.take_length] at *
   have hmd := HI.out.md
   have hr0 : wr.cell? ⟨w.heap.size, 0, none⟩ = some (.slice none 0 0) := HI.out.rblk.cell 0
   have hr1 : wr.cell? ⟨w.heap.size, 1, none⟩ = some (.slice none 0 0) := HI.out.rblk.cell 1
   have fr0 := HI.out.rblk.frozen 0
   have fr1 := HI.out.rblk.frozen 1
   go_wp2
   clear HU HL Hs HI0 m0 m1 ho1 hn0
   obtain ⟨⟨ns, oo1, hidn⟩, oo2, on1, on2⟩ := hmd
   have hrb := HI.out.rblk
   have hb1 := hrb.set_ 0 (.slice A1 l.length c1)
   have hb2 := hb1.set_ 1 (.slice A2 l.length c2)
   have s1 := own_set_ oo1 hrb (by decide) 0 (.slice A1 l.length c1)
   have s1' := own_set_ s1 hb1 (by decide) 1 (.slice A2 l.length c2)
   have s2 := own_set_ oo2 hrb (by decide) 0 (.slice A1 l.length c1)
   have s2' := own_set_ s2 hb1 (by decide) 1 (.slice A2 l.length c2)
   have kk : Kp B w g T' S S' wr := ⟨HI.out.ar, HI.out.grown⟩
   have k1 := kk.step (only_setCell (only_refl wr (some w.heap.size)) (p := ⟨w.heap.size, 0, none⟩) (.inl rfl) (.slice A1 l.length c1)) (fun b e => by cases e; exact ⟨Nat.le_refl _, HI.out.nr⟩)
   have k2 := k1.step (only_setCell (only_refl _ (some w.heap.size)) (p := ⟨w.heap.size, 1, none⟩) (.inl rfl) (.slice A2 l.length c2)) (fun b e => by cases e; exact ⟨Nat.le_refl _, HI.out.nr⟩)
   have HP : MadeP B w g T S l (.returned (.agg #[.slice A1 l.length c1, .slice A2 l.length c2])) ((wr.setCell ⟨w.heap.size, 0, none⟩ (.slice A1 l.length c1)).setCell ⟨w.heap.size, 1, none⟩ (.slice A2 l.length c2)) :=
    ⟨T', S', _, _, rfl, ⟨⟨ns, by simpa [List.take_length] using s1', by simpa [List.take_length] using hidn⟩, by simpa [List.take_length] using s2', on1, on2⟩, HI.out.pre, HI.out.few, k2.ar, k2.grown⟩
   have q0 := hb2.cell 0
   have q1 := hb2.cell 1
   clear hb1 hb2 hrb s1 s1' s2 s2' kk k1 k2 oo1 oo2 on1 on2 hidn hr0 hr1 fr0 fr1
   generalize (wr.setCell ⟨w.heap.size, 0, none⟩ (.slice A1 l.length c1)).setCell ⟨w.heap.size, 1, none⟩ (.slice A2 l.length c2) = WW at HP q0 q1 ⊢
   simp at q0 q1
   have HPh := hide HP
   clear HP
   exact bodyPost_ret (v := .agg #[.slice A1 l.length c1, .slice A2 l.length c2]) (by simp [results, Tryz.results14, go_sem, q0, q1]) rfl HPh.out
end
end Go.Proofs.YtmgfcjpifkoahaaGreatDoor

/-
  The contract of the law's Few: at most n makes, each with a text of at most 200 bytes.
-/
namespace Go.Proofs.YtmgfcjpifkoahaaGreatDoor
open Go.RowKit Go.ChangeShapes Go.WideShapes
def fewB (l : List Mk) (n : Int) : Bool := decide ((l.length : Int) ≤ n) && l.all (fun x => decide (x.s.size ≤ 200))
theorem fewB_long {l : List Mk} {n : Int} (h : n < (l.length : Int)) : fewB l n = false := by
 unfold fewB
 rw [decide_eq_false (by omega)]
 rfl
theorem fewB_big {l : List Mk} {n : Int} {i : Nat} {x : Mk} (h : l[i]? = some x) (hx : 200 < x.s.size) : fewB l n = false := by
 unfold fewB
 have : l.all (fun x => decide (x.s.size ≤ 200)) = false := by
  rw [List.all_eq_false]
  exact ⟨x, List.mem_of_getElem? h, by simp; omega⟩
 rw [this, Bool.and_false]
theorem fewB_all {l : List Mk} {n : Int} (h : (l.length : Int) ≤ n) (ha : ∀ x ∈ l, x.s.size ≤ 200) : fewB l n = true := by
 unfold fewB
 rw [decide_eq_true h, Bool.true_and, List.all_eq_true]
 exact fun x hx => by simpa using ha x hx
section
variable {B : Nat} {w : World}
set_option maxHeartbeats 4000000 in
set_option maxRecDepth 100000 in
theorem few_any {A : Option Addr} {c : Nat} {l : List Mk} (hl : Mks B w A l) (hll : l.length ≤ 1000000) (n : Int) :
  Calls Tryz.prog 13 #[.slice A l.length c, .int .i64 n] w (fun e w' => e = .returned (.bool (fewB l n)) ∧ w' = w) := by
 have HL := hide hl
 clear hl
 go_enter Tryz.func13, Tryz.ntmps13
 by_cases ht : n < (l.length : Int)
 ·have E := hide (fewB_long ht)
  go_wp2
  go_ret
  exact ⟨by rw [E.out]; rfl, rfl⟩
 ·go_wp2_with fail
  go_loopw [5] (fun vi wr => wr = w ∧ ∃ i : Nat, vi = .int .i64 i ∧ i ≤ l.length ∧ Hid (∀ x ∈ l.take i, x.s.size ≤ 200)) (fun vi _ => l.length - (intOf vi).toNat)
  case atStart => exact ⟨rfl, 0, rfl, Nat.zero_le _, hide (by simp)⟩
  case round =>
   obtain ⟨rfl, i, rfl, hi, hA⟩ := hrel
   by_cases hlt : i < l.length
   ·have hii : (i : Int) < l.length := by omega
    obtain ⟨x, hx⟩ : ∃ x, l[i]? = some x := ⟨_, List.getElem?_eq_getElem hlt⟩
    obtain ⟨ad, rfl, _, _, d0, _, _, _, d4⟩ := HL.out.at_ i x hx
    have d4' : wr.cell? ⟨(ad.add (i * 5)).block, (ad.add (i * 5)).off + 4, none⟩ = some (.string x.s) := d4
    have hxh := hide hx
    clear hx d4
    by_cases hs : 200 < x.s.size
    ·have hs' : (200 : Int) < x.s.size := by omega
     have E := hide (fewB_big (n := n) hxh.out hs)
     go_wp2
     go_ret
     exact ⟨by rw [E.out]; rfl, rfl⟩
    ·have hs' : ¬ (200 : Int) < x.s.size := by omega
     have hA' := hide (show ∀ y ∈ l.take (i + 1), y.s.size ≤ 200 from by
      intro y hy
      rw [List.take_add_one, hxh.out] at hy
      rcases List.mem_append.1 hy with hy | hy
      ·exact hA.out y hy
      ·simp at hy
       subst hy
       omega)
     go_wp2
     exact ⟨⟨trivial, i + 1, by go_num, by omega, hA'⟩, by simp [intOf]; omega⟩
   ·have E := hide (fewB_all (n := n) (by omega) (fun x hx => hA.out x (by rw [List.take_of_length_le (by omega)]; exact hx)))
    go_wp2
    go_ret
    exact ⟨by rw [E.out]; rfl, rfl⟩
end
end Go.Proofs.YtmgfcjpifkoahaaGreatDoor

/-
  The contract of trans's and sign's data: texts as terms, one behind the other. Conditions: texts of at most a million bytes.
-/
namespace Go.Proofs.YtmgfcjpifkoahaaGreatDoor
open Go.RowKit Go.ChangeShapes Go.WideShapes Go.Sort

structure IdO (B0 : Nat) (w : World) (T : List Tm) (ms : List (Option Tm)) (v : Value) (S : Nat → Prop) : Prop where
 ids : ∃ ns, w.ownsRow B0 25 1 v ms.length (ns.map (Value.int .i64)) ∧ Idns T ms ns
 out : ∀ i, v.ownBlock = some i → ¬ S i
section
variable {B0 : Nat} {w w' : World} {T T' : List Tm} {ms : List (Option Tm)} {v : Value} {S S' : Nat → Prop}
theorem ido_nil (B0 : Nat) (w : World) (T : List Tm) (S : Nat → Prop) : IdO B0 w T [] (.slice none 0 0) S :=
 ⟨⟨[], World.ownsRow_nil _ _ _ _, idns_nil _⟩, fun i hi => by simp [Value.ownBlock] at hi⟩
theorem IdO.sl (h : IdO B0 w T ms v S) : ∃ A c, v = .slice A ms.length c := by
 obtain ⟨⟨ns, h1, _⟩, _⟩ := h
 exact own_sl h1
theorem IdO.grown (h : IdO B0 w T ms v S) (hg : Grown S w S' w') (hp : T <+: T') : IdO B0 w' T' ms v S' := by
 obtain ⟨⟨ns, h1, h2⟩, h3⟩ := h
 refine ⟨⟨ns, hg.outs.own h1 h3, h2.pre hp⟩, fun i hi hs => ?_⟩
 rcases hg.new i hs with h6 | h6
 ·exact h3 i hi h6
 ·have := (h1.lt i hi).2
  omega
theorem IdO.below (h : IdO B0 w T ms v S) (hb : Below w.heap.size w w') : IdO B0 w' T ms v S := h.grown (Grown.of_below hb) (List.prefix_refl _)
theorem IdO.ids_ (h : IdO B0 w T ms v S) : ∃ ns, Ids w v ns ∧ Idns T ms ns := by
 obtain ⟨⟨ns, h1, h2⟩, _⟩ := h
 exact ⟨ns, own_ids h2.1.symm h1, h2⟩
end
structure DatI (B : Nat) (w : World) (g : Nat) (T : List Tm) (S : Nat → Prop) (os : List (Option Tm)) (i : Nat) (wr : World) (T' : List Tm) (S' : Nat → Prop) (v : Value) : Prop where
 ar : Ar B wr g T' S'
 grown : Grown S w S' wr
 pre : T <+: T'
 few : T'.length ≤ T.length + i
 ids : IdO w.heap.size wr T' (os.take i) v S'
end Go.Proofs.YtmgfcjpifkoahaaGreatDoor

/-
  The contract of sign's data, as trans's. Conditions: texts of at most a million bytes.
-/
namespace Go.Proofs.YtmgfcjpifkoahaaGreatDoor
open Go.RowKit Go.ChangeShapes Go.WideShapes Go.Sort
end Go.Proofs.YtmgfcjpifkoahaaGreatDoor
