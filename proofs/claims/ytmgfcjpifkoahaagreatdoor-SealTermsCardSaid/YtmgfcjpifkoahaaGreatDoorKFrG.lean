/-
  Several of my texts in one: ParseE, MkS, MakesA, Fr.
-/
import Derived.Test.YtmgfcjpifkoahaaGreatDoorKParseA
import Derived.Test.YtmgfcjpifkoahaaGreatDoorKMakeA
import Derived.Test.YtmgfcjpifkoahaaGreatDoorKRefA
import Derived.Deep.RegionHeld3
import Derived.Deep.DeepCutAuto
set_option linter.unusedVariables false
set_option linter.unusedSimpArgs false
/-
  The contract of the reference's Parse, at any place of any text. Conditions: texts of moderate length.
-/
namespace Go.Proofs.YtmgfcjpifkoahaaGreatDoor
open Go.RowKit Go.ChangeShapes Go.WideShapes Go.Sort

set_option maxHeartbeats 1000000 in
set_option maxRecDepth 100000 in
theorem parse_end (s : ByteArray) (p : Nat) (hp : p = s.size) (hs : s.size ≤ 131072) (w : World) : Calls Tryz.prog 92 #[.string s, .int .i64 p] w (Parsed s p w) := by
 have HN := hide (show NoT (s.data.toList.drop p) by
  rw [List.drop_eq_nil_of_le (by show s.size ≤ p; omega)]
  exact noT_nil)
 have hi : ¬ (p : Int) < s.size := by omega
 have hi2 : (s.size : Int) ≤ p := by omega
 clear hp
 go_enter Tryz.func92, Tryz.ntmps92
 go_wp2_with fail
 exact bodyPost_ret (v := .tuple #[.agg #[.int .i64 0, .int .i64 0, .int .i64 0, .string ⟨#[]⟩, .slice none 0 0], .int .i64 p, .bool false]) (by simp [results, Tryz.results92, go_sem]) rfl (Parsed.no HN.out (by exact bel_by))
theorem parse_any (s : ByteArray) (hs : s.size ≤ 131072) : ∀ (m p : Nat) (w : World), s.size - p ≤ m → p ≤ s.size → Calls Tryz.prog 92 #[.string s, .int .i64 p] w (Parsed s p w) := by
 intro m
 induction m with
 | zero => exact fun p w h1 h2 => parse_end s p (by omega) hs w
 | succ m ih =>
  intro p w h1 h2
  by_cases hp : p < s.size
  ·exact parse_step s hs m ih p hp h1 w
  ·exact parse_end s p (by omega) hs w
end Go.Proofs.YtmgfcjpifkoahaaGreatDoor

/-
  The contract of the reference's Exp. Conditions: terms that may be.
-/
namespace Go.Proofs.YtmgfcjpifkoahaaGreatDoor
open Go.RowKit Go.ChangeShapes Go.WideShapes Go.Sort

end Go.Proofs.YtmgfcjpifkoahaaGreatDoor
/-
  The contracts of the law's Pick, letter and run: terms that were made, by their numbers. Conditions: numbers fit.
-/
namespace Go.Proofs.YtmgfcjpifkoahaaGreatDoor
open Go.RowKit Go.ChangeShapes Go.WideShapes Go.Sort

def Idns (T : List Tm) (ms : List (Option Tm)) (ns : List Int) : Prop := ns.length = ms.length ∧ ∀ (i : Nat) (o : Option Tm) (n : Int), ms[i]? = some o → ns[i]? = some n → Idn T o n
theorem idns_nil (T : List Tm) : Idns T [] [] := ⟨rfl, fun i o n h => by simp at h⟩
theorem Idns.pre {T T' : List Tm} {ms : List (Option Tm)} {ns : List Int} (h : Idns T ms ns) (hp : T <+: T') : Idns T' ms ns := ⟨h.1, fun i o n h1 h2 => (h.2 i o n h1 h2).pre hp⟩
theorem Idns.snoc {T : List Tm} {ms : List (Option Tm)} {ns : List Int} {o : Option Tm} {n : Int} (h : Idns T ms ns) (hn : Idn T o n) : Idns T (ms ++ [o]) (ns ++ [n]) := by
 refine ⟨by simp [h.1], fun i o' n' h1 h2 => ?_⟩
 rcases Nat.lt_or_ge i ms.length with hlt | hge
 ·rw [List.getElem?_append_left hlt] at h1
  rw [List.getElem?_append_left (by rw [h.1]; exact hlt)] at h2
  exact h.2 i o' n' h1 h2
 ·have h3 := (List.getElem?_eq_some_iff.1 h1).1
  simp only [List.length_append, List.length_cons, List.length_nil] at h3
  obtain rfl : i = ms.length := by omega
  rw [List.getElem?_append_right (Nat.le_refl _), Nat.sub_self] at h1
  rw [← h.1, List.getElem?_append_right (Nat.le_refl _), Nat.sub_self] at h2
  simp only [List.getElem?_cons_zero, Option.some.injEq] at h1 h2
  subst h1 h2
  exact hn
theorem Idns.args {T : List Tm} {ms : List (Option Tm)} {ns : List Int} (h : Idns T ms ns) : ns.map (arg T) = ms := by
 refine List.ext_getElem? fun i => ?_
 rw [List.getElem?_map]
 by_cases hi : i < ms.length
 ·have h1 := List.getElem?_eq_getElem hi
  have h2 := List.getElem?_eq_getElem (l := ns) (i := i) (by rw [h.1]; exact hi)
  rw [h1, h2]
  show some _ = _
  rw [(h.2 i _ _ h1 h2).1]
 ·rw [List.getElem?_eq_none (l := ns) (by rw [h.1]; omega), List.getElem?_eq_none (by omega)]
  rfl
structure Md (w : World) (T : List Tm) (ms : List (Option Tm)) (v1 v2 : Value) : Prop where
 ex : ∃ ns, Ids w v1 ns ∧ Idns T ms ns
 tx : Txs w v2 (ms.map txt)
theorem Md.below {w w' : World} {T : List Tm} {ms : List (Option Tm)} {v1 v2 : Value} (h : Md w T ms v1 v2) (hb : Below w.heap.size w w') : Md w' T ms v1 v2 := by
 obtain ⟨⟨ns, h1, h2⟩, h3⟩ := h
 exact ⟨⟨ns, h1.below hb, h2⟩, h3.below hb⟩
theorem Md.pre {w : World} {T T' : List Tm} {ms : List (Option Tm)} {v1 v2 : Value} (h : Md w T ms v1 v2) (hp : T <+: T') : Md w T' ms v1 v2 := by
 obtain ⟨⟨ns, h1, h2⟩, h3⟩ := h
 exact ⟨⟨ns, h1, h2.pre hp⟩, h3⟩
theorem Md.open_ {w : World} {T : List Tm} {ms : List (Option Tm)} {v1 v2 : Value} (h : Md w T ms v1 v2) : ∃ A1 c1 A2 c2, v1 = .slice A1 ms.length c1 ∧ v2 = .slice A2 ms.length c2 ∧ ∀ (k : Nat) (hk : k < ms.length), ∃ a1 a2 n, A1 = some a1 ∧ A2 = some a2 ∧ a1.block < w.heap.size ∧ a2.block < w.heap.size ∧ w.cell? (a1.add k) = some (.int .i64 n) ∧ w.cell? (a2.add k) = some (.string (bs (txt ms[k]))) ∧ Idn T ms[k] n := by
 obtain ⟨⟨ns, ⟨A1, c1, rfl, hs⟩, hi⟩, h3⟩ := h
 obtain ⟨A2, c2, rfl, hc⟩ := h3.open_
 refine ⟨A1, c1, A2, c2, by rw [hi.1], by simp, fun k hk => ?_⟩
 obtain ⟨a1, u, e1, _, hb1, hu, hc1⟩ := hs.at_ (k := k) (by rw [hi.1]; exact hk)
 obtain ⟨a2, e2, hb2, hc2⟩ := hc k (by simpa using hk)
 have hn := List.getElem?_eq_getElem (l := ns) (i := k) (by rw [hi.1]; exact hk)
 rw [List.getElem?_map, hn] at hu
 simp only [Option.map_some, Option.some.injEq] at hu
 subst hu
 exact ⟨a1, a2, _, e1, e2, hb1, hb2, hc1, by simpa using hc2, hi.2 k _ _ (List.getElem?_eq_getElem hk) hn⟩
section
variable {w : World} {T : List Tm} {ms : List (Option Tm)} {v1 v2 : Value}
theorem infoIDr : (Tryz.prog.info? 25).map (fun i => (i.zero, i.size, i.bytes)) = some (some (.int .i64 0), 1, 8) := by kernel_rfl
end
end Go.Proofs.YtmgfcjpifkoahaaGreatDoor

/-
  The contracts of the law's id and text: a term more, in an arena, and as the document writes it down. Conditions: numbers fit.
-/
namespace Go.Proofs.YtmgfcjpifkoahaaGreatDoor
open Go.RowKit Go.ChangeShapes Go.WideShapes

end Go.Proofs.YtmgfcjpifkoahaaGreatDoor

/-
  The contract of the law's text: a term more, as the document writes it down. Conditions: numbers fit.
-/
namespace Go.Proofs.YtmgfcjpifkoahaaGreatDoor
open Go.RowKit Go.ChangeShapes Go.WideShapes

end Go.Proofs.YtmgfcjpifkoahaaGreatDoor
/-
  The contract of the law's Makes: terms one behind the other. Conditions: numbers fit.
-/
namespace Go.Proofs.YtmgfcjpifkoahaaGreatDoor
open Go.RowKit Go.ChangeShapes Go.WideShapes

theorem Grown.outs {S S' : Nat → Prop} {w w' : World} (h : Grown S w S' w') : Outs S w w' := ⟨h.os, h.tape, h.output, h.size, h.block⟩
structure MdO (B0 : Nat) (w : World) (T : List Tm) (ms : List (Option Tm)) (v1 v2 : Value) (S : Nat → Prop) : Prop where
 ids : ∃ ns, w.ownsRow B0 25 1 v1 ms.length (ns.map (Value.int .i64)) ∧ Idns T ms ns
 txs : w.ownsRow B0 9 1 v2 ms.length (((ms.map txt).map bs).map Value.string)
 o1 : ∀ i, v1.ownBlock = some i → ¬ S i
 o2 : ∀ i, v2.ownBlock = some i → ¬ S i
section
variable {B0 : Nat} {w w' : World} {T T' : List Tm} {ms : List (Option Tm)} {v1 v2 : Value} {S S' : Nat → Prop}
theorem MdO.md (h : MdO B0 w T ms v1 v2 S) : Md w T ms v1 v2 := by
 obtain ⟨⟨ns, h1, h2⟩, h3, _, _⟩ := h
 exact ⟨⟨ns, own_ids h2.1.symm h1, h2⟩, own_txs h3 (by simp)⟩
theorem MdO.grown (h : MdO B0 w T ms v1 v2 S) (hg : Grown S w S' w') (hp : T <+: T') : MdO B0 w' T' ms v1 v2 S' := by
 obtain ⟨⟨ns, h1, h2⟩, h3, h4, h5⟩ := h
 refine ⟨⟨ns, hg.outs.own h1 h4, h2.pre hp⟩, hg.outs.own h3 h5, fun i hi hs => ?_, fun i hi hs => ?_⟩
 ·rcases hg.new i hs with h6 | h6
  ·exact h4 i hi h6
  ·have := (h1.lt i hi).2
   omega
 ·rcases hg.new i hs with h6 | h6
  ·exact h5 i hi h6
  ·have := (h3.lt i hi).2
   omega
end
structure Mks (lo : Nat) (w : World) (A : Option Addr) (l : List Mk) : Prop where
 at_ : ∀ (i : Nat) (x : Mk), l[i]? = some x → ∃ ad, A = some ad ∧ ad.block < lo ∧ ad.block < w.heap.size ∧ w.cell? (ad.add (i * 5)) = some (.int .i64 x.k) ∧ w.cell? ((ad.add (i * 5)).add 1) = some (.int .i64 x.a) ∧ w.cell? ((ad.add (i * 5)).add 2) = some (.int .i64 x.b) ∧ w.cell? ((ad.add (i * 5)).add 3) = some (.int .i64 x.c) ∧ w.cell? ((ad.add (i * 5)).add 4) = some (.string x.s)
theorem Mks.outs {lo : Nat} {w w' : World} {A : Option Addr} {l : List Mk} {R : Nat → Prop} (h : Mks lo w A l) (ho : Outs R w w') (hR : ∀ i, R i → lo ≤ i) : Mks lo w' A l := by
 refine ⟨fun i x hx => ?_⟩
 obtain ⟨ad, e, h1, h2, c0, c1, c2, c3, c4⟩ := h.at_ i x hx
 have nr : ¬ R ad.block := fun hc => by have := hR _ hc; omega
 have key : ∀ p : Addr, p.block = ad.block → ∀ v, w.cell? p = some v → w'.cell? p = some v := fun p hp v hv => ho.cell hv (by rw [hp]; exact nr)
 exact ⟨ad, e, h1, Nat.lt_of_lt_of_le h2 ho.size, key _ (by rw [block_of_add]) _ c0, key _ (by rw [block_of_add, block_of_add]) _ c1, key _ (by rw [block_of_add, block_of_add]) _ c2, key _ (by rw [block_of_add, block_of_add]) _ c3, key _ (by rw [block_of_add, block_of_add]) _ c4⟩
structure MkI (B : Nat) (w : World) (g : Nat) (T : List Tm) (S : Nat → Prop) (l : List Mk) (i : Nat) (wr : World) (T' : List Tm) (S' : Nat → Prop) (v1 v2 : Value) : Prop where
 ar : Ar B wr g T' S'
 grown : Grown S w S' wr
 pre : T <+: T'
 few : T'.length ≤ T.length + i
 md : MdO w.heap.size wr T' (makes (l.take i)) v1 v2 S'
 blk : Blk wr (w.heap.size + 1) 37 #[v1, v2]
 rblk : Blk wr w.heap.size 37 #[.slice none 0 0, .slice none 0 0]
 nm : ¬ S' (w.heap.size + 1)
 nr : ¬ S' w.heap.size
theorem Grown.keepNew {S S2 : Nat → Prop} {w wx wz : World} {row : Option Nat} (h : Grown S w S2 wx) (k : wx.grownBy wz row) (hr : ∀ b, row = some b → w.heap.size ≤ b) : Grown S w S2 wz :=
 ⟨k.os.trans h.os, k.tape.trans h.tape, k.output.trans h.output, Nat.le_trans h.size k.size, fun i hi hn => (k.block i (Nat.lt_of_lt_of_le hi h.size) (fun e => by have := hr i e.symm; omega)).trans (h.block i hi hn), h.sub, h.new⟩
theorem at_new {v v' : Value} {S : Nat → Prop} {n : Nat} (h : v'.ownBlock = v.ownBlock ∨ v'.ownBlock = some n) (hv : ∀ i, v.ownBlock = some i → ¬ S i) (hn : ∀ i, S i → i < n) : ∀ i, v'.ownBlock = some i → ¬ S i := by
 intro i hi hs
 rcases h with h | h
 ·exact hv i (h.symm.trans hi) hs
 ·rw [h] at hi
  cases hi
  have := hn _ hs
  omega
structure Kp (B : Nat) (w : World) (g : Nat) (T : List Tm) (S0 S : Nat → Prop) (W : World) : Prop where
 ar : Ar B W g T S
 grown : Grown S0 w S W
theorem Kp.step {B g : Nat} {w wx W : World} {T : List Tm} {S0 S : Nat → Prop} {row : Option Nat} (h : Kp B w g T S0 S wx) (k : wx.grownBy W row) (hr : ∀ b, row = some b → w.heap.size ≤ b ∧ ¬ S b) : Kp B w g T S0 S W :=
 ⟨h.ar.kept k fun b e => (hr b e).2, h.grown.keepNew k fun b e => (hr b e).1⟩
end Go.Proofs.YtmgfcjpifkoahaaGreatDoor

/-
  The contract of the law's Few: at most n makes, each with a text of at most 200 bytes.
-/
namespace Go.Proofs.YtmgfcjpifkoahaaGreatDoor
open Go.RowKit Go.ChangeShapes Go.WideShapes
end Go.Proofs.YtmgfcjpifkoahaaGreatDoor

/-
  The contract of trans's and sign's data: texts as terms, one behind the other. Conditions: texts of at most a million bytes.
-/
namespace Go.Proofs.YtmgfcjpifkoahaaGreatDoor
open Go.RowKit Go.ChangeShapes Go.WideShapes Go.Sort

structure IdO (B0 : Nat) (w : World) (T : List Tm) (ms : List (Option Tm)) (v : Value) (S : Nat → Prop) : Prop where
 ids : ∃ ns, w.ownsRow B0 25 1 v ms.length (ns.map (Value.int .i64)) ∧ Idns T ms ns
 out : ∀ i, v.ownBlock = some i → ¬ S i
section
variable {B0 : Nat} {w w' : World} {T T' : List Tm} {ms : List (Option Tm)} {v : Value} {S S' : Nat → Prop}
theorem ido_nil (B0 : Nat) (w : World) (T : List Tm) (S : Nat → Prop) : IdO B0 w T [] (.slice none 0 0) S :=
 ⟨⟨[], World.ownsRow_nil _ _ _ _, idns_nil _⟩, fun i hi => by simp [Value.ownBlock] at hi⟩
theorem IdO.sl (h : IdO B0 w T ms v S) : ∃ A c, v = .slice A ms.length c := by
 obtain ⟨⟨ns, h1, _⟩, _⟩ := h
 exact own_sl h1
theorem IdO.grown (h : IdO B0 w T ms v S) (hg : Grown S w S' w') (hp : T <+: T') : IdO B0 w' T' ms v S' := by
 obtain ⟨⟨ns, h1, h2⟩, h3⟩ := h
 refine ⟨⟨ns, hg.outs.own h1 h3, h2.pre hp⟩, fun i hi hs => ?_⟩
 rcases hg.new i hs with h6 | h6
 ·exact h3 i hi h6
 ·have := (h1.lt i hi).2
  omega
theorem IdO.below (h : IdO B0 w T ms v S) (hb : Below w.heap.size w w') : IdO B0 w' T ms v S := h.grown (Grown.of_below hb) (List.prefix_refl _)
theorem IdO.ids_ (h : IdO B0 w T ms v S) : ∃ ns, Ids w v ns ∧ Idns T ms ns := by
 obtain ⟨⟨ns, h1, h2⟩, _⟩ := h
 exact ⟨ns, own_ids h2.1.symm h1, h2⟩
end
structure DatI (B : Nat) (w : World) (g : Nat) (T : List Tm) (S : Nat → Prop) (os : List (Option Tm)) (i : Nat) (wr : World) (T' : List Tm) (S' : Nat → Prop) (v : Value) : Prop where
 ar : Ar B wr g T' S'
 grown : Grown S w S' wr
 pre : T <+: T'
 few : T'.length ≤ T.length + i
 ids : IdO w.heap.size wr T' (os.take i) v S'
end Go.Proofs.YtmgfcjpifkoahaaGreatDoor

/-
  The contract of sign's data, as trans's. Conditions: texts of at most a million bytes.
-/
namespace Go.Proofs.YtmgfcjpifkoahaaGreatDoor
open Go.RowKit Go.ChangeShapes Go.WideShapes Go.Sort
end Go.Proofs.YtmgfcjpifkoahaaGreatDoor
namespace Go.Proofs.YtmgfcjpifkoahaaGreatDoor
open Go.RowKit Go.ChangeShapes Go.WideShapes Go.Sort

structure Fr (B g : Nat) (w : World) (T : List Tm) (S : Nat → Prop) (bs : List (Nat × TypeId × Array Value)) (W : World) : Prop where
 bel : Below w.heap.size w W
 use : Use B W g T S
 wB : w.heap.size ≤ B
 blks : ∀ x ∈ bs, Blk W x.1 x.2.1 x.2.2 ∧ ¬ S x.1
section
variable {B g : Nat} {w W W' : World} {T T' : List Tm} {S S' : Nat → Prop} {bs : List (Nat × TypeId × Array Value)}
theorem Grown.notin2 (h : Grown S W S' W') {b : Nat} (hb : ¬ S b) (hlt : b < W.heap.size) : ¬ S' b := fun h2 => by
 rcases h.new b h2 with h3 | h3
 ·exact hb h3
 ·omega
theorem Fr.below (h : Fr B g w T S bs W) (hb : Below W.heap.size W W') : Fr B g w T S bs W' :=
 ⟨h.bel.trans (hb.mono h.bel.size), h.use.below hb, h.wB, fun x hx => ⟨(h.blks x hx).1.below hb (h.blks x hx).1.lt, (h.blks x hx).2⟩⟩
theorem Fr.grown (h : Fr B g w T S bs W) (hG : Grown S W S' W') (hA : Ar B W' g T' S') (hf : T'.length ≤ 1000000000) : Fr B g w T' S' bs W' :=
 ⟨h.bel.trans ((hG.below h.use.base h.use.ar.sB).mono h.wB), h.use.grown hG hA hf, h.wB, fun x hx => ⟨hG.outs.blk (h.blks x hx).1 (h.blks x hx).2, hG.notin2 (h.blks x hx).2 (h.blks x hx).1.lt⟩⟩
theorem Fr.new (h : Fr B g w T S bs W) (t : TypeId) (cs : Array Value) : Fr B g w T S ((W.heap.size, t, cs) :: bs) (W.alloc (.cells cs t)) := by
 have h2 := h.below (bel_new (.cells cs t))
 refine ⟨h2.bel, h2.use, h2.wB, fun x hx => ?_⟩
 rcases List.mem_cons.1 hx with rfl | hx
 ·exact ⟨Blk.new _ _ _, fun hc => by have := h.use.ar.sL _ hc; simp at this⟩
 ·exact h2.blks x hx
theorem Fr.drop (h : Fr B g w T S bs W) {bs' : List (Nat × TypeId × Array Value)} (hs : ∀ x ∈ bs', x ∈ bs) : Fr B g w T S bs' W := ⟨h.bel, h.use, h.wB, fun x hx => h.blks x (hs x hx)⟩
theorem Fr.blk {b : Nat} {t : TypeId} {cs : Array Value} (h : Fr B g w T S bs W) (hx : (b, t, cs) ∈ bs) : Blk W b t cs := (h.blks _ hx).1
end
end Go.Proofs.YtmgfcjpifkoahaaGreatDoor
