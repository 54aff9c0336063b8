/-
  Duo arenas beside one another; decoding a term's own bytes; the law's example. Conditions: at most MaxTerm bytes.
-/
import Derived.Test.YtephdodkijanmaaGreatDoorRdrG
import Derived.Test.YtephdodkijanmaaGreatDoorFr
set_option linter.unusedVariables false
set_option linter.unusedSimpArgs false
namespace Go.Proofs.YtephdodkijanmaaGreatDoor
open Go.RowKit Go.ChangeShapes Go.WideShapes Go.Sort
section
variable {B g mb : Nat} {w w' : World} {T : List Tm} {S R : Nat → Prop} {nv sv : Value} {rows : List (List Value)} {D : DataW Unit}
/-- An arena stays while only blocks of others turn. -/
theorem Ar.apart (h : Ar B w g T S) (ho : Outs R w w') (hd : ∀ i, S i → ¬ R i) : Ar B w' g T S := by
  obtain ⟨nv, sv, mb, rows, D, h⟩ := h
  refine ⟨nv, sv, mb, rows, D, h.ok, ho.blk h.blk (hd _ h.sg), ho.own h.nodes (fun i hi => hd i (h.sn i hi)), h.nrows, fun i t us hi hu => ?_, ho.own h.sizes (fun i hi => hd i (h.ss i hi)), ?_, h.idx, h.sg, h.sm, h.sn, h.ss, h.sB, fun i hi => Nat.lt_of_lt_of_le (h.sL i hi) ho.size⟩
  · obtain ⟨av, js, e, ha, hown, hs⟩ := h.node i t us hi hu
    exact ⟨av, js, e, ha, ho.own hown (fun i hi => hd i (hs i hi)), hs⟩
  · obtain ⟨es, clock, hb, hr⟩ := h.map
    exact ⟨es, clock, (ho.block mb (h.sL mb h.sm) (hd mb h.sm)).trans hb, hr⟩
end
structure Duo (w : World) (Ba ga : Nat) (Ta : List Tm) (Sa : Nat → Prop) (Bb gb : Nat) (Tb : List Tm) (Sb : Nat → Prop) (W : World) : Prop where
  tab : Tab w
  bel : Below w.heap.size w W
  a1 : Ar Ba W ga Ta Sa
  a2 : Ar Bb W gb Tb Sb
  b1 : w.heap.size ≤ Ba
  b2 : w.heap.size ≤ Bb
  c1 : Ba ≤ W.heap.size
  c2 : Bb ≤ W.heap.size
  d : ∀ i, Sa i → ¬ Sb i
  f1 : Ta.length ≤ 1000000000
  f2 : Tb.length ≤ 1000000000
section
variable {Ba ga Bb gb : Nat} {w W W' : World} {Ta Ta' Tb Tb' : List Tm} {Sa Sa' Sb Sb' : Nat → Prop}
theorem Duo.use1 (h : Duo w Ba ga Ta Sa Bb gb Tb Sb W) : Use Ba W ga Ta Sa := ⟨h.a1, ⟨w, h.tab, h.b1, h.bel⟩, h.c1, h.f1⟩
theorem Duo.use2 (h : Duo w Ba ga Ta Sa Bb gb Tb Sb W) : Use Bb W gb Tb Sb := ⟨h.a2, ⟨w, h.tab, h.b2, h.bel⟩, h.c2, h.f2⟩
theorem Duo.below (h : Duo w Ba ga Ta Sa Bb gb Tb Sb W) (hb : Below W.heap.size W W') : Duo w Ba ga Ta Sa Bb gb Tb Sb W' :=
  ⟨h.tab, h.bel.trans (hb.mono h.bel.size), h.a1.below hb, h.a2.below hb, h.b1, h.b2, Nat.le_trans h.c1 hb.size, Nat.le_trans h.c2 hb.size, h.d, h.f1, h.f2⟩
theorem Duo.grown1 (h : Duo w Ba ga Ta Sa Bb gb Tb Sb W) (hG : Grown Sa W Sa' W') (hA : Ar Ba W' ga Ta' Sa') (hf : Ta'.length ≤ 1000000000) : Duo w Ba ga Ta' Sa' Bb gb Tb Sb W' :=
  ⟨h.tab, h.bel.trans ((hG.below h.c1 h.a1.sB).mono h.b1), hA, h.a2.apart hG.outs (fun i hi hc => h.d i hc hi), h.b1, h.b2, Nat.le_trans h.c1 hG.size, Nat.le_trans h.c2 hG.size, fun i hi hc => by
    rcases hG.new i hi with h1 | h1
    · exact h.d i h1 hc
    · have := h.a2.sL i hc; omega, hf, h.f2⟩
theorem Duo.grown2 (h : Duo w Ba ga Ta Sa Bb gb Tb Sb W) (hG : Grown Sb W Sb' W') (hA : Ar Bb W' gb Tb' Sb') (hf : Tb'.length ≤ 1000000000) : Duo w Ba ga Ta Sa Bb gb Tb' Sb' W' :=
  ⟨h.tab, h.bel.trans ((hG.below h.c2 h.a2.sB).mono h.b2), h.a1.apart hG.outs h.d, hA, h.b1, h.b2, Nat.le_trans h.c1 hG.size, Nat.le_trans h.c2 hG.size, fun i hi hc => by
    rcases hG.new i hc with h1 | h1
    · exact h.d i hi h1
    · have := h.a1.sL i hi; omega, h.f1, hf⟩
/-- Both arenas' blocks. -/
def SU (Sa Sb : Nat → Prop) (i : Nat) : Prop := Sa i ∨ Sb i
theorem Grown.su1 (h : Grown Sa W Sa' W') (Sb : Nat → Prop) : Grown (SU Sa Sb) W (SU Sa' Sb) W' :=
  ⟨h.os, h.tape, h.output, h.size, fun i hi hn => h.block i hi (fun h2 => hn (.inl h2)), fun i hi => hi.imp (h.sub i) id, fun i hi => by
    rcases hi with hi | hi
    · exact (h.new i hi).imp .inl id
    · exact .inl (.inr hi)⟩
theorem Grown.su2 (h : Grown Sb W Sb' W') (Sa : Nat → Prop) : Grown (SU Sa Sb) W (SU Sa Sb') W' :=
  ⟨h.os, h.tape, h.output, h.size, fun i hi hn => h.block i hi (fun h2 => hn (.inr h2)), fun i hi => hi.imp id (h.sub i), fun i hi => by
    rcases hi with hi | hi
    · exact .inl (.inl hi)
    · exact (h.new i hi).imp .inr id⟩
end
section
variable {B g : Nat} {T : List Tm} {S : Nat → Prop} {w : World}
theorem use_new2 {w w0 w' : World} {g : Nat} {S : Nat → Prop} (hT : Tab w0) (hb0 : Below w0.heap.size w0 w) (h : Ar w.heap.size w' g [] S) (hb : Below w.heap.size w w') : Use w.heap.size w' g [] S :=
  ⟨h, ⟨w0, hT, hb0.size, hb0.trans (hb.mono hb0.size)⟩, hb.size, Nat.zero_le _⟩
end
end Go.Proofs.YtephdodkijanmaaGreatDoor
