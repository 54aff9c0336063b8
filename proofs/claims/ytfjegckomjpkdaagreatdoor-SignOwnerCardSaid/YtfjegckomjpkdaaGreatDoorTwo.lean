/-
  Duo arenas beside one another; decoding a term's own bytes; the law's example. Conditions: at most MaxTerm bytes.
-/
import Derived.Test.YtfjegckomjpkdaaGreatDoorRdrG
import Derived.Test.YtfjegckomjpkdaaGreatDoorFr
set_option linter.unusedVariables false
set_option linter.unusedSimpArgs false
namespace Go.Proofs.YtfjegckomjpkdaaGreatDoor
open Go.RowKit Go.ChangeShapes Go.WideShapes Go.Sort
section
variable {B g mb : Nat} {w w' : World} {T : List Tm} {S R : Nat → Prop} {nv sv : Value} {rows : List (List Value)} {D : DataW Unit}
/-- An arena stays while only blocks of others turn. -/
theorem Ar.apart (h : Ar B w g T S) (ho : Outs R w w') (hd : ∀ i, S i → ¬ R i) : Ar B w' g T S := by
  obtain ⟨nv, sv, mb, rows, D, h⟩ := h
  refine ⟨nv, sv, mb, rows, D, h.ok, ho.blk h.blk (hd _ h.sg), ho.own h.nodes (fun i hi => hd i (h.sn i hi)), h.nrows, fun i t us hi hu => ?_, ho.own h.sizes (fun i hi => hd i (h.ss i hi)), ?_, h.idx, h.sg, h.sm, h.sn, h.ss, h.sB, fun i hi => Nat.lt_of_lt_of_le (h.sL i hi) ho.size⟩
  · obtain ⟨av, js, e, ha, hown, hs⟩ := h.node i t us hi hu
    exact ⟨av, js, e, ha, ho.own hown (fun i hi => hd i (hs i hi)), hs⟩
  · obtain ⟨es, clock, hb, hr⟩ := h.map
    exact ⟨es, clock, (ho.block mb (h.sL mb h.sm) (hd mb h.sm)).trans hb, hr⟩
end
structure Duo (w : World) (Ba ga : Nat) (Ta : List Tm) (Sa : Nat → Prop) (Bb gb : Nat) (Tb : List Tm) (Sb : Nat → Prop) (W : World) : Prop where
  tab : Tab w
  bel : Below w.heap.size w W
  a1 : Ar Ba W ga Ta Sa
  a2 : Ar Bb W gb Tb Sb
  b1 : w.heap.size ≤ Ba
  b2 : w.heap.size ≤ Bb
  c1 : Ba ≤ W.heap.size
  c2 : Bb ≤ W.heap.size
  d : ∀ i, Sa i → ¬ Sb i
  f1 : Ta.length ≤ 1000000000
  f2 : Tb.length ≤ 1000000000
section
variable {Ba ga Bb gb : Nat} {w W W' : World} {Ta Ta' Tb Tb' : List Tm} {Sa Sa' Sb Sb' : Nat → Prop}
theorem Duo.use1 (h : Duo w Ba ga Ta Sa Bb gb Tb Sb W) : Use Ba W ga Ta Sa := ⟨h.a1, ⟨w, h.tab, h.b1, h.bel⟩, h.c1, h.f1⟩
theorem Duo.use2 (h : Duo w Ba ga Ta Sa Bb gb Tb Sb W) : Use Bb W gb Tb Sb := ⟨h.a2, ⟨w, h.tab, h.b2, h.bel⟩, h.c2, h.f2⟩
theorem Duo.below (h : Duo w Ba ga Ta Sa Bb gb Tb Sb W) (hb : Below W.heap.size W W') : Duo w Ba ga Ta Sa Bb gb Tb Sb W' :=
  ⟨h.tab, h.bel.trans (hb.mono h.bel.size), h.a1.below hb, h.a2.below hb, h.b1, h.b2, Nat.le_trans h.c1 hb.size, Nat.le_trans h.c2 hb.size, h.d, h.f1, h.f2⟩
theorem Duo.grown1 (h : Duo w Ba ga Ta Sa Bb gb Tb Sb W) (hG : Grown Sa W Sa' W') (hA : Ar Ba W' ga Ta' Sa') (hf : Ta'.length ≤ 1000000000) : Duo w Ba ga Ta' Sa' Bb gb Tb Sb W' :=
  ⟨h.tab, h.bel.trans ((hG.below h.c1 h.a1.sB).mono h.b1), hA, h.a2.apart hG.outs (fun i hi hc => h.d i hc hi), h.b1, h.b2, Nat.le_trans h.c1 hG.size, Nat.le_trans h.c2 hG.size, fun i hi hc => by
    rcases hG.new i hi with h1 | h1
    · exact h.d i h1 hc
    · have := h.a2.sL i hc; omega, hf, h.f2⟩
theorem Duo.grown2 (h : Duo w Ba ga Ta Sa Bb gb Tb Sb W) (hG : Grown Sb W Sb' W') (hA : Ar Bb W' gb Tb' Sb') (hf : Tb'.length ≤ 1000000000) : Duo w Ba ga Ta Sa Bb gb Tb' Sb' W' :=
  ⟨h.tab, h.bel.trans ((hG.below h.c2 h.a2.sB).mono h.b2), h.a1.apart hG.outs h.d, hA, h.b1, h.b2, Nat.le_trans h.c1 hG.size, Nat.le_trans h.c2 hG.size, fun i hi hc => by
    rcases hG.new i hc with h1 | h1
    · exact h.d i hi h1
    · have := h.a1.sL i hi; omega, h.f1, hf⟩
/-- Both arenas' blocks. -/
def SU (Sa Sb : Nat → Prop) (i : Nat) : Prop := Sa i ∨ Sb i
theorem Grown.su1 (h : Grown Sa W Sa' W') (Sb : Nat → Prop) : Grown (SU Sa Sb) W (SU Sa' Sb) W' :=
  ⟨h.os, h.tape, h.output, h.size, fun i hi hn => h.block i hi (fun h2 => hn (.inl h2)), fun i hi => hi.imp (h.sub i) id, fun i hi => by
    rcases hi with hi | hi
    · exact (h.new i hi).imp .inl id
    · exact .inl (.inr hi)⟩
theorem Grown.su2 (h : Grown Sb W Sb' W') (Sa : Nat → Prop) : Grown (SU Sa Sb) W (SU Sa Sb') W' :=
  ⟨h.os, h.tape, h.output, h.size, fun i hi hn => h.block i hi (fun h2 => hn (.inr h2)), fun i hi => hi.imp id (h.sub i), fun i hi => by
    rcases hi with hi | hi
    · exact .inl (.inl hi)
    · exact (h.new i hi).imp .inr id⟩
end
section
variable {B g : Nat} {T : List Tm} {S : Nat → Prop} {w : World}
/-- A term's own bytes, decoded. -/
theorem decode_enc (h : Use B w g T S) {t : Tm} (ht : good t) (hl : (enc t).length ≤ 131072) (hT : T.length ≤ 800000000) : Calls Tryz.prog 16 #[.pointer (some ⟨g, 0, none⟩), .string (bs (enc t))] w
    (fun e w' => ∃ T' S' n, e = .returned (.tuple #[.int .i64 n, .int .i64 0]) ∧ Idn T' (some t) n ∧ Ar B w' g T' S' ∧ Grown S w S' w' ∧ T <+: T' ∧ T'.length ≤ T.length + 262144) := by
  refine (decode_any h (s := bs (enc t)) hl hT).mono ?_
  rintro e w' ⟨T', S', n, k, o, rfl, hid, ho, hA, hG, hp, hlen⟩
  have hsz : (bs (enc t)).size = (enc t).length := rfl
  rcases ho with ⟨u, rfl, hu, he, rfl⟩ | ⟨_, _, hno⟩
  · rw [bs_data] at he
    obtain ⟨rfl, _⟩ := enc_inj t u [] [] ht hu (by rw [he])
    exact ⟨T', S', n, rfl, hid, hA, hG, hp, by omega⟩
  · exact absurd (bs_data _) (hno t ht)
/-- Bytes that are no term's, decoded. -/
theorem decode_not (h : Use B w g T S) {l : List UInt8} (hn : ∀ t, good t → l ≠ enc t) (hl : l.length ≤ 131072) (hT : T.length ≤ 800000000) : Calls Tryz.prog 16 #[.pointer (some ⟨g, 0, none⟩), .string (bs l)] w
    (fun e w' => ∃ T' S', e = .returned (.tuple #[.int .i64 (-1), .int .i64 3]) ∧ Ar B w' g T' S' ∧ Grown S w S' w' ∧ T <+: T' ∧ T'.length ≤ T.length + 262144) := by
  refine (decode_any h (s := bs l) hl hT).mono ?_
  rintro e w' ⟨T', S', n, k, o, rfl, hid, ho, hA, hG, hp, hlen⟩
  have hsz : (bs l).size = l.length := rfl
  rcases ho with ⟨u, rfl, hu, he, rfl⟩ | ⟨rfl, rfl, hno⟩
  · exact absurd he (hn u hu)
  · obtain rfl := hid.2 rfl
    exact ⟨T', S', rfl, hA, hG, hp, by omega⟩
theorem decode_long (g : Nat) {s : ByteArray} (hl : 131072 < s.size) (w : World) : Calls Tryz.prog 16 #[.pointer (some ⟨g, 0, none⟩), .string s] w
    (fun e w' => e = .returned (.tuple #[.int .i64 (-1), .int .i64 2]) ∧ w' = w) := by
  have hle : (131072 : Int) < s.size := by omega
  go_enter Tryz.func16, Tryz.ntmps16
  go_wp2_with fail
  go_ret2
  exact ⟨rfl, rfl⟩
theorem use_new2 {w w0 w' : World} {g : Nat} {S : Nat → Prop} (hT : Tab w0) (hb0 : Below w0.heap.size w0 w) (h : Ar w.heap.size w' g [] S) (hb : Below w.heap.size w w') : Use w.heap.size w' g [] S :=
  ⟨h, ⟨w0, hT, hb0.size, hb0.trans (hb.mono hb0.size)⟩, hb.size, Nat.zero_le _⟩
set_option maxHeartbeats 1000000 in
set_option maxRecDepth 100000 in
theorem awake02_any (hT : Tab w) : Calls Tryz.prog 12 #[] w (fun e w' => e = .returned (.bool true) ∧ Below w.heap.size w w') := by
  have HN := hide (new_any w)
  have HT := hide hT
  clear hT
  go_enter Tryz.func12, Tryz.ntmps12
  go_wp2_with fail
  refine HN.out.mono ?_
  rintro e w1 ⟨g, S, rfl, hA, hb1⟩
  have hU : Use w.heap.size w1 g [] S := use_new2 HT.out (Below.refl _ _) hA hb1
  have HD := hide (aData_any hU (s := ⟨#[97]⟩) (by decide))
  clear HT hU hA HN
  go_wp2_with fail
  refine HD.out.mono ?_
  rintro e w2 ⟨T2, n, S2, rfl, hP, hA2, hG2⟩
  have hid := hP.idn
  have HE := hide (encode_any hA2 n)
  rw [hid.1] at HE
  have hx : txt (tData ⟨#[97]⟩) = [241, 0, 0, 0, 1, 97] := by decide +kernel
  rw [hx] at HE
  have hS := hA2.sB
  have hbw : Below w.heap.size w w2 := hb1.trans (hG2.below hb1.size (fun i hi => by
    have := hG2.sub i hi
    exact hS i this))
  clear hA2 hG2 hP hid hx
  go_wp2_with fail
  refine HE.out.mono ?_
  rintro e w3 ⟨rfl, hb3⟩
  go_wp2_with fail
  go_ret
  exact ⟨by rw [bs_toList]; rfl, hbw.trans (hb3.mono hbw.size)⟩
end
end Go.Proofs.YtfjegckomjpkdaaGreatDoor
