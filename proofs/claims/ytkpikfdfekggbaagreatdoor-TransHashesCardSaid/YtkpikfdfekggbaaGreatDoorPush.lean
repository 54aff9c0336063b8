/-
  An arena in memory: one term more. Conditions: none.
-/
import Derived.Test.YtkpikfdfekggbaaGreatDoorArenaA
namespace Go.Proofs.YtkpikfdfekggbaaGreatDoor
open Go.RowKit Go.ChangeShapes Go.WideShapes

/-- Outside R nothing has turned. -/
structure Outs (R : Nat → Prop) (w w' : World) : Prop where
  os : w'.os = w.os
  tape : w'.tape = w.tape
  output : w'.output = w.output
  size : w.heap.size ≤ w'.heap.size
  block : ∀ i, i < w.heap.size → ¬ R i → w'.heap[i]? = w.heap[i]?
section
variable {R : Nat → Prop} {w w' w'' : World}
theorem Outs.refl (R : Nat → Prop) (w : World) : Outs R w w := ⟨rfl, rfl, rfl, Nat.le_refl _, fun _ _ _ => rfl⟩
theorem Outs.of_below (h : Below w.heap.size w w') : Outs R w w' := ⟨h.os, h.tape, h.output, h.size, fun i hi _ => h.block i hi⟩
theorem Outs.trans (h : Outs R w w') (k : Outs R w' w'') : Outs R w w'' :=
  ⟨k.os.trans h.os, k.tape.trans h.tape, k.output.trans h.output, Nat.le_trans h.size k.size, fun i hi hn => (k.block i (Nat.lt_of_lt_of_le hi h.size) hn).trans (h.block i hi hn)⟩
theorem Outs.grown {row : Option Nat} (h : Outs R w w') (k : w'.grownBy w'' row) (hr : ∀ b, row = some b → R b ∨ w.heap.size ≤ b) : Outs R w w'' :=
  ⟨k.os.trans h.os, k.tape.trans h.tape, k.output.trans h.output, Nat.le_trans h.size k.size, fun i hi hn => (k.block i (Nat.lt_of_lt_of_le hi h.size) (fun e => by
    rcases hr i e.symm with h1 | h1
    · exact hn h1
    · omega)).trans (h.block i hi hn)⟩
theorem Outs.set_ (h : Outs R w w') {p : Addr} (hp : R p.block ∨ w.heap.size ≤ p.block) (u : Value) : Outs R w (w'.setCell p u) :=
  h.grown (only_setCell (only_refl w' (some p.block)) (.inl rfl) u) (fun b e => by cases e; exact hp)
theorem Outs.below (h : Outs R w w') (k : Below w'.heap.size w' w'') : Outs R w w'' := h.grown (only_of_below k none) (fun _ e => by cases e)
theorem Outs.drew (h : Outs R w w') : Outs R w w'.drew := ⟨h.os, h.tape, h.output, h.size, h.block⟩
theorem Outs.drewN (h : Outs R w w') (n : Nat) : Outs R w (w'.drewN n) := ⟨h.os, h.tape, h.output, h.size, h.block⟩
theorem Outs.alloc (h : Outs R w w') (o : Obj) : Outs R w (w'.alloc o) := h.below ((Below.refl _ _).alloc (Nat.le_refl _) o)
theorem Outs.cell (h : Outs R w w') {p : Addr} {v : Value} (hc : w.cell? p = some v) (hp : ¬ R p.block) : w'.cell? p = some v :=
  (World.cell?_of_block (h.block p.block (World.block_lt_of_cell? w p hc) hp)).trans hc
theorem Outs.blk {g : Nat} {t : TypeId} {cs : Array Value} (h : Outs R w w') (hb : Blk w g t cs) (hp : ¬ R g) : Blk w' g t cs := (h.block g hb.lt hp).trans hb
theorem Outs.mono {R' : Nat → Prop} (h : Outs R w w') (hs : ∀ i, R i → R' i) : Outs R' w w' := ⟨h.os, h.tape, h.output, h.size, fun i hi hn => h.block i hi (fun h2 => hn (hs i h2))⟩
theorem Outs.own {b : Nat} {e : TypeId} {size n : Nat} {v : Value} {xs : List Value} (h : Outs R w w') (ho : w.ownsRow b e size v n xs) (hv : ∀ i, v.ownBlock = some i → ¬ R i) : w'.ownsRow b e size v n xs := by
  refine ⟨ho.1, ?_⟩
  rcases ho.2 with h0 | ⟨g, cap, cur, rfl, h2, h3, h4⟩
  · exact .inl h0
  · refine .inr ⟨g, cap, cur, rfl, h2, ?_, h4⟩
    have hlt := (ho.lt g rfl).2
    exact (h.block g hlt (hv g rfl)).trans h3
end
/-- Two rows of different elements lie apart. -/
theorem own_ne {w : World} {b b' : Nat} {e e' : TypeId} {size size' n n' : Nat} {v v' : Value} {xs xs' : List Value} (h : w.ownsRow b e size v n xs) (h' : w.ownsRow b' e' size' v' n' xs') (hne : e ≠ e') :
    ∀ i, v.ownBlock = some i → v'.ownBlock ≠ some i := by
  intro i hi hi'
  rcases h.2 with ⟨rfl, _⟩ | ⟨g, cap, cur, rfl, _, h3, _⟩
  · cases hi
  · rcases h'.2 with ⟨rfl, _⟩ | ⟨g', cap', cur', rfl, _, h3', _⟩
    · cases hi'
    · simp only [Value.ownBlock, Option.some.injEq] at hi hi'
      subst hi hi'
      exact Blk.ne_ (t := e) h3 h3' hne rfl
theorem own_map_ne {w : World} {b mb m : Nat} {e k : TypeId} {size n : Nat} {v : Value} {xs : List Value} {R : Value → Option (DataW Unit × List MemPlace)} {D : DataW Unit} (h : w.ownsRow b e size v n xs) (h' : w.ownsMap Tryz.prog k R mb m D) : v.ownBlock ≠ some mb := by
  intro hi
  obtain ⟨es, clock, hb, _⟩ := h'
  rcases h.2 with ⟨rfl, _⟩ | ⟨g, cap, cur, rfl, _, h3, _⟩
  · cases hi
  · simp only [Value.ownBlock, Option.some.injEq] at hi
    subst hi
    rw [h3] at hb
    cases hb
theorem blk_map_ne {w : World} {g mb m : Nat} {t k : TypeId} {cs : Array Value} {R : Value → Option (DataW Unit × List MemPlace)} {D : DataW Unit} (h : Blk w g t cs) (h' : w.ownsMap Tryz.prog k R mb m D) : g ≠ mb := by
  rintro rfl
  obtain ⟨es, clock, hb, _⟩ := h'
  unfold Blk at h
  rw [h] at hb
  cases hb
/-- The blocks of an arena that a new term turns. -/
def Rw (g mb : Nat) (nv sv : Value) (i : Nat) : Prop := i = g ∨ i = mb ∨ nv.ownBlock = some i ∨ sv.ownBlock = some i
section
variable {B g mb : Nat} {w W : World} {T : List Tm} {S : Nat → Prop} {nv sv : Value} {rows : List (List Value)} {D : DataW Unit}
theorem ArX.arg_out (h : ArX B w g T S nv sv mb rows D) {b n : Nat} {av : Value} {xs : List Value} (ha : w.ownsRow b 34 1 av n xs) : ∀ i, av.ownBlock = some i → ¬ Rw g mb nv sv i := by
  rintro i hi (rfl | rfl | h1 | h1)
  · exact own_blk_ne ha h.blk (by decide) hi
  · exact own_map_ne ha h.map hi
  · exact own_ne ha h.nodes (by decide) i hi h1
  · exact own_ne ha h.sizes (by decide) i hi h1
theorem ArX.push2 (h : ArX B w g T S nv sv mb rows D) {t : Tm} (hok : AOK (T ++ [t])) (hO : Outs (Rw g mb nv sv) w W) {nv' sv' av : Value} {D' : DataW Unit} {js : List Nat}
    (hblk : Blk W g 103 #[nv', sv', .map (some mb)])
    (hn : W.ownsRow B 120 5 nv' (T.length + 1) (rows.flatten ++ [.int .i64 t.k, .int .i64 t.a, .int .i64 t.b, .string t.s, av]))
    (hs : W.ownsRow B 3 1 sv' (T.length + 1) ((T.map fun t => .int .i64 ((enc t).length : Nat)) ++ [.int .i64 ((enc t).length : Nat)]))
    (hm : W.ownsMap Tryz.prog 169 (plainElem Tryz.prog 34) mb (T.length + 1) D') (hD : Idx (T ++ [t]) D')
    (hj : Args T t.l js) (ha : W.ownsRow B 34 1 av js.length ((js.map Int.ofNat).map (Value.int .i64)))
    (zn : ∀ i, nv'.ownBlock = some i → S i ∨ w.heap.size ≤ i) (zs : ∀ i, sv'.ownBlock = some i → S i ∨ w.heap.size ≤ i) {m : Nat} (hm' : m ≤ w.heap.size) (za : ∀ i, av.ownBlock = some i → m ≤ i) :
    ∃ S', Ar B W g (T ++ [t]) S' ∧ (∀ i, S i → S' i) ∧ ∀ i, S' i → S i ∨ m ≤ i := by
  refine ⟨fun i => S i ∨ nv'.ownBlock = some i ∨ sv'.ownBlock = some i ∨ av.ownBlock = some i, ⟨nv', sv', mb, rows ++ [[.int .i64 t.k, .int .i64 t.a, .int .i64 t.b, .string t.s, av]], D', ?_⟩, fun i hi => .inl hi, ?_⟩
  · refine ⟨hok, hblk, by simpa using hn, by simp [h.nrows], ?_, by simpa using hs, by simpa using hm, hD, .inl h.sg, .inl h.sm, fun i hi => .inr (.inl hi), fun i hi => .inr (.inr (.inl hi)), ?_, ?_⟩
    · intro i u us hi hu
      rcases Nat.lt_or_ge i T.length with hlt | hge
      · rw [List.getElem?_append_left hlt] at hi
        rw [List.getElem?_append_left (by rw [h.nrows]; exact hlt)] at hu
        obtain ⟨av0, ks, e, h1, h2, h3⟩ := h.node i u us hi hu
        exact ⟨av0, ks, e, h1.pre (List.prefix_append _ _), hO.own h2 (h.arg_out h2), fun i hi => .inl (h3 i hi)⟩
      · have h1 := (List.getElem?_eq_some_iff.1 hi).1
        simp only [List.length_append, List.length_cons, List.length_nil] at h1
        obtain rfl : i = T.length := by omega
        rw [List.getElem?_append_right (Nat.le_refl _), Nat.sub_self] at hi
        rw [← h.nrows, List.getElem?_append_right (Nat.le_refl _), Nat.sub_self] at hu
        simp only [List.getElem?_cons_zero, Option.some.injEq] at hi hu
        subst hi hu
        exact ⟨av, js, rfl, hj.pre (List.prefix_append _ _), ha, fun i hi => .inr (.inr (.inr hi))⟩
    · rintro i (hi | hi | hi | hi)
      · exact h.sB i hi
      · exact (hn.lt i hi).1
      · exact (hs.lt i hi).1
      · exact (ha.lt i hi).1
    · rintro i (hi | hi | hi | hi)
      · exact Nat.lt_of_lt_of_le (h.sL i hi) hO.size
      · exact (hn.lt i hi).2
      · exact (hs.lt i hi).2
      · exact (ha.lt i hi).2
  · rintro i (hi | hi | hi | hi)
    · exact .inl hi
    · exact (zn i hi).imp id (Nat.le_trans hm')
    · exact (zs i hi).imp id (Nat.le_trans hm')
    · exact .inr (za i hi)
end
end Go.Proofs.YtkpikfdfekggbaaGreatDoor
