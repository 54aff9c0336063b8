/-
  A strings.Builder with the blocks that it writes: WriteString leaves all others as they were. Conditions: what is written is not too long.
-/
import Derived.Test.YtkpikfdfekggbaaGreatDoorHeadK
import Derived.Test.YtkpikfdfekggbaaGreatDoorPut
namespace Go.Proofs.YtkpikfdfekggbaaGreatDoor
open Go.RowKit Go.ChangeShapes Go.WideShapes

theorem run_append_str_at {P : Program} (w : World) (base : Nat) (t u ty e : TypeId) (i : TypeInfo) (ht : P.underlying t = some (.slice e)) (hu : P.underlying u = some .string) (hi : P.info? e = some i) (hz : i.zero = some (.int .u8 0))
    (hsize : i.size = 1) (hby : i.bytes = 1)
    (v : Value) (n : Nat) (xs : List Value) (hown : w.ownsRow base e 1 v n xs) (s : ByteArray)
    (h63 : n + s.size ≤ maxLen) (hbytes : n + s.size ≤ 140737488355328) (hbase : base ≤ w.heap.size) :
    ∃ v' w', (Builtin.append_ #[t, u] ty #[v, .string s]).run P w = .ok v' w' ∧ w'.ownsRow base e 1 v' (n + s.size) (xs ++ Lib.strCells s) ∧ w.grownBy w' v.ownBlock ∧ (v'.ownBlock = v.ownBlock ∨ v'.ownBlock = some w.heap.size) := by
  obtain ⟨v', w', hr, h2, h3, h4⟩ := Lib.run_append_own_string (P := P) w base t u ty e i ht hu hi hz hsize hby v n xs hown s h63 hbytes hbase
  refine ⟨v', w', hr, h2, h3, ?_⟩
  have hsmall : n + s.size ≤ 9223372036854775807 := by simp only [maxLen] at h63; omega
  have hxl : xs.length = n := by simpa using hown.1
  rcases hown.2 with ⟨rfl, rfl⟩ | ⟨g, cap, cur, rfl, hbg, hg, hnc, hcm, hcs, htake⟩
  · by_cases hm : s.size = 0
    · rw [h4.2 ⟨rfl, hm⟩]
      exact .inl rfl
    · have hr2 := run_append_nil_string (P := P) w t u ty e i (.int .u8 0) ht hu hi hz s (by omega) (by omega) (by rw [hby]; omega)
      rw [hr] at hr2
      injection hr2 with e1 e2
      rw [e1]
      exact .inr rfl
  · by_cases hroom : n + s.size ≤ cap
    · have hcs' : cur.size = cap := by simpa using hcs
      have hr2 := Lib.run_append_room_string (P := P) w t u ty e i ht hu hi hsize g n cap cur hg s hroom (by omega)
      rw [hr] at hr2
      injection hr2 with e1 e2
      rw [e1]
      exact .inl rfl
    · have holds : ∀ j u, xs[j]? = some u → w.cell? ((⟨g, 0, none⟩ : Addr).add j) = some u := hown.cells (g := g) rfl
      have hr2 := Lib.run_append_grow_string (P := P) w t u ty e i (.int .u8 0) ht hu hi hz ⟨g, 0, none⟩ n cap xs (by rw [hsize]; simpa using hxl) holds s (by omega) (by omega) (by rw [hby]; exact growslice_fits (by omega) (by omega))
      rw [hr] at hr2
      injection hr2 with e1 e2
      rw [e1]
      exact .inr rfl
theorem wpList_append_str {P : Program} {w : World} {ops : Array Oper} {rest : List Oper} {o : Oper} {a : Act} {Q : Exit → Act → World → Prop} (hgd : o.guard = none) (sl x : Operand) (t u : TypeId)
    (ho : o.op = .call { callee := .builtin .append, args := #[sl, x], argTypes := #[t, u] })
    (base : Nat) (e : TypeId) (i : TypeInfo) (ht : P.underlying t = some (.slice e)) (hu : P.underlying u = some .string) (hi : P.info? e = some i) (hz : i.zero = some (.int .u8 0))
    (hsize : i.size = 1) (hby : i.bytes = 1)
    (v : Value) (n : Nat) (xs : List Value) (hs : a.eval sl = v) (hown : w.ownsRow base e 1 v n xs) (s : ByteArray) (hx : a.eval x = .string s)
    (h63 : n + s.size ≤ maxLen) (hbytes : n + s.size ≤ 140737488355328) (hbase : base ≤ w.heap.size)
    (h : ∀ v' w', w'.ownsRow base e 1 v' (n + s.size) (xs ++ Lib.strCells s) → w.grownBy w' v.ownBlock → (v'.ownBlock = v.ownBlock ∨ v'.ownBlock = some w.heap.size) → wpList P ops Q rest (a.put o.dst v') w') : wpList P ops Q (o :: rest) a w := by
  refine wpList_plain hgd fun K hK => ?_
  obtain ⟨v', w', hr, h2, h3, h4⟩ := run_append_str_at (P := P) w base t u o.type e i ht hu hi hz hsize hby v n xs hown s h63 hbytes hbase
  unfold Oper.wp execOp
  simp only [ho, resolve, invoke, builtin, Sem.run_bind, Sem.run_pure, Result.andThen_ok, List.map_toArray, List.map_cons, List.map_nil, hs, hx, hr]
  exact hK _ _ (h v' w' h2 h3 h4)
/-- A builder that holds bytes; its blocks are S's. -/
structure BlS (B : Nat) (S : Nat → Prop) (b : Nat) (l : List UInt8) (w : World) : Prop where
  ex : ∃ p v, (p = .pointer none ∨ p = .pointer (some ⟨b, 0, none⟩)) ∧ Lib.BuilderAt 109 5 B b p (Lib.byteCells l) w ∧ Blk w b 109 #[p, v] ∧ ∀ i, v.ownBlock = some i → S i
  sb : S b
  sB : ∀ i, S i → B ≤ i
  sL : ∀ i, S i → i < w.heap.size
theorem Grown.row {S0 S : Nat → Prop} {w wx wz : World} {row : Option Nat} (h : Grown S0 w S wx) (k : wx.grownBy wz row) (hr : ∀ b, row = some b → S b) : Grown S0 w S wz :=
  ⟨k.os.trans h.os, k.tape.trans h.tape, k.output.trans h.output, Nat.le_trans h.size k.size, fun i hi hn => (k.block i (Nat.lt_of_lt_of_le hi h.size) (fun e => by
    rcases h.new i (hr i e.symm) with h3 | h3
    · exact hn h3
    · omega)).trans (h.block i hi hn), h.sub, h.new⟩
theorem Grown.widen {S0 S S2 : Nat → Prop} {w wx : World} (h : Grown S0 w S wx) (h1 : ∀ i, S i → S2 i) (h2 : ∀ i, S2 i → S i ∨ w.heap.size ≤ i) : Grown S0 w S2 wx :=
  ⟨h.os, h.tape, h.output, h.size, h.block, fun i hi => h1 i (h.sub i hi), fun i hi => by
    rcases h2 i hi with h3 | h3
    · exact h.new i h3
    · exact .inr h3⟩
section
variable {B b : Nat} {S : Nat → Prop} {l : List UInt8} {w w' : World}
theorem BlS.bld (h : BlS B S b l w) : Bld B b l w := by
  obtain ⟨p, v, hp, hb, _, _⟩ := h.ex
  rcases hp with rfl | rfl
  · exact .inl hb
  · exact .inr hb
theorem BlS.below (h : BlS B S b l w) (hb : Below w.heap.size w w') : BlS B S b l w' := by
  obtain ⟨p, v, hp, hB, hk, hs⟩ := h.ex
  refine ⟨⟨p, v, hp, ?_, hk.below hb hk.lt, hs⟩, h.sb, h.sB, fun i hi => Nat.lt_of_lt_of_le (h.sL i hi) hb.size⟩
  obtain ⟨h1, v', h2, h3, h4⟩ := hB
  exact ⟨h1, v', Blk.below (cs := #[p, v']) h2 hb (Blk.lt (cs := #[p, v']) h2), h3.kept (only_of_below hb none) (by cases v'.ownBlock <;> simp), h4⟩
theorem bls_new (w : World) : BlS w.heap.size (fun i => i = w.heap.size) w.heap.size [] (w.alloc (.cells #[.pointer none, .slice none 0 0] 109)) :=
  ⟨⟨_, _, .inl rfl, ⟨Nat.le_refl _, _, heap_alloc_new w _, World.ownsRow_nil _ _ _ _, by simp [Value.ownBlock]⟩, Blk.new w _ _, fun i hi => by simp [Value.ownBlock] at hi⟩, rfl, fun i hi => by omega, fun i hi => by simp; omega⟩
theorem bcopyS {p v : Value} {bs : List Value} (hp : p = .pointer none ∨ p = .pointer (some ⟨b, 0, none⟩)) (h : Lib.BuilderAt 109 5 B b p bs w) (hk : Blk w b 109 #[p, v]) :
    Calls Tryz.prog 123 #[.pointer (some ⟨b, 0, none⟩)] w fun e w' => e = .returned (.tuple #[]) ∧ Lib.BuilderAt 109 5 B b (.pointer (some ⟨b, 0, none⟩)) bs w' ∧ Blk w' b 109 #[.pointer (some ⟨b, 0, none⟩), v] ∧ w.grownBy w' (some b) := by
  rcases hp with rfl | rfl
  · refine (bcopy_fresh b w h.cell0 h.shape h.frozen0).mono ?_
    rintro e w' ⟨rfl, rfl⟩
    exact ⟨rfl, h.used _, by simpa using hk.set_ 0 (.pointer (some ⟨b, 0, none⟩)), only_setCell (only_refl w _) (.inl rfl) _⟩
  · refine (bcopy_used b w h.cell0).mono ?_
    rintro e w' ⟨rfl, rfl⟩
    exact ⟨rfl, h, hk, only_refl _ _⟩
set_option maxHeartbeats 2000000 in
set_option maxRecDepth 100000 in
theorem bwriteS (s : ByteArray) (h : BlS B S b l w) (hlen : l.length + s.size ≤ 140737488355328) (hBw : B ≤ w.heap.size) :
    Calls Tryz.prog 88 #[.pointer (some ⟨b, 0, none⟩), .string s] w fun e w' => e = .returned (.tuple #[.int .i64 s.size, .nilIface]) ∧ ∃ S', BlS B S' b (l ++ s.data.toList) w' ∧ Grown S w S' w' := by
  obtain ⟨i0, hi, hz0, hz1, hz2⟩ := info_parts infoByte
  obtain ⟨p, v, hp, hB, hk, hs⟩ := h.ex
  have hbc : (Lib.byteCells l).length = l.length := by simp [Lib.byteCells]
  have hS := h.sb
  have hSB := h.sB
  have hSL := h.sL
  have Hh := hide h
  clear h
  go_enter Tryz.func88, Tryz.ntmps88
  go_wp2_with (go_at_call 123; refine (bcopyS hp hB hk).mono ?_)
  rintro e w1 ⟨rfl, h1, hk1, hg1⟩
  obtain ⟨hB, v2, hbk, hown, hne⟩ := h1
  obtain rfl : v2 = v := by
    have := hbk.symm.trans hk1
    simp at this
    exact this
  have c0 : w1.cell? ⟨b, 0, none⟩ = some (.pointer (some ⟨b, 0, none⟩)) := by rw [Lib.cell_of_heap hbk]; rfl
  have c1 : w1.cell? ⟨b, 1, none⟩ = some v2 := by rw [Lib.cell_of_heap hbk]; rfl
  go_wp2_with (at_builtin; refine wpList_append_str rfl _ _ 107 9 rfl B 5 i0 Tryz.underlying107 Tryz.underlying9 hi hz0 hz1 hz2 _ _ _ rfl hown s rfl ?c3 ?c4 ?c5 ?_)
  case c3 => unfold maxLen; omega
  case c4 => omega
  case c5 => have := hg1.size; omega
  intro v' w2 hown' hgrow hor
  have hb2 := Blk.grown (g := b) hk1 hgrow (fun e => hne e.symm)
  have d0 : w2.cell? ⟨b, 0, none⟩ = some (.pointer (some ⟨b, 0, none⟩)) := by rw [Lib.cell_of_heap hb2]; rfl
  have d1 : w2.cell? ⟨b, 1, none⟩ = some v2 := by rw [Lib.cell_of_heap hb2]; rfl
  have f1 : w2.frozen? ⟨b, 1, none⟩ = false := Lib.frozen_of_heap hb2 1
  obtain ⟨ao, n', cap, rfl⟩ : ∃ ao n' cap, v' = .slice ao n' cap := by
    rcases hown'.2 with ⟨hv, _⟩ | ⟨g, cap, cur, hv, _⟩
    · exact ⟨_, _, _, hv⟩
    · exact ⟨_, _, _, hv⟩
  go_wp2
  go_ret2
  have hG1 : Grown S w S w1 := (Grown.refl S w).row hg1 (fun b' e => by cases e; exact hS)
  have hG2 : Grown S w S w2 := hG1.row hgrow hs
  have hz : w.heap.size ≤ w1.heap.size := hg1.size
  have hnew : ∀ i, (Value.slice ao n' cap).ownBlock = some i → S i ∨ w.heap.size ≤ i := by
    intro i hi
    rcases hor with h | h
    · exact .inl (hs i (h.symm.trans hi))
    · rw [h] at hi
      cases hi
      exact .inr hz
  have hG3 : Grown S w (fun i => S i ∨ (Value.slice ao n' cap).ownBlock = some i) (w2.setCell ⟨b, 1, none⟩ (.slice ao n' cap)) :=
    (hG2.row (only_setCell (only_refl w2 (some b)) (.inl rfl) _) (fun b' e => by cases e; exact hS)).widen (fun i hi => .inl hi) (fun i hi => by
      rcases hi with hi | hi
      · exact .inl hi
      · exact hnew i hi)
  refine ⟨rfl, _, ⟨⟨_, _, .inr rfl, ?_, by simpa using hb2.set_ 1 (.slice ao n' cap), fun i hi => .inr hi⟩, .inl hS, ?_, ?_⟩, hG3⟩
  · have := Lib.BuilderAt.put (T := 109) (e := 5) hB hb2 (bs' := Lib.byteCells l ++ Lib.strCells s) (by rw [List.length_append, hbc, Lib.strCells_length]; exact hown') (by decide)
    rw [← bytes_app]
    exact this
  · rintro i (hi | hi)
    · exact hSB i hi
    · exact (hown'.lt i hi).1
  · rintro i (hi | hi)
    · have := hSL i hi
      have := hG2.size
      simp only [World.size_setCell]
      omega
    · have := (hown'.lt i hi).2
      simpa only [World.size_setCell] using this
end
end Go.Proofs.YtkpikfdfekggbaaGreatDoor
