/-
  The contract of shibbolethlaw13.drain. Conditions: a stream of up to 2,000 bytes, a row of up to 10,000 strings.
-/
import Derived.Test.YtejikjpaclnncaaPieces2
namespace Go.Proofs.Ytejikjpaclnncaa
open Go.ChangeShapes Go.WideShapes Go.ChangeAt Go.RowKit Go.Deep

/-- Below block B, w' is as w was, but for block g. -/
structure Fr (B g : Nat) (w w' : World) : Prop where
  os : w'.os = w.os
  tape : w'.tape = w.tape
  output : w'.output = w.output
  size : w.heap.size ≤ w'.heap.size
  block : ∀ i, i < B → i ≠ g → w'.heap[i]? = w.heap[i]?
theorem Fr.refl (B g : Nat) (w : World) : Fr B g w w := ⟨rfl, rfl, rfl, Nat.le_refl _, fun _ _ _ => rfl⟩
theorem Fr.grow {B g : Nat} {a b c : World} {row : Option Nat} (h : Fr B g a b) (k : b.grownBy c row) (hB : B ≤ a.heap.size) (hr : ∀ i, row = some i → i = g ∨ B ≤ i) : Fr B g a c :=
  ⟨k.os.trans h.os, k.tape.trans h.tape, k.output.trans h.output, Nat.le_trans h.size k.size, fun i hi hg => (k.block i (Nat.lt_of_lt_of_le hi (Nat.le_trans hB h.size)) (by
    intro he
    rcases hr i he.symm with h1 | h1
    · exact hg h1
    · omega)).trans (h.block i hi hg)⟩
theorem Fr.alloc {B g : Nat} {a b : World} (h : Fr B g a b) (o : Obj) (hB : B ≤ a.heap.size) : Fr B g a (b.alloc o) := h.grow (only_of_below (bel_alloc (Below.refl _ _) o) none) hB (by simp)
theorem own_ge {w : World} {B : Nat} {e : TypeId} {size n : Nat} {v : Value} {xs : List Value} (h : w.ownsRow B e size v n xs) : ∀ i, v.ownBlock = some i → B ≤ i := by
  intro i hi
  rcases h.2 with ⟨rfl, _⟩ | ⟨g', cap, cur, rfl, hb, _⟩
  · simp [Value.ownBlock] at hi
  · simp only [Value.ownBlock, Option.some.injEq] at hi
    omega
theorem own_only {w w' : World} {B : Nat} {e : TypeId} {size n g : Nat} {v : Value} {xs : List Value} (h : w.ownsRow B e size v n xs) (k : w.grownBy w' (some g)) (hg : g < B) : w'.ownsRow B e size v n xs := by
  refine ⟨h.1, ?_⟩
  rcases h.2 with h1 | ⟨g', cap, cur, hv, hb, hc, hr⟩
  · exact .inl h1
  · refine .inr ⟨g', cap, cur, hv, hb, (k.block g' ?_ ?_).trans hc, hr⟩
    · exact Blk.lt (cs := cur) (t := e) hc
    · intro he
      have : g' = g := by simpa using he
      omega
theorem one_reads (w : World) (t : TypeId) (u : Value) : Reads (w.alloc (.cells #[u] t)) (w.alloc (.cells #[u] t)).heap.size 1 (some ⟨w.heap.size, 0, none⟩) 1 [u] := by
  refine ⟨rfl, fun _ => ⟨_, rfl, by simp, fun j x hx => ?_⟩⟩
  match j, hx with
  | 0, hx =>
    simp only [List.getElem?_cons_zero, Option.some.injEq] at hx
    subst hx
    exact (Blk.new w t #[u]).cell 0
theorem one_cells (r : ByteArray) : ∀ u ∈ [Value.string r], u.oneCell' = true := by
  intro u hu
  simp only [List.mem_singleton] at hu
  subst hu
  rfl
theorem str_info : (Try.prog.info? 9).map (fun i => (i.zero, i.size, i.bytes)) = some (some (.string ⟨#[]⟩), 1, 16) := by kernel_rfl
def toL (r : ByteArray) : List UInt8 := r.data.toList
/-- What drain returns. -/
def DrainP (B g n : Nat) (s : ByteArray) (x : Int) (xs : List ByteArray) (b : Bool) (w : World) (e : Ending) (w' : World) : Prop :=
  ∃ (v' : Value) (o : List ByteArray) (t : ByteArray) (y : Int) (b' : Bool), e = .returned (.tuple #[v', .bool b']) ∧ DR (toL s, x) b (o.map toL) (toL t, y) b' ∧
    w'.ownsRow B 9 1 v' (n + o.length) ((xs ++ o).map Value.string) ∧ Stm w' g t y ∧ Fr B g w w'
theorem dr_line {p : St} {b : Bool} {a1 : List UInt8} {a3 : Int} {a4 : List UInt8} {a5 x1 : Int} {r0 s1 : ByteArray} {o : List ByteArray} {q : St} {c1 : List UInt8} {c3 : Int} {c4 : List UInt8} {c5 : Int} {t3 : ByteArray} (hb : b = false)
    (hp : lT p = ((a1, true, a3), (a4, a5))) (hs : s1.data.toList = a4) (hr : r0.data.toList = a1) (hx : a5 = x1) (hu : Un (toL s1, x1) (o.map toL) q) (hq : uT q = ((c1, false, c3), (c4, c5))) (ht : toL t3 = c4) :
    DR p b ((r0 :: o).map toL) (toL t3, c5) true := by
  refine .inr (.inl ⟨hb, by rw [hp], ⟨o.map toL, ?_, ?_⟩, rfl⟩)
  · rw [hp, List.map_cons, show toL r0 = a1 from hr]
  · rw [hp, ← hs, hx]
    exact ⟨q, hu, by rw [hq], by rw [hq, ht]⟩
set_option maxRecDepth 100000 in
set_option maxHeartbeats 1000000 in
theorem drain_any {B g n : Nat} {s : ByteArray} {x : Int} {v : Value} {xs : List ByteArray} {b : Bool} {w : World} (h : Stm w g s x) (hs : s.size ≤ 2000) (hown : w.ownsRow B 9 1 v n (xs.map Value.string)) (hB : B ≤ w.heap.size) (hg : g < B) (hn : n ≤ 10000) :
    Calls Try.prog 24 #[.pointer (some ⟨g, 0, none⟩), v, .bool b] w (DrainP B g n s x xs b w) := by
  obtain ⟨i0, hi0, hz0, hz1, hz2⟩ := info_parts str_info
  cases b
  · have L0 := hide (line_any h (by omega))
    have eu : lineD s.data.toList x = lT (toL s, x) := rfl
    have hll : (lT (toL s, x)).2.1.length ≤ s.size := line_le (toL s) x
    rw [eu] at L0
    clear eu
    rcases hp : lT (toL s, x) with ⟨⟨z1, z2, z3⟩, z4, z5⟩
    rw [hp] at L0 hll
    have Hp0 := hide hp
    clear hp
    cases z2
    · go_enter Try.func24, Try.ntmps24
      go_wp2_with (go_at_call 29; refine L0.out.mono ?_; rintro e w3 ⟨r, t3, rfl, _, h3, ht3, ho3⟩; have Ht3 := hide ht3; clear ht3)
      go_ret2
      have e1 : toL t3 = z4 := Ht3.out
      refine ⟨_, [], t3, z5, false, rfl, ?_, by rw [List.append_nil]; exact own_only hown ho3 hg, h3, (Fr.refl B g w).grow ho3 hB (by simp)⟩
      exact .inr (.inr ⟨rfl, by rw [Hp0.out], rfl, by rw [Hp0.out, e1], rfl⟩)
    · go_enter Try.func24, Try.ntmps24
      go_wp2_with (first
        | (go_at_call 29; refine L0.out.mono ?_; rintro e w3 ⟨r0, s1, rfl, hr3, h3, ht3, ho3⟩; have Hs1 := hide ht3; have Hr0 := hide hr3; have hown3 := own_only hown ho3 hg; have hw3 := ho3.size; clear ht3 hr3)
        | (at_builtin; refine wpList_append_any _ rfl (.tmp 26) (.tmp 28) _ rfl B 9 i0 _ 1 16 Try.underlying36 hi0 hz0 hz1 hz2 rfl (by omega) _ _ _ rfl (hown3.alloc _) _ _ 1 1 [.string r0] rfl (one_reads _ _ _) (one_cells _) (by simp only [maxLen]; omega) (by omega) (by simp; omega) ?_; intro v5 w5 hown5 hg5 _))
      have h1 : Stm w5 g s1 z5 := Blk.grown (Blk.alloc h3 _) hg5 (by intro he; have := own_ge hown3 g he.symm; omega)
      have hf1 : Fr B g w w5 := (((Fr.refl B g w).grow ho3 hB (by simp)).alloc _ hB).grow hg5 hB (fun i hi => .inr (own_ge hown3 i hi))
      have hss : s1.size ≤ 2000 := by
        have hq : s1.data.toList.length = s1.size := rfl
        rw [Hs1.out] at hq
        have : z4.length ≤ s.size := hll
        omega
      have hown1 : w5.ownsRow B 9 1 v5 (n + 1) ((xs ++ [r0]).map Value.string) := by rw [List.map_append]; exact hown5
      clear hown5 hown3 hown h hll hg5 h3
      generalize hn1 : n + 1 = n1 at hown1
      generalize hx1 : xs ++ [r0] = xs1 at hown1
      generalize hz5 : z5 = x1 at h1
      go_wp2
      go_loopw [1, 11] (fun v i wr => ∃ (k : Nat) (o : List ByteArray) (t : ByteArray) (y : Int), i = .int .i64 k ∧ o.length = k ∧ wr.ownsRow B 9 1 v (n1 + o.length) ((xs1 ++ o).map Value.string) ∧ Un (toL s1, x1) (o.map toL) (toL t, y) ∧ Stm wr g t y ∧ Fr B g w wr) (fun _ i _ => 600 - (intOf i).toNat)
      case atStart => exact ⟨0, [], s1, x1, rfl, rfl, by rw [List.append_nil]; exact hown1, .nil _, h1, hf1⟩
      case round =>
        obtain ⟨k, o, t, y, rfl, hok, hown, hun, hst, hfr⟩ := hrel
        have hul := hun.len
        have hs1' : (toL s1).length = s1.size := rfl
        have ht1' : (toL t).length = t.size := rfl
        rw [List.length_map, hok] at hul
        have hk6 : k < 600 := by
          show k < 600
          have : 5 * k + (toL t).length ≤ (toL s1).length := hul
          omega
        have hts : t.size ≤ 2000 := by
          have : 5 * k + (toL t).length ≤ (toL s1).length := hul
          omega
        have Hun := hide hun
        have L := hide (unitU_any hst (by omega))
        have eu : unitD t.data.toList y = uT (toL t, y) := rfl
        rw [eu] at L
        have hwr := hfr.size
        clear hun hul hs1' ht1' eu
        rcases hp : uT (toL t, y) with ⟨⟨z1, z2, z3⟩, z4, z5⟩
        rw [hp] at L
        have Hp := hide hp
        clear hp
        cases z2
        · go_wp2_with (go_at_call 31; refine L.out.mono ?_; rintro e w3 ⟨r, t3, rfl, _, h3, ht3, ho3⟩; have Ht3 := hide ht3; clear ht3)
          go_ret2
          have e1 : toL t3 = z4 := Ht3.out
          refine ⟨_, r0 :: o, t3, z5, true, rfl, ?_, (by have hq := own_only hown ho3 hg; rw [← hn1, ← hx1] at hq; rw [List.append_assoc, Nat.add_assoc] at hq; rw [List.length_cons, Nat.add_comm o.length 1]; exact hq), h3, hfr.grow ho3 hB (by simp)⟩
          exact dr_line rfl Hp0.out Hs1.out Hr0.out hz5 Hun.out Hp.out e1
        · go_wp2_with (first
            | (go_at_call 31; refine L.out.mono ?_; rintro e w3 ⟨r, t3, rfl, hr3, h3, ht3, ho3⟩; have Ht3 := hide ht3; have Hr3 := hide hr3; have hown3 := own_only hown ho3 hg; have hw3 := ho3.size; clear ht3 hr3)
            | (at_builtin; refine wpList_append_any _ rfl (.tmp 43) (.tmp 45) _ rfl B 9 i0 _ 1 16 Try.underlying36 hi0 hz0 hz1 hz2 rfl (by omega) _ _ _ rfl (hown3.alloc _) _ _ 1 1 [.string r] rfl (one_reads _ _ _) (one_cells _) (by simp only [maxLen]; omega) (by omega) (by simp; omega) ?_; intro v5 w5 hown5 hg5 _))
          go_wp2
          go_roundw
          case rel =>
            have e1 : toL t3 = z4 := Ht3.out
            have e2 : toL r = z1 := Hr3.out
            refine ⟨k + 1, o ++ [r], t3, z5, by go_num, by rw [List.length_append, hok]; rfl, ?_, ?_, ?_, ?_⟩
            · have hx := hown5
              rw [← List.append_assoc, List.length_append, List.map_append]
              exact hx
            · have hsn := Hun.out.snoc (by rw [Hp.out])
              rw [Hp.out] at hsn
              rw [List.map_append, e1]
              show Un _ (o.map toL ++ [toL r]) _
              rw [e2]
              exact hsn
            · exact Blk.grown (Blk.alloc h3 _) hg5 (by intro he; have := own_ge hown3 g he.symm; omega)
            · exact ((hfr.grow ho3 hB (by simp)).alloc _ hB).grow hg5 hB (fun i hi => .inr (own_ge hown3 i hi))
          case measure => simp [intOf]; omega
  · have h1 : Stm w g s x := h
    have hf1 : Fr B g w w := Fr.refl B g w
    have hown1 := hown
    have hss := hs
    clear hown h
    generalize hs1 : s = s1 at *
    generalize hx1 : x = x1 at *
    generalize hn1 : n = n1 at *
    generalize hxs1 : xs = xs1 at *
    go_enter Try.func24, Try.ntmps24
    go_wp2
    go_loopw [1, 11] (fun v i wr => ∃ (k : Nat) (o : List ByteArray) (t : ByteArray) (y : Int), i = .int .i64 k ∧ o.length = k ∧ wr.ownsRow B 9 1 v (n1 + o.length) ((xs1 ++ o).map Value.string) ∧ Un (toL s1, x1) (o.map toL) (toL t, y) ∧ Stm wr g t y ∧ Fr B g w wr) (fun _ i _ => 600 - (intOf i).toNat)
    case atStart => exact ⟨0, [], s1, x1, rfl, rfl, by rw [List.append_nil]; exact hown1, .nil _, h1, hf1⟩
    case round =>
      obtain ⟨k, o, t, y, rfl, hok, hown, hun, hst, hfr⟩ := hrel
      have hul := hun.len
      have hs1' : (toL s1).length = s1.size := rfl
      have ht1' : (toL t).length = t.size := rfl
      rw [List.length_map, hok] at hul
      have hk6 : k < 600 := by
        show k < 600
        have : 5 * k + (toL t).length ≤ (toL s1).length := hul
        omega
      have hts : t.size ≤ 2000 := by
        have : 5 * k + (toL t).length ≤ (toL s1).length := hul
        omega
      have Hun := hide hun
      have L := hide (unitU_any hst (by omega))
      have eu : unitD t.data.toList y = uT (toL t, y) := rfl
      rw [eu] at L
      have hwr := hfr.size
      clear hun hul hs1' ht1' eu
      rcases hp : uT (toL t, y) with ⟨⟨z1, z2, z3⟩, z4, z5⟩
      rw [hp] at L
      have Hp := hide hp
      clear hp
      cases z2
      · go_wp2_with (go_at_call 31; refine L.out.mono ?_; rintro e w3 ⟨r, t3, rfl, _, h3, ht3, ho3⟩; have Ht3 := hide ht3; clear ht3)
        go_ret2
        have e1 : toL t3 = z4 := Ht3.out
        refine ⟨_, o, t3, z5, true, rfl, ?_, own_only hown ho3 hg, h3, hfr.grow ho3 hB (by simp)⟩
        exact .inl ⟨rfl, ⟨_, Hun.out, by rw [Hp.out], by rw [Hp.out, e1]⟩, rfl⟩
      · go_wp2_with (first
          | (go_at_call 31; refine L.out.mono ?_; rintro e w3 ⟨r, t3, rfl, hr3, h3, ht3, ho3⟩; have Ht3 := hide ht3; have Hr3 := hide hr3; have hown3 := own_only hown ho3 hg; have hw3 := ho3.size; clear ht3 hr3)
          | (at_builtin; refine wpList_append_any _ rfl (.tmp 43) (.tmp 45) _ rfl B 9 i0 _ 1 16 Try.underlying36 hi0 hz0 hz1 hz2 rfl (by omega) _ _ _ rfl (hown3.alloc _) _ _ 1 1 [.string r] rfl (one_reads _ _ _) (one_cells _) (by simp only [maxLen]; omega) (by omega) (by simp; omega) ?_; intro v5 w5 hown5 hg5 _))
        go_wp2
        go_roundw
        case rel =>
          have e1 : toL t3 = z4 := Ht3.out
          have e2 : toL r = z1 := Hr3.out
          refine ⟨k + 1, o ++ [r], t3, z5, by go_num, by rw [List.length_append, hok]; rfl, ?_, ?_, ?_, ?_⟩
          · have hx := hown5
            rw [← List.append_assoc, List.length_append, List.map_append]
            exact hx
          · have hsn := Hun.out.snoc (by rw [Hp.out])
            rw [Hp.out] at hsn
            rw [List.map_append, e1]
            show Un _ (o.map toL ++ [toL r]) _
            rw [e2]
            exact hsn
          · exact Blk.grown (Blk.alloc h3 _) hg5 (by intro he; have := own_ge hown3 g he.symm; omega)
          · exact ((hfr.grow ho3 hB (by simp)).alloc _ hB).grow hg5 hB (fun i hi => .inr (own_ge hown3 i hi))
        case measure => simp [intOf]; omega
end Go.Proofs.Ytejikjpaclnncaa
