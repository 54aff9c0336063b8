/-
  Arguments of any plain type (numbers, bools, strings; slices, arrays and structs of such), opened at once. Conditions: none.
-/
import Derived.Test.YtdhopoafpddjpaaDoorLaw
import Derived.ChangeArms
set_option linter.unusedVariables false
set_option linter.unusedSimpArgs false
namespace Go.Proofs.YtdhopoafpddjpaaDoor
open Go.ChangeShapes Go.WideShapes Go.ChangeAt Go.RowKit

/-- What a cell holds: a bool, a number, a string, or a slice of elements of so many cells. -/
inductive Shp where
  | b
  | i (k : IntKind)
  | s
  | sl (l : List Shp)

mutual
def Shp.ok (w : World) : Shp → Value → Prop
  | .b, v => ∃ x, v = .bool x
  | .i k, v => ∃ n, v = .int k n ∧ (Lit.int k n).wf = true
  | .s, v => ∃ s : ByteArray, v = .string s ∧ s.size ≤ maxLen
  | .sl l, v => ∃ A n c, v = .slice A n c ∧ n ≤ c ∧ c ≤ maxLen ∧ ∀ j, j < n → ∃ ad us, A = some ad ∧ (∀ i u, us[i]? = some u → w.cell? (ad.add (j * l.length + i)) = some u) ∧ Shp.oks w l us
def Shp.oks (w : World) : List Shp → List Value → Prop
  | [], [] => True
  | a :: l, v :: vs => Shp.ok w a v ∧ Shp.oks w l vs
  | _, _ => False
end
def Shp.zero : Shp → Value
  | .b => .bool false
  | .i k => .int k 0
  | .s => .string ByteArray.empty
  | .sl _ => .slice none 0 0
theorem oks_len {w : World} : ∀ {l : List Shp} {us : List Value}, Shp.oks w l us → us.length = l.length
  | [], [], _ => rfl
  | [], _ :: _, h => by simp [Shp.oks] at h
  | _ :: _, [], h => by simp [Shp.oks] at h
  | _ :: l, _ :: us, h => by
    simp only [Shp.oks] at h
    simp [oks_len h.2]
theorem oks_append {w : World} : ∀ {l m : List Shp} {us vs : List Value}, Shp.oks w l us → Shp.oks w m vs → Shp.oks w (l ++ m) (us ++ vs)
  | [], _, [], _, _, h => h
  | [], _, _ :: _, _, h, _ => by simp [Shp.oks] at h
  | _ :: _, _, [], _, h, _ => by simp [Shp.oks] at h
  | _ :: l, m, _ :: us, vs, h, h' => by
    simp only [Shp.oks, List.cons_append] at h ⊢
    exact ⟨h.1, oks_append h.2 h'⟩

def catS : List (Nat × List Shp) → Nat → Option (List Shp)
  | [], _ => some []
  | (o, l) :: r, p => if o = p then (catS r (p + l.length)).map (l ++ ·) else none
def shapes (P : Program) : Nat → TypeId → Option (List Shp)
  | 0, _ => none
  | n + 1, t =>
    match P.underlying t with
    | some .bool => some [.b]
    | some (.int k) => some [.i k]
    | some .string => some [.s]
    | some (.slice e) => (shapes P n e).bind fun l => if l.length = P.cellsOf e then some [.sl l] else none
    | some (.struct fs) => (fs.toList.mapM fun f => (shapes P n f.type).bind fun l => if l.length = P.cellsOf f.type then some (f.offset, l) else none).bind fun ls => (catS ls 0).bind fun l => if l.length = P.cellsOf t then some l else none
    | some (.array m e) => (shapes P n e).bind fun l => if l.length = P.cellsOf e ∧ m * l.length = P.cellsOf t then some (List.replicate m l).flatten else none
    | _ => none

theorem catS_oks {w : World} {cs : List Value} : ∀ (ls : List (Nat × List Shp)) (p : Nat) (l : List Shp), catS ls p = some l → (∀ q ∈ ls, Shp.oks w q.2 ((cs.drop q.1).take q.2.length)) → p + l.length = cs.length → Shp.oks w l (cs.drop p) := by
  intro ls
  induction ls with
  | nil =>
    intro p l h _ hl
    simp only [catS, Option.some.injEq] at h
    subst h
    rw [List.drop_eq_nil_of_le (by simp at hl; omega)]
    simp [Shp.oks]
  | cons q r ih =>
    obtain ⟨o, l0⟩ := q
    intro p l h hq hl
    simp only [catS] at h
    split at h
    · rename_i ho
      subst ho
      simp only [Option.map_eq_some_iff] at h
      obtain ⟨l1, h1, rfl⟩ := h
      have h0 := hq (o, l0) (by simp)
      have h2 := ih _ _ h1 (fun q hm => hq q (by simp [hm])) (by simp at hl; omega)
      have := oks_append h0 h2
      rwa [show (cs.drop o).take l0.length ++ cs.drop (o + l0.length) = cs.drop o by rw [← List.drop_drop]; exact List.take_append_drop _ _] at this
    · cases h
theorem rep_oks {w : World} {l : List Shp} : ∀ (m : Nat) (cs : List Value), cs.length = m * l.length → (∀ i, i < m → Shp.oks w l ((cs.drop (i * l.length)).take l.length)) → Shp.oks w (List.replicate m l).flatten cs := by
  intro m
  induction m with
  | zero =>
    intro cs hl _
    obtain rfl := List.eq_nil_of_length_eq_zero (by simpa using hl)
    simp [Shp.oks]
  | succ m ih =>
    intro cs hl h
    rw [List.replicate_succ, List.flatten_cons]
    have h0 := h 0 (by omega)
    rw [Nat.zero_mul, List.drop_zero] at h0
    have h1 := ih (cs.drop l.length) (by rw [List.length_drop, hl, Nat.succ_mul]; omega) (fun i hi => by
      have := h (i + 1) (by omega)
      rwa [List.drop_drop, show l.length + i * l.length = (i + 1) * l.length by rw [Nat.succ_mul]; omega])
    have := oks_append h0 h1
    rwa [List.take_append_drop] at this
theorem mapM_mem {α β : Type} {f : α → Option β} : ∀ {l : List α} {r : List β}, l.mapM f = some r → ∀ y ∈ r, ∃ x, x ∈ l ∧ f x = some y := by
  intro l
  induction l with
  | nil => intro r h; simp at h; subst h; simp
  | cons x xs ih =>
    intro r h y hy
    rw [List.mapM_cons] at h
    cases hx : f x with
    | none => simp [hx] at h
    | some z =>
      cases hxs : xs.mapM f with
      | none => simp [hx, hxs] at h
      | some ys =>
        simp [hx, hxs] at h
        subst h
        rcases List.mem_cons.1 hy with rfl | hy
        · exact ⟨x, by simp, hx⟩
        · obtain ⟨x', h1, h2⟩ := ih hxs y hy
          exact ⟨x', by simp [h1], h2⟩
theorem cells_some {w : World} {base : Nat} {a : Addr} {n : Nat} {us : List Value} (h : w.cells? base a n = some us) : us.length = n ∧ ∀ i u, us[i]? = some u → w.cell? (a.add i) = some u := by
  unfold World.cells? at h
  split at h
  · have hl : us.length = n := by simpa using mapM_some_length h
    refine ⟨hl, fun i u hu => ?_⟩
    have hi : i < n := by
      rcases Nat.lt_or_ge i us.length with hlt | hge
      · omega
      · rw [List.getElem?_eq_none hge] at hu; cases hu
    have := mapM_some_get h i i (by simp [hi])
    rw [this, hu]
  · cases h

section
variable {H : Type} {enc : TypeId × Value → H} {P : Program} {w : World} {base : Nat} {spare : Nat → Bool} {held : Bool}
theorem shapes_oks : ∀ (n : Nat) (t : TypeId) (l : List Shp), shapes P n t = some l → ∀ (fuel : Nat) (cs : List Value) (x : DataW H × List MemPlace), DataW.trod enc P w base spare held fuel t cs = some x → Shp.oks w l cs := by
  intro n
  induction n with
  | zero => intro t l h; simp [shapes] at h
  | succ n ih =>
    intro t l h fuel cs x hx
    unfold shapes at h
    split at h
    · rename_i hu
      simp only [Option.some.injEq] at h
      subst h
      obtain ⟨b, rfl, _⟩ := DataW.trod_bool hu hx
      simp [Shp.oks, Shp.ok]
    · rename_i k hu
      simp only [Option.some.injEq] at h
      subst h
      obtain ⟨b, rfl, _, hw⟩ := DataW.trod_int hu hx
      simp only [Shp.oks, Shp.ok]
      exact ⟨⟨_, rfl, hw⟩, trivial⟩
    · rename_i hu
      simp only [Option.some.injEq] at h
      subst h
      obtain ⟨b, rfl, _, hw⟩ := DataW.trod_string hu hx
      simp only [Shp.oks, Shp.ok]
      exact ⟨⟨_, rfl, hw⟩, trivial⟩
    · rename_i e hu
      simp only [Option.bind_eq_some_iff] at h
      obtain ⟨le, hle, h⟩ := h
      split at h
      · rename_i hlen
        simp only [Option.some.injEq] at h
        subst h
        rcases DataW.trod_slice hu hx with ⟨rfl, _⟩ | ⟨a, len, cap, elems, rest, m, _, rfl, _, _, hlc, hcm, hel, hi, _⟩
        · simp only [Shp.oks, Shp.ok]
          exact ⟨⟨none, 0, 0, rfl, Nat.le_refl _, Nat.zero_le _, fun j hj => absurd hj (Nat.not_lt_zero _)⟩, trivial⟩
        · simp only [Shp.oks, Shp.ok]
          refine ⟨⟨some a, len, cap, rfl, hlc, hcm, fun j hj => ?_⟩, trivial⟩
          have h1 := hi j hj
          rw [List.getElem?_eq_getElem (by omega), Option.bind_eq_some_iff] at h1
          obtain ⟨us, hus, h2⟩ := h1
          obtain ⟨_, hc⟩ := cells_some hus
          refine ⟨a, us, rfl, fun i u hu => ?_, ih _ _ hle _ _ _ h2⟩
          rw [hlen, ← add_of_add]
          exact hc i u hu
      · cases h
    · rename_i fs hu
      simp only [Option.bind_eq_some_iff] at h
      obtain ⟨ls, hls, l', hcat, h⟩ := h
      split at h
      · rename_i hlen
        simp only [Option.some.injEq] at h
        subst h
        obtain ⟨xs, m, _, _, hcl, hxl, hf⟩ := DataW.trod_struct hu hx
        have := catS_oks (w := w) (cs := cs) ls 0 l' hcat (fun q hq => ?_) (by omega)
        · exact this
        · obtain ⟨f, hfm, hfq⟩ := mapM_mem hls q hq
          simp only [Option.bind_eq_some_iff] at hfq
          obtain ⟨lf, hlf, hfq⟩ := hfq
          split at hfq
          · rename_i hlf2
            simp only [Option.some.injEq] at hfq
            subst hfq
            obtain ⟨i, hi, hfi⟩ := List.getElem_of_mem hfm
            have h1 := hf i f (by rw [← hfi]; simp)
            rw [List.getElem?_eq_getElem (by simp at hi; omega)] at h1
            have h2 := ih _ _ hlf _ _ _ h1
            rw [← hlf2] at h2
            exact h2
          · cases hfq
      · cases h
    · rename_i m e hu
      simp only [Option.bind_eq_some_iff] at h
      obtain ⟨le, hle, h⟩ := h
      split at h
      · rename_i hlen
        simp only [Option.some.injEq] at h
        subst h
        obtain ⟨xs, m', _, _, hcl, hxl, hf⟩ := Go.DataW.trod_array hu hx
        refine rep_oks m cs (by omega) fun i hi => ?_
        have h1 := hf i hi
        rw [List.getElem?_eq_getElem (by omega), ← hlen.1] at h1
        exact ih _ _ hle _ _ _ h1
      · cases h
    · cases h
/-- An argument that is a struct. -/
theorem open_struct {W : World} {r : Reach} {b0 : Nat} {t : TypeId} {fs : Array Field} {v : Value} {d : DataW H} {ps : List MemPlace} (n : Nat) {l : List Shp} (ht : P.underlying t = some (.struct fs)) (hs : shapes P n t = some l)
    (hv : Value.okWide P W r b0 t v) (h : DataW.Trod enc P W base spare held t v d ps) : ∃ cs : List Value, v = .agg cs.toArray ∧ Shp.oks W l cs := by
  simp only [Value.okWide, ht] at hv
  obtain ⟨cs, rfl, _⟩ := hv
  obtain ⟨fuel, hf⟩ := h
  obtain ⟨cs⟩ := cs
  exact ⟨cs, rfl, shapes_oks n t l hs _ _ _ hf⟩
theorem open_array {W : World} {r : Reach} {b0 : Nat} {t e : TypeId} {m : Nat} {v : Value} {d : DataW H} {ps : List MemPlace} (n : Nat) {l : List Shp} (ht : P.underlying t = some (.array m e)) (hs : shapes P n t = some l)
    (hv : Value.okWide P W r b0 t v) (h : DataW.Trod enc P W base spare held t v d ps) : ∃ cs : List Value, v = .agg cs.toArray ∧ Shp.oks W l cs := by
  obtain ⟨cs, rfl, _⟩ := okWide_array ht hv
  obtain ⟨fuel, hf⟩ := h
  obtain ⟨cs⟩ := cs
  exact ⟨cs, rfl, shapes_oks n t l hs _ _ _ hf⟩
/-- An argument that is a slice. -/
theorem open_slice {W : World} {r : Reach} {b0 : Nat} {t e : TypeId} {v : Value} {d : DataW H} {ps : List MemPlace} (n : Nat) {l : List Shp} (ht : P.underlying t = some (.slice e)) (hs : shapes P n t = some [.sl l])
    (hv : Value.okWide P W r b0 t v) (h : DataW.Trod enc P W base spare held t v d ps) : Shp.ok W (.sl l) v := by
  obtain ⟨a0, l0, c0, rfl⟩ := okWide_slice ht hv
  obtain ⟨fuel, hf⟩ := h
  have h := shapes_oks n t _ hs _ _ _ hf
  simp only [Value.cells, Shp.oks] at h
  exact h.1
end

theorem cell_ltO {w : World} {a : Addr} {v : Value} (h : w.cell? a = some v) : a.block < w.heap.size := World.block_lt_of_cell? w _ h
section
variable {w : World}
/-- The rows of a slice, as data. -/
theorem rows_of {α : Type} [Inhabited α] {l : List Shp} {v : Value} (R : α → List Value → Prop) (h : Shp.ok w (.sl l) v) (hR : ∀ us, Shp.oks w l us → ∃ a, R a us) :
    ∃ A c, ∃ xs : List α, v = .slice A xs.length c ∧ xs.length ≤ c ∧ c ≤ maxLen ∧ ∀ j (hj : j < xs.length), ∃ ad us, A = some ad ∧ (∀ i u, us[i]? = some u → w.cell? (ad.add (j * l.length + i)) = some u) ∧ R xs[j] us := by
  simp only [Shp.ok] at h
  obtain ⟨A, n, c, rfl, hn, hc, h⟩ := h
  have hall : ∀ j, ∃ a : α, j < n → ∃ ad us, A = some ad ∧ (∀ i u, us[i]? = some u → w.cell? (ad.add (j * l.length + i)) = some u) ∧ R a us := by
    intro j
    by_cases hj : j < n
    · obtain ⟨ad, us, e, hc, ho⟩ := h j hj
      obtain ⟨a, ha⟩ := hR us ho
      exact ⟨a, fun _ => ⟨ad, us, e, hc, ha⟩⟩
    · exact ⟨default, fun h => absurd h hj⟩
  obtain ⟨f, hf⟩ := Classical.axiomOfChoice hall
  have hl : ((List.range n).map f).length = n := by simp
  refine ⟨A, c, (List.range n).map f, by rw [hl], by omega, hc, fun j hj => ?_⟩
  obtain ⟨ad, us, e, h1, h2⟩ := hf j (by omega)
  exact ⟨ad, us, e, h1, by simpa using h2⟩
instance : Inhabited {s : ByteArray // s.size ≤ maxLen} := ⟨⟨⟨#[]⟩, Nat.zero_le _⟩⟩
theorem strs_of {v : Value} (h : Shp.ok w (.sl [.s]) v) : ∃ ss : List ByteArray, Strs 0 w v ss ∧ ss.length ≤ maxLen ∧ ∀ s ∈ ss, s.size ≤ maxLen := by
  obtain ⟨A, c, xs, rfl, h1, h2, h⟩ := rows_of (α := {s : ByteArray // s.size ≤ maxLen}) (fun a us => us = [.string a.1]) h (fun us ho => by
    match us, ho with
    | [u], ho =>
      simp only [Shp.oks, Shp.ok, and_true] at ho
      obtain ⟨s, rfl, hs⟩ := ho
      exact ⟨⟨s, hs⟩, rfl⟩
    | [], ho => simp [Shp.oks] at ho
    | _ :: _ :: _, ho => simp [Shp.oks] at ho)
  refine ⟨xs.map (·.1), ⟨A, c, by simp, ?_⟩, by simp; omega, fun s hs => by obtain ⟨y, _, rfl⟩ := List.mem_map.1 hs; exact y.2⟩
  refine ⟨by simp, fun hn => ?_⟩
  simp only [List.length_map] at hn
  obtain ⟨ad, us, e, hc, hu⟩ := h 0 hn
  refine ⟨ad, e, Nat.zero_le _, ?_, fun j u hj => ?_⟩
  · subst hu
    have := cell_ltO (hc 0 _ rfl)
    rwa [block_of_add] at this
  · have hjl : j < xs.length := by
      rcases Nat.lt_or_ge j xs.length with hlt | hge
      · exact hlt
      · rw [List.getElem?_eq_none (by simpa using hge)] at hj; cases hj
    obtain ⟨ad', us', e', hc', hu'⟩ := h j hjl
    rw [e] at e'
    cases e'
    subst hu'
    have := hc' 0 _ rfl
    simp only [List.length_singleton, Nat.mul_one, Nat.add_zero] at this
    rw [this]
    simpa [hjl] using hj
end
end Go.Proofs.YtdhopoafpddjpaaDoor
