/-
  Several of my texts in one: MsgP, Schema, SchemaFit, MsgQ, Law, Open, MsgM.
-/
import Derived.Test.YtjaipdenahlheaaDoorKPureA
import Derived.Test.YtjaipdenahlheaaDoorKBaseG
import Derived.Test.YtjaipdenahlheaaDoorKRefA
import Derived.ProofKit
import Derived.OpenShut
import Derived.ChangeOld
import Derived.HandedShaped
import Derived.ChangeArms
set_option linter.unusedVariables false
set_option linter.unusedSimpArgs false
/-
  Names, values and messages as plain data: how they are written, and how they are read. Conditions: none.
-/
namespace Go.Proofs.YtjaipdenahlheaaDoor
/-- May it be a name? -/
def rightL (s : List UInt8) : Bool := (s.all fun c => decide (33 ≤ c.toNat) && decide (c.toNat ≤ 126) && !(c == 44)) && decide (1 ≤ s.length) && decide (s.length ≤ 64)
/-- What is wrong with names (0: nothing). -/
def wrongN (l : List (List UInt8)) : Nat := if 16 < l.length then 2 else if l.all rightL = true then 0 else 3
def joinC : List (List UInt8) → List UInt8
  | [] => []
  | [x] => x
  | x :: y :: r => x ++ 44 :: joinC (y :: r)
def splitC : List UInt8 → List (List UInt8)
  | [] => [[]]
  | c :: r => if c = 44 then [] :: splitC r else ((c :: (splitC r).headD []) :: (splitC r).tail)
theorem joinC_cons (x : List UInt8) {l : List (List UInt8)} (h : l ≠ []) : joinC (x :: l) = x ++ 44 :: joinC l := by
  cases l with
  | nil => exact absurd rfl h
  | cons y r => rfl
theorem right_len {s : List UInt8} (h : rightL s = true) : 1 ≤ s.length ∧ s.length ≤ 64 := by
  unfold rightL at h
  simp only [Bool.and_eq_true, decide_eq_true_eq] at h
  exact ⟨h.1.2, h.2⟩
theorem wrong_ok {l : List (List UInt8)} (h : wrongN l = 0) : l.length ≤ 16 ∧ ∀ x ∈ l, rightL x = true := by
  unfold wrongN at h
  split at h
  · cases h
  · split at h
    · rename_i h2
      exact ⟨by omega, by simpa using h2⟩
    · cases h
theorem wrong_cases (l : List (List UInt8)) : wrongN l = 0 ∨ wrongN l = 2 ∨ wrongN l = 3 := by
  unfold wrongN
  split
  · exact .inr (.inl rfl)
  · split
    · exact .inl rfl
    · exact .inr (.inr rfl)
theorem joinC_len {l : List (List UInt8)} (h : ∀ x ∈ l, x.length ≤ 64) : (joinC l).length ≤ l.length * 65 := by
  induction l with
  | nil => simp [joinC]
  | cons x l ih =>
    have h1 := h x (by simp)
    have h2 := ih (fun y hy => h y (by simp [hy]))
    by_cases hn : l = []
    · subst hn
      simp [joinC]
      omega
    · rw [joinC_cons _ hn]
      simp only [List.length_append, List.length_cons]
      omega
/-- A value of a message: its letter, a number, a text, texts. -/
structure Fld where
  k : Nat
  n : Int
  s : List UInt8
  l : List (List UInt8)
/-- What a reader gets: a value and what is left, or what is wrong. -/
inductive Res (α : Type) where
  | ok (a : α) (r : List UInt8)
  | no (e : Nat)
def Res.map {α β : Type} (f : α → β) : Res α → Res β
  | .ok a r => .ok (f a) r
  | .no e => .no e
/-- The texts of a value are no longer than that. -/
def fitF (x : Fld) : Prop := x.s.length < 4294967000 ∧ ∀ y ∈ x.l, y.length < 4294967000
end Go.Proofs.YtjaipdenahlheaaDoor

/-
  The contracts of package schema's functions: what each returns. Conditions: none.
-/
namespace Go.Proofs.YtjaipdenahlheaaDoor
open Go.RowKit

/-- The forms of a number. -/
def forms (n : Int) : List ByteArray :=
  if n = 1 then [⟨#[117, 115, 115]⟩] else if n = 2 then [⟨#[115]⟩] else if n = 5 then [⟨#[115]⟩] else if n = 6 then [⟨#[115]⟩]
  else if n = 3 then [⟨#[117]⟩] else if n = 4 then [⟨#[98, 115, 115]⟩] else if n = 7 then [⟨#[101]⟩]
  else if n = 20 then [⟨#[99, 110, 110, 110, 110, 110, 110, 110, 110, 110, 110, 98, 117]⟩] else if n = 21 then [⟨#[]⟩] else if n = 52 then [⟨#[]⟩]
  else if n = 30 then [⟨#[116]⟩] else if n = 32 then [⟨#[116]⟩] else if n = 31 then [⟨#[116, 116, 116]⟩, ⟨#[109, 109]⟩]
  else if n = 33 then [⟨#[116, 116, 116]⟩] else if n = 34 then [⟨#[117, 117, 117]⟩]
  else if n = 50 then [⟨#[115, 115, 115]⟩, ⟨#[115, 115, 115, 98, 115, 116]⟩, ⟨#[115, 115, 115, 98, 115, 116, 116]⟩]
  else if n = 51 then [⟨#[110, 98]⟩] else if n = 53 then [⟨#[115, 115]⟩] else if n = 60 then [⟨#[115, 116]⟩] else []

end Go.Proofs.YtjaipdenahlheaaDoor

/-
  The contract of schema.Fit. Conditions: the count is an int.
-/
namespace Go.Proofs.YtjaipdenahlheaaDoor
open Go.RowKit

def fit (n m : Int) : ByteArray × Bool := match (forms n).find? (fun s => (s.size : Int) == m) with | some s => (s, true) | none => (⟨#[]⟩, false)
end Go.Proofs.YtjaipdenahlheaaDoor

/-
  Payloads as plain data: how a message is written, and how it is read; that these undo each other. Conditions: none.
-/
namespace Go.Proofs.YtjaipdenahlheaaDoor
/-- What reading by a form gives: values, or what is wrong at which place, or that something is left. -/
inductive RdR where
  | ok (l : List Fld)
  | no (e : Nat) (i : Nat)
  | tail
def RdR.cons (x : Fld) : RdR → RdR
  | .ok l => .ok (x :: l)
  | .no e j => .no e j
  | .tail => .tail
/-- A payload, or what is wrong and where: in all (no place), or at a value. -/
inductive EncR where
  | ok (s : List UInt8)
  | none
  | long
  | bad (e : Nat) (i : Nat)
/-- A message, or what is wrong. -/
inductive DecR where
  | ok (num : Nat) (l : List Fld)
  | all (e : Nat)
  | bad (num : Nat) (e : RdR)
end Go.Proofs.YtjaipdenahlheaaDoor

/-
  The last step of a law, once for all laws of this seat: a call that returns true and leaves what was there as it was meets the given specification; and arguments that are arrays of integers or bools. Conditions: none.
-/
namespace Go.Proofs.YtjaipdenahlheaaDoor
open Go.ChangeShapes Go.WideShapes Go.ChangeAt Go.RowKit
open Go.ChangeMaps (open_string shut_string)

theorem own : ownKnob Tryd.prog.godebug = none := by kernel_rfl
theorem laidOut : laidOutB Tryd.prog = true := by kernel_rfl

section
variable {H : Type} {enc : TypeId × Value → H} {P : Program}
theorem trodAll_below {W W' : World} (hl : laidOutB P = true) (hb : Below W.heap.size W W') : ∀ (ts : List TypeId) (vs : List Value) (ds : List (DataW H)) (ps : List MemPlace),
    ts.all (fun t => P.readableRec t && decide (t < P.types.size)) = true → DataW.TrodAll enc P W 0 (fun _ => true) true ts vs ds ps →
    DataW.TrodAll enc P W' 0 (fun b => decide (b < W.heap.size)) true ts vs ds ps := by
  intro ts
  induction ts with
  | nil =>
    intro vs ds ps _ h
    obtain ⟨rfl, rfl, rfl⟩ := trodAll_nil h
    exact trodAll_mk0
  | cons t ts ih =>
    intro vs ds ps hr h
    obtain ⟨v, vs', d, ds', p, q, rfl, rfl, rfl, h0, h1⟩ := trodAll_cons h
    simp only [List.all_cons, Bool.and_eq_true, decide_eq_true_eq] at hr
    have hlt : ∀ x ∈ p, x.block < W.heap.size := by
      obtain ⟨m, hm⟩ := h0
      exact DataW.trod_lt m _ _ _ hm
    exact trodAll_cons_mk (Below.trod hl hr.1.1 hr.1.2 h0 hb hlt) (ih _ _ _ hr.2 h1)

theorem law_post {f : Func} {s : ChangeSpec} {W W' : World} {args : Array Value} {ds gs : List (DataW H)} {before : List MemPlace} (tb : TypeId) (hl : laidOutB P = true)
    (hr : f.params.toList.all (fun t => P.readableRec t && decide (t < P.types.size)) = true) (hres : f.resultTypes = #[tb]) (htb : P.underlying tb = some .bool) (hv : s.vars = [])
    (hW : DataW.Whole enc P f.params.toList s.vars false W args.toList ds gs before)
    (hs : ∀ ds' : List (DataW H), ds'.length = ds.length → ds' = ds → s.fn H ds' = { results := [.lit (.bool true)], args := ds' })
    (bel : Below W.heap.size W W') : s.post enc P f false true false false W args (.bool true) W' := by
  have hW' := hW
  obtain ⟨p, q, hA, hV, rfl, hfz, hnd⟩ := hW
  have hgs : gs = [] ∧ q = [] := by
    rw [hv] at hV
    exact trodVars_none hV
  obtain ⟨rfl, rfl⟩ := hgs
  have e := hs ds rfl rfl
  refine ⟨ds, [], _, [], p, [], hW', ?_, ?_, ?_, bel.frame _, fun h => by cases h⟩
  · rw [List.append_nil, e, hres]
    exact trodAll_mk1 (shut_bool htb _)
  · rw [List.append_nil, e]
    exact trodAll_below hl bel _ _ _ _ hr hA
  · rw [List.append_nil, e, hv]
    rfl

end
end Go.Proofs.YtjaipdenahlheaaDoor

/-
  Arguments of any plain type (numbers, bools, strings; slices, arrays and structs of such), opened at once. Conditions: none.
-/
namespace Go.Proofs.YtjaipdenahlheaaDoor
open Go.ChangeShapes Go.WideShapes Go.ChangeAt Go.RowKit

/-- What a cell holds: a bool, a number, a string, or a slice of elements of so many cells. -/
inductive Shp where
  | b
  | i (k : IntKind)
  | s
  | sl (l : List Shp)

mutual
def Shp.ok (w : World) : Shp → Value → Prop
  | .b, v => ∃ x, v = .bool x
  | .i k, v => ∃ n, v = .int k n ∧ (Lit.int k n).wf = true
  | .s, v => ∃ s : ByteArray, v = .string s ∧ s.size ≤ maxLen
  | .sl l, v => ∃ A n c, v = .slice A n c ∧ n ≤ c ∧ c ≤ maxLen ∧ ∀ j, j < n → ∃ ad us, A = some ad ∧ (∀ i u, us[i]? = some u → w.cell? (ad.add (j * l.length + i)) = some u) ∧ Shp.oks w l us
def Shp.oks (w : World) : List Shp → List Value → Prop
  | [], [] => True
  | a :: l, v :: vs => Shp.ok w a v ∧ Shp.oks w l vs
  | _, _ => False
end
def Shp.zero : Shp → Value
  | .b => .bool false
  | .i k => .int k 0
  | .s => .string ByteArray.empty
  | .sl _ => .slice none 0 0
theorem oks_len {w : World} : ∀ {l : List Shp} {us : List Value}, Shp.oks w l us → us.length = l.length
  | [], [], _ => rfl
  | [], _ :: _, h => by simp [Shp.oks] at h
  | _ :: _, [], h => by simp [Shp.oks] at h
  | _ :: l, _ :: us, h => by
    simp only [Shp.oks] at h
    simp [oks_len h.2]
theorem oks_append {w : World} : ∀ {l m : List Shp} {us vs : List Value}, Shp.oks w l us → Shp.oks w m vs → Shp.oks w (l ++ m) (us ++ vs)
  | [], _, [], _, _, h => h
  | [], _, _ :: _, _, h, _ => by simp [Shp.oks] at h
  | _ :: _, _, [], _, h, _ => by simp [Shp.oks] at h
  | _ :: l, m, _ :: us, vs, h, h' => by
    simp only [Shp.oks, List.cons_append] at h ⊢
    exact ⟨h.1, oks_append h.2 h'⟩

def catS : List (Nat × List Shp) → Nat → Option (List Shp)
  | [], _ => some []
  | (o, l) :: r, p => if o = p then (catS r (p + l.length)).map (l ++ ·) else none
def shapes (P : Program) : Nat → TypeId → Option (List Shp)
  | 0, _ => none
  | n + 1, t =>
    match P.underlying t with
    | some .bool => some [.b]
    | some (.int k) => some [.i k]
    | some .string => some [.s]
    | some (.slice e) => (shapes P n e).bind fun l => if l.length = P.cellsOf e then some [.sl l] else none
    | some (.struct fs) => (fs.toList.mapM fun f => (shapes P n f.type).bind fun l => if l.length = P.cellsOf f.type then some (f.offset, l) else none).bind fun ls => (catS ls 0).bind fun l => if l.length = P.cellsOf t then some l else none
    | some (.array m e) => (shapes P n e).bind fun l => if l.length = P.cellsOf e ∧ m * l.length = P.cellsOf t then some (List.replicate m l).flatten else none
    | _ => none

theorem catS_oks {w : World} {cs : List Value} : ∀ (ls : List (Nat × List Shp)) (p : Nat) (l : List Shp), catS ls p = some l → (∀ q ∈ ls, Shp.oks w q.2 ((cs.drop q.1).take q.2.length)) → p + l.length = cs.length → Shp.oks w l (cs.drop p) := by
  intro ls
  induction ls with
  | nil =>
    intro p l h _ hl
    simp only [catS, Option.some.injEq] at h
    subst h
    rw [List.drop_eq_nil_of_le (by simp at hl; omega)]
    simp [Shp.oks]
  | cons q r ih =>
    obtain ⟨o, l0⟩ := q
    intro p l h hq hl
    simp only [catS] at h
    split at h
    · rename_i ho
      subst ho
      simp only [Option.map_eq_some_iff] at h
      obtain ⟨l1, h1, rfl⟩ := h
      have h0 := hq (o, l0) (by simp)
      have h2 := ih _ _ h1 (fun q hm => hq q (by simp [hm])) (by simp at hl; omega)
      have := oks_append h0 h2
      rwa [show (cs.drop o).take l0.length ++ cs.drop (o + l0.length) = cs.drop o by rw [← List.drop_drop]; exact List.take_append_drop _ _] at this
    · cases h
theorem rep_oks {w : World} {l : List Shp} : ∀ (m : Nat) (cs : List Value), cs.length = m * l.length → (∀ i, i < m → Shp.oks w l ((cs.drop (i * l.length)).take l.length)) → Shp.oks w (List.replicate m l).flatten cs := by
  intro m
  induction m with
  | zero =>
    intro cs hl _
    obtain rfl := List.eq_nil_of_length_eq_zero (by simpa using hl)
    simp [Shp.oks]
  | succ m ih =>
    intro cs hl h
    rw [List.replicate_succ, List.flatten_cons]
    have h0 := h 0 (by omega)
    rw [Nat.zero_mul, List.drop_zero] at h0
    have h1 := ih (cs.drop l.length) (by rw [List.length_drop, hl, Nat.succ_mul]; omega) (fun i hi => by
      have := h (i + 1) (by omega)
      rwa [List.drop_drop, show l.length + i * l.length = (i + 1) * l.length by rw [Nat.succ_mul]; omega])
    have := oks_append h0 h1
    rwa [List.take_append_drop] at this
theorem mapM_mem {α β : Type} {f : α → Option β} : ∀ {l : List α} {r : List β}, l.mapM f = some r → ∀ y ∈ r, ∃ x, x ∈ l ∧ f x = some y := by
  intro l
  induction l with
  | nil => intro r h; simp at h; subst h; simp
  | cons x xs ih =>
    intro r h y hy
    rw [List.mapM_cons] at h
    cases hx : f x with
    | none => simp [hx] at h
    | some z =>
      cases hxs : xs.mapM f with
      | none => simp [hx, hxs] at h
      | some ys =>
        simp [hx, hxs] at h
        subst h
        rcases List.mem_cons.1 hy with rfl | hy
        · exact ⟨x, by simp, hx⟩
        · obtain ⟨x', h1, h2⟩ := ih hxs y hy
          exact ⟨x', by simp [h1], h2⟩
theorem cells_some {w : World} {base : Nat} {a : Addr} {n : Nat} {us : List Value} (h : w.cells? base a n = some us) : us.length = n ∧ ∀ i u, us[i]? = some u → w.cell? (a.add i) = some u := by
  unfold World.cells? at h
  split at h
  · have hl : us.length = n := by simpa using mapM_some_length h
    refine ⟨hl, fun i u hu => ?_⟩
    have hi : i < n := by
      rcases Nat.lt_or_ge i us.length with hlt | hge
      · omega
      · rw [List.getElem?_eq_none hge] at hu; cases hu
    have := mapM_some_get h i i (by simp [hi])
    rw [this, hu]
  · cases h

section
variable {H : Type} {enc : TypeId × Value → H} {P : Program} {w : World} {base : Nat} {spare : Nat → Bool} {held : Bool}
theorem shapes_oks : ∀ (n : Nat) (t : TypeId) (l : List Shp), shapes P n t = some l → ∀ (fuel : Nat) (cs : List Value) (x : DataW H × List MemPlace), DataW.trod enc P w base spare held fuel t cs = some x → Shp.oks w l cs := by
  intro n
  induction n with
  | zero => intro t l h; simp [shapes] at h
  | succ n ih =>
    intro t l h fuel cs x hx
    unfold shapes at h
    split at h
    · rename_i hu
      simp only [Option.some.injEq] at h
      subst h
      obtain ⟨b, rfl, _⟩ := DataW.trod_bool hu hx
      simp [Shp.oks, Shp.ok]
    · rename_i k hu
      simp only [Option.some.injEq] at h
      subst h
      obtain ⟨b, rfl, _, hw⟩ := DataW.trod_int hu hx
      simp only [Shp.oks, Shp.ok]
      exact ⟨⟨_, rfl, hw⟩, trivial⟩
    · rename_i hu
      simp only [Option.some.injEq] at h
      subst h
      obtain ⟨b, rfl, _, hw⟩ := DataW.trod_string hu hx
      simp only [Shp.oks, Shp.ok]
      exact ⟨⟨_, rfl, hw⟩, trivial⟩
    · rename_i e hu
      simp only [Option.bind_eq_some_iff] at h
      obtain ⟨le, hle, h⟩ := h
      split at h
      · rename_i hlen
        simp only [Option.some.injEq] at h
        subst h
        rcases DataW.trod_slice hu hx with ⟨rfl, _⟩ | ⟨a, len, cap, elems, rest, m, _, rfl, _, _, hlc, hcm, hel, hi, _⟩
        · simp only [Shp.oks, Shp.ok]
          exact ⟨⟨none, 0, 0, rfl, Nat.le_refl _, Nat.zero_le _, fun j hj => absurd hj (Nat.not_lt_zero _)⟩, trivial⟩
        · simp only [Shp.oks, Shp.ok]
          refine ⟨⟨some a, len, cap, rfl, hlc, hcm, fun j hj => ?_⟩, trivial⟩
          have h1 := hi j hj
          rw [List.getElem?_eq_getElem (by omega), Option.bind_eq_some_iff] at h1
          obtain ⟨us, hus, h2⟩ := h1
          obtain ⟨_, hc⟩ := cells_some hus
          refine ⟨a, us, rfl, fun i u hu => ?_, ih _ _ hle _ _ _ h2⟩
          rw [hlen, ← add_of_add]
          exact hc i u hu
      · cases h
    · rename_i fs hu
      simp only [Option.bind_eq_some_iff] at h
      obtain ⟨ls, hls, l', hcat, h⟩ := h
      split at h
      · rename_i hlen
        simp only [Option.some.injEq] at h
        subst h
        obtain ⟨xs, m, _, _, hcl, hxl, hf⟩ := DataW.trod_struct hu hx
        have := catS_oks (w := w) (cs := cs) ls 0 l' hcat (fun q hq => ?_) (by omega)
        · exact this
        · obtain ⟨f, hfm, hfq⟩ := mapM_mem hls q hq
          simp only [Option.bind_eq_some_iff] at hfq
          obtain ⟨lf, hlf, hfq⟩ := hfq
          split at hfq
          · rename_i hlf2
            simp only [Option.some.injEq] at hfq
            subst hfq
            obtain ⟨i, hi, hfi⟩ := List.getElem_of_mem hfm
            have h1 := hf i f (by rw [← hfi]; simp)
            rw [List.getElem?_eq_getElem (by simp at hi; omega)] at h1
            have h2 := ih _ _ hlf _ _ _ h1
            rw [← hlf2] at h2
            exact h2
          · cases hfq
      · cases h
    · rename_i m e hu
      simp only [Option.bind_eq_some_iff] at h
      obtain ⟨le, hle, h⟩ := h
      split at h
      · rename_i hlen
        simp only [Option.some.injEq] at h
        subst h
        obtain ⟨xs, m', _, _, hcl, hxl, hf⟩ := Go.DataW.trod_array hu hx
        refine rep_oks m cs (by omega) fun i hi => ?_
        have h1 := hf i hi
        rw [List.getElem?_eq_getElem (by omega), ← hlen.1] at h1
        exact ih _ _ hle _ _ _ h1
      · cases h
    · cases h
/-- An argument that is a struct. -/
theorem open_struct {W : World} {r : Reach} {b0 : Nat} {t : TypeId} {fs : Array Field} {v : Value} {d : DataW H} {ps : List MemPlace} (n : Nat) {l : List Shp} (ht : P.underlying t = some (.struct fs)) (hs : shapes P n t = some l)
    (hv : Value.okWide P W r b0 t v) (h : DataW.Trod enc P W base spare held t v d ps) : ∃ cs : List Value, v = .agg cs.toArray ∧ Shp.oks W l cs := by
  simp only [Value.okWide, ht] at hv
  obtain ⟨cs, rfl, _⟩ := hv
  obtain ⟨fuel, hf⟩ := h
  obtain ⟨cs⟩ := cs
  exact ⟨cs, rfl, shapes_oks n t l hs _ _ _ hf⟩
end

theorem cell_ltO {w : World} {a : Addr} {v : Value} (h : w.cell? a = some v) : a.block < w.heap.size := World.block_lt_of_cell? w _ h
section
variable {w : World}
/-- The rows of a slice, as data. -/
theorem rows_of {α : Type} [Inhabited α] {l : List Shp} {v : Value} (R : α → List Value → Prop) (h : Shp.ok w (.sl l) v) (hR : ∀ us, Shp.oks w l us → ∃ a, R a us) :
    ∃ A c, ∃ xs : List α, v = .slice A xs.length c ∧ xs.length ≤ c ∧ c ≤ maxLen ∧ ∀ j (hj : j < xs.length), ∃ ad us, A = some ad ∧ (∀ i u, us[i]? = some u → w.cell? (ad.add (j * l.length + i)) = some u) ∧ R xs[j] us := by
  simp only [Shp.ok] at h
  obtain ⟨A, n, c, rfl, hn, hc, h⟩ := h
  have hall : ∀ j, ∃ a : α, j < n → ∃ ad us, A = some ad ∧ (∀ i u, us[i]? = some u → w.cell? (ad.add (j * l.length + i)) = some u) ∧ R a us := by
    intro j
    by_cases hj : j < n
    · obtain ⟨ad, us, e, hc, ho⟩ := h j hj
      obtain ⟨a, ha⟩ := hR us ho
      exact ⟨a, fun _ => ⟨ad, us, e, hc, ha⟩⟩
    · exact ⟨default, fun h => absurd h hj⟩
  obtain ⟨f, hf⟩ := Classical.axiomOfChoice hall
  have hl : ((List.range n).map f).length = n := by simp
  refine ⟨A, c, (List.range n).map f, by rw [hl], by omega, hc, fun j hj => ?_⟩
  obtain ⟨ad, us, e, h1, h2⟩ := hf j (by omega)
  exact ⟨ad, us, e, h1, by simpa using h2⟩
instance : Inhabited {s : ByteArray // s.size ≤ maxLen} := ⟨⟨⟨#[]⟩, Nat.zero_le _⟩⟩
theorem strs_of {v : Value} (h : Shp.ok w (.sl [.s]) v) : ∃ ss : List ByteArray, Strs 0 w v ss ∧ ss.length ≤ maxLen ∧ ∀ s ∈ ss, s.size ≤ maxLen := by
  obtain ⟨A, c, xs, rfl, h1, h2, h⟩ := rows_of (α := {s : ByteArray // s.size ≤ maxLen}) (fun a us => us = [.string a.1]) h (fun us ho => by
    match us, ho with
    | [u], ho =>
      simp only [Shp.oks, Shp.ok, and_true] at ho
      obtain ⟨s, rfl, hs⟩ := ho
      exact ⟨⟨s, hs⟩, rfl⟩
    | [], ho => simp [Shp.oks] at ho
    | _ :: _ :: _, ho => simp [Shp.oks] at ho)
  refine ⟨xs.map (·.1), ⟨A, c, by simp, ?_⟩, by simp; omega, fun s hs => by obtain ⟨y, _, rfl⟩ := List.mem_map.1 hs; exact y.2⟩
  refine ⟨by simp, fun hn => ?_⟩
  simp only [List.length_map] at hn
  obtain ⟨ad, us, e, hc, hu⟩ := h 0 hn
  refine ⟨ad, e, Nat.zero_le _, ?_, fun j u hj => ?_⟩
  · subst hu
    have := cell_ltO (hc 0 _ rfl)
    rwa [block_of_add] at this
  · have hjl : j < xs.length := by
      rcases Nat.lt_or_ge j xs.length with hlt | hge
      · exact hlt
      · rw [List.getElem?_eq_none (by simpa using hge)] at hj; cases hj
    obtain ⟨ad', us', e', hc', hu'⟩ := h j hjl
    rw [e] at e'
    cases e'
    subst hu'
    have := hc' 0 _ rfl
    simp only [List.length_singleton, Nat.mul_one, Nat.add_zero] at this
    rw [this]
    simpa [hjl] using hj
end
end Go.Proofs.YtjaipdenahlheaaDoor

/-
  Values of messages in memory. Conditions: none.
-/
namespace Go.Proofs.YtjaipdenahlheaaDoor
open Go.RowKit Go.ChangeShapes Go.WideShapes Go.ChangeAt
/-- A list of texts, in a slice that has room for them. -/
def Txc (w : World) (v : Value) (ls : List (List UInt8)) : Prop := Txs w v ls ∧ ∃ A c, v = .slice A ls.length c ∧ ls.length ≤ c
theorem Txc.below {w w' : World} {v : Value} {ls : List (List UInt8)} (h : Txc w v ls) (hb : Below w.heap.size w w') : Txc w' v ls := ⟨h.1.below hb, h.2⟩
/-- The values of a message: a slice of them, in blocks that stay. -/
structure Flds (w : World) (A : Option Addr) (l : List Fld) : Prop where
  at_ : ∀ i x, l[i]? = some x → ∃ ad lv, A = some ad ∧ ad.block < w.heap.size ∧ w.cell? (ad.add (i * 4)) = some (.int .u8 x.k) ∧ w.cell? ⟨(ad.add (i * 4)).block, (ad.add (i * 4)).off + 1, none⟩ = some (.int .i64 x.n) ∧ w.cell? ⟨(ad.add (i * 4)).block, (ad.add (i * 4)).off + 2, none⟩ = some (.string (bs x.s)) ∧ w.cell? ⟨(ad.add (i * 4)).block, (ad.add (i * 4)).off + 3, none⟩ = some lv ∧ Txc w lv x.l ∧ x.k < 256
theorem Flds.below {w w' : World} {A : Option Addr} {l : List Fld} (h : Flds w A l) (hb : Below w.heap.size w w') : Flds w' A l := by
  refine ⟨fun i x hx => ?_⟩
  obtain ⟨ad, lv, e, h1, c0, c1, c2, c3, ht, hk⟩ := h.at_ i x hx
  have key : ∀ p : Addr, p.block = ad.block → ∀ v, w.cell? p = some v → w'.cell? p = some v := fun p hp v hv => (hb.cell (p := p) (by rw [hp]; exact h1)).trans hv
  exact ⟨ad, lv, e, Nat.lt_of_lt_of_le h1 hb.size, key _ (block_of_add _ _) _ c0, key _ (by rw [block_of_add]) _ c1, key _ (by rw [block_of_add]) _ c2, key _ (by rw [block_of_add]) _ c3, ht.below hb, hk⟩
/-- What fits of a value. -/
structure FldFit (x : Fld) : Prop where
  k : x.k < 256
  n : (Lit.int .i64 x.n).wf = true
  s : x.s.length ≤ maxLen
  ll : x.l.length ≤ maxLen
  l : ∀ y ∈ x.l, y.length ≤ maxLen
theorem txs_of {w : World} {v : Value} (h : Shp.ok w (.sl [.s]) v) : ∃ ls : List (List UInt8), Txc w v ls ∧ ls.length ≤ maxLen ∧ ∀ y ∈ ls, y.length ≤ maxLen := by
  have hcap : ∃ A n c, v = .slice A n c ∧ n ≤ c := by
    simp only [Shp.ok] at h
    obtain ⟨A, n, c, rfl, hn, _⟩ := h
    exact ⟨A, n, c, rfl, hn⟩
  obtain ⟨ss, h1, h2, h3⟩ := strs_of h
  refine ⟨ss.map (·.data.toList), ⟨?_, ?_⟩, by simpa using h2, ?_⟩
  · unfold Txs
    rw [List.map_map]
    have : ss.map (bs ∘ fun s : ByteArray => s.data.toList) = ss := by
      conv => rhs; rw [← List.map_id ss]
      rfl
    rw [this]
    exact h1
  · obtain ⟨A, c, e, _⟩ := h1
    obtain ⟨A', n', c', e', hn'⟩ := hcap
    rw [e] at e'
    injection e' with e1 e2 e3
    exact ⟨A, c, by rw [e, List.length_map], by rw [List.length_map]; omega⟩
  · intro y hy
    obtain ⟨s, hs, rfl⟩ := List.mem_map.1 hy
    exact h3 s hs
instance : Inhabited Fld := ⟨⟨0, 0, [], []⟩⟩
end Go.Proofs.YtjaipdenahlheaaDoor
