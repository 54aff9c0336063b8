/-
  Values of messages in memory. Conditions: none.
-/
import Derived.Test.YtdhopoafpddjpaaDoorMsgQ
import Derived.Test.YtdhopoafpddjpaaDoorRefA
import Derived.Test.YtdhopoafpddjpaaDoorOpen
set_option linter.unusedVariables false
set_option linter.unusedSimpArgs false
namespace Go.Proofs.YtdhopoafpddjpaaDoor
open Go.RowKit Go.ChangeShapes Go.WideShapes Go.ChangeAt
/-- A list of texts, in a slice that has room for them. -/
def Txc (w : World) (v : Value) (ls : List (List UInt8)) : Prop := Txs w v ls ∧ ∃ A c, v = .slice A ls.length c ∧ ls.length ≤ c
theorem Txc.below {w w' : World} {v : Value} {ls : List (List UInt8)} (h : Txc w v ls) (hb : Below w.heap.size w w') : Txc w' v ls := ⟨h.1.below hb, h.2⟩
theorem txc_nil (w : World) (c : Nat) : Txc w (.slice none 0 c) [] := ⟨txs_nil w c, none, c, rfl, Nat.zero_le _⟩
/-- The values of a message: a slice of them, in blocks that stay. -/
structure Flds (w : World) (A : Option Addr) (l : List Fld) : Prop where
  at_ : ∀ i x, l[i]? = some x → ∃ ad lv, A = some ad ∧ ad.block < w.heap.size ∧ w.cell? (ad.add (i * 4)) = some (.int .u8 x.k) ∧ w.cell? ⟨(ad.add (i * 4)).block, (ad.add (i * 4)).off + 1, none⟩ = some (.int .i64 x.n) ∧ w.cell? ⟨(ad.add (i * 4)).block, (ad.add (i * 4)).off + 2, none⟩ = some (.string (bs x.s)) ∧ w.cell? ⟨(ad.add (i * 4)).block, (ad.add (i * 4)).off + 3, none⟩ = some lv ∧ Txc w lv x.l ∧ x.k < 256
theorem Flds.below {w w' : World} {A : Option Addr} {l : List Fld} (h : Flds w A l) (hb : Below w.heap.size w w') : Flds w' A l := by
  refine ⟨fun i x hx => ?_⟩
  obtain ⟨ad, lv, e, h1, c0, c1, c2, c3, ht, hk⟩ := h.at_ i x hx
  have key : ∀ p : Addr, p.block = ad.block → ∀ v, w.cell? p = some v → w'.cell? p = some v := fun p hp v hv => (hb.cell (p := p) (by rw [hp]; exact h1)).trans hv
  exact ⟨ad, lv, e, Nat.lt_of_lt_of_le h1 hb.size, key _ (block_of_add _ _) _ c0, key _ (by rw [block_of_add]) _ c1, key _ (by rw [block_of_add]) _ c2, key _ (by rw [block_of_add]) _ c3, ht.below hb, hk⟩
theorem flds_nil (w : World) (A : Option Addr) : Flds w A [] := ⟨fun i x hx => by simp at hx⟩
def fldS : List Shp := [.i .u8, .i .i64, .s, .sl [.s]]
/-- What fits of a value. -/
structure FldFit (x : Fld) : Prop where
  k : x.k < 256
  n : (Lit.int .i64 x.n).wf = true
  s : x.s.length ≤ maxLen
  ll : x.l.length ≤ maxLen
  l : ∀ y ∈ x.l, y.length ≤ maxLen
theorem txs_of {w : World} {v : Value} (h : Shp.ok w (.sl [.s]) v) : ∃ ls : List (List UInt8), Txc w v ls ∧ ls.length ≤ maxLen ∧ ∀ y ∈ ls, y.length ≤ maxLen := by
  have hcap : ∃ A n c, v = .slice A n c ∧ n ≤ c := by
    simp only [Shp.ok] at h
    obtain ⟨A, n, c, rfl, hn, _⟩ := h
    exact ⟨A, n, c, rfl, hn⟩
  obtain ⟨ss, h1, h2, h3⟩ := strs_of h
  refine ⟨ss.map (·.data.toList), ⟨?_, ?_⟩, by simpa using h2, ?_⟩
  · unfold Txs
    rw [List.map_map]
    have : ss.map (bs ∘ fun s : ByteArray => s.data.toList) = ss := by
      conv => rhs; rw [← List.map_id ss]
      rfl
    rw [this]
    exact h1
  · obtain ⟨A, c, e, _⟩ := h1
    obtain ⟨A', n', c', e', hn'⟩ := hcap
    rw [e] at e'
    injection e' with e1 e2 e3
    exact ⟨A, c, by rw [e, List.length_map], by rw [List.length_map]; omega⟩
  · intro y hy
    obtain ⟨s, hs, rfl⟩ := List.mem_map.1 hy
    exact h3 s hs
instance : Inhabited Fld := ⟨⟨0, 0, [], []⟩⟩
theorem open_fld {w : World} {us : List Value} (ho : Shp.oks w fldS us) : ∃ x : Fld, ∃ lv, us = [.int .u8 x.k, .int .i64 x.n, .string (bs x.s), lv] ∧ Txc w lv x.l ∧ FldFit x := by
  have hl := oks_len ho
  match us, hl, ho with
  | [u1, u2, u3, u4], _, ho =>
    simp only [fldS, Shp.oks, and_true] at ho
    obtain ⟨h1, h2, h3, h4⟩ := ho
    obtain ⟨ls, t1, t2, t3⟩ := txs_of h4
    simp only [Shp.ok] at h1 h2 h3
    obtain ⟨k, rfl, hk⟩ := h1
    obtain ⟨n, rfl, hn⟩ := h2
    obtain ⟨s, rfl, hs⟩ := h3
    have hk2 : 0 ≤ k ∧ k < 256 := by
      simp [Lit.wf, IntKind.min, IntKind.max, IntKind.signed, IntKind.bits] at hk
      omega
    refine ⟨⟨k.toNat, n, s.data.toList, ls⟩, u4, ?_, t1, ⟨by show k.toNat < 256; omega, hn, hs, t2, t3⟩⟩
    show _ = [.int .u8 ((k.toNat : Nat) : Int), .int .i64 n, .string (bs s.data.toList), u4]
    rw [show ((k.toNat : Nat) : Int) = k from by omega]
    rfl
theorem open_flds {w : World} {v : Value} (h : Shp.ok w (.sl fldS) v) : ∃ A c, ∃ l : List Fld, v = .slice A l.length c ∧ l.length ≤ maxLen ∧ Flds w A l ∧ ∀ x ∈ l, FldFit x := by
  obtain ⟨A, c, xs, rfl, h1, h2, h⟩ := rows_of (α := Fld) (fun x us => ∃ lv, us = [.int .u8 x.k, .int .i64 x.n, .string (bs x.s), lv] ∧ Txc w lv x.l ∧ FldFit x) h (fun us ho => open_fld ho)
  refine ⟨A, c, xs, rfl, by omega, ⟨fun i x hx => ?_⟩, fun x hx => ?_⟩
  · have hi := (List.getElem?_eq_some_iff.1 hx).1
    obtain ⟨ad, us, e, hc, lv, hu, ht, hf⟩ := h i hi
    have hxi : xs[i] = x := by
      rw [List.getElem?_eq_getElem hi] at hx
      exact Option.some.inj hx
    rw [hxi] at hu ht hf
    subst hu
    have k0 := hc 0 _ rfl
    have k1 := hc 1 _ rfl
    have k2 := hc 2 _ rfl
    have k3 := hc 3 _ rfl
    simp only [fldS, List.length_cons, List.length_nil, Nat.reduceAdd, Nat.add_zero] at k0 k1 k2 k3
    refine ⟨ad, lv, e, ?_, k0, cell_off (j := 0) k1, cell_off (j := 1) k2, cell_off (j := 2) k3, ht, hf.k⟩
    have := cell_ltO k0
    rwa [block_of_add] at this
  · obtain ⟨i, hi, rfl⟩ := List.getElem_of_mem hx
    obtain ⟨_, _, _, _, _, _, _, hf⟩ := h i hi
    exact hf
def msgS : List Shp := [.i .i64, .sl fldS]
theorem open_msg {w : World} {us : List Value} (ho : Shp.oks w msgS us) : ∃ num A c, ∃ l : List Fld, us = [.int .i64 num, .slice A l.length c] ∧ (Lit.int .i64 num).wf = true ∧ l.length ≤ maxLen ∧ Flds w A l ∧ ∀ x ∈ l, FldFit x := by
  have hl := oks_len ho
  match us, hl, ho with
  | [u1, u2], _, ho =>
    simp only [msgS, Shp.oks, and_true] at ho
    obtain ⟨h1, h2⟩ := ho
    obtain ⟨A, c, l, rfl, e1, e2, e3⟩ := open_flds h2
    simp only [Shp.ok] at h1
    obtain ⟨n, rfl, hn⟩ := h1
    exact ⟨n, A, c, l, rfl, hn, e1, e2, e3⟩
end Go.Proofs.YtdhopoafpddjpaaDoor
