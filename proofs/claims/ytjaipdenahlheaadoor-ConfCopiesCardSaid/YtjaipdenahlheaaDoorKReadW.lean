/-
  The contract of package msg's read. Conditions: payloads of at most 1,000,000 bytes; ASCII forms; the library's own number is there.
-/
import Derived.Test.YtjaipdenahlheaaDoorKGetX
import Derived.Test.YtjaipdenahlheaaDoorKEncG
set_option linter.unusedVariables false
set_option linter.unusedSimpArgs false
namespace Go.Proofs.YtjaipdenahlheaaDoor
open Go.RowKit Go.ChangeShapes Go.WideShapes Go.Sort
/-- A list of texts beside a row that grows. -/
def Inn (lo : Nat) (v : Value) (w : World) (lv : Value) (ls : List (List UInt8)) : Prop :=
  ∃ A c, lv = .slice A ls.length c ∧ ls.length ≤ c ∧ Sl lo w 1 A ls.length ((ls.map bs).map Value.string) ∧ ∀ ad, A = some ad → 0 < ls.length → v.ownBlock ≠ some ad.block
theorem Inn.step {lo : Nat} {v v' : Value} {w w' : World} {lv : Value} {ls : List (List UInt8)} {row : Option Nat} (h : Inn lo v w lv ls) (ho : w.grownBy w' row) (hr : ∀ i, row = some i → i < lo ∨ v.ownBlock = some i)
    (hv : v'.ownBlock = v.ownBlock ∨ ∃ n, v'.ownBlock = some n ∧ w.heap.size ≤ n) : Inn lo v' w' lv ls := by
  obtain ⟨A, c, e, hc, hS, hn⟩ := h
  refine ⟨A, c, e, hc, ⟨hS.1, fun hp => ?_⟩, fun ad he hp => ?_⟩
  · obtain ⟨ad, e2, h1, h2, h3⟩ := hS.2 hp
    have hne : some ad.block ≠ row := fun e3 => by
      rcases hr _ e3.symm with h4 | h4
      · omega
      · exact hn ad e2 hp h4
    exact ⟨ad, e2, h1, Nat.lt_of_lt_of_le h2 ho.size, fun j u hu => (World.cell?_of_block (ho.block _ (by rw [block_of_add]; exact h2) (by rw [block_of_add]; exact hne))).trans (h3 j u hu)⟩
  · rcases hv with hv | ⟨n, hv, hn2⟩
    · rw [hv]
      exact hn ad he hp
    · rw [hv]
      intro e3
      have e4 := Option.some.inj e3
      obtain ⟨ad2, e2, _, h2, _⟩ := hS.2 hp
      rw [he] at e2
      cases e2
      omega
theorem Inn.txc {lo : Nat} {v : Value} {w : World} {lv : Value} {ls : List (List UInt8)} (h : Inn lo v w lv ls) : Txc w lv ls := by
  obtain ⟨A, c, e, hc, hS, _⟩ := h
  exact NewC.txc (lo := lo) ⟨A, c, e, hc, hS⟩
/-- The values of a message in memory from block lo on: what older memory becomes does not count. -/
def FldsN (lo : Nat) (w : World) (A : Option Addr) (l : List Fld) : Prop :=
  ∀ w2 : World, w.heap.size ≤ w2.heap.size → (∀ p : Addr, lo ≤ p.block → p.block < w.heap.size → w2.cell? p = w.cell? p) → Flds w2 A l
theorem FldsN.below {lo : Nat} {w w' : World} {A : Option Addr} {l : List Fld} (h : FldsN lo w A l) (hb : Below w.heap.size w w') : FldsN lo w' A l :=
  fun w2 hs hk => h w2 (Nat.le_trans hb.size hs) (fun p h1 h2 => (hk p h1 (Nat.lt_of_lt_of_le h2 hb.size)).trans (hb.cell h2))
theorem FldsN.setCell {lo : Nat} {w : World} {A : Option Addr} {l : List Fld} (h : FldsN lo w A l) {p : Addr} (hp : p.block < lo) (u : Value) : FldsN lo (w.setCell p u) A l :=
  fun w2 hs hk => h w2 (by simpa [World.setCell] using hs) (fun q h1 h2 => (hk q h1 (by simpa [World.setCell] using h2)).trans (World.cell?_setCell_other w p q u (fun e => by subst e; omega)))
theorem FldsN.mono {lo lo' : Nat} {w : World} {A : Option Addr} {l : List Fld} (h : FldsN lo w A l) (hl : lo' ≤ lo) : FldsN lo' w A l :=
  fun w2 hs hk => h w2 hs (fun p h1 h2 => hk p (Nat.le_trans hl h1) h2)
def endB : List UInt8 := [101, 110, 100]
/-- What read answers. -/
def ReadP (R : RdR) (w : World) (e : Ending) (w' : World) : Prop :=
  Below w.heap.size w w' ∧ ((∃ l A c, R = .ok l ∧ e = .returned (.tuple #[.slice A l.length c, .nilIface]) ∧ FldsN w.heap.size w' A l) ∨
    (∃ x i b A n c, R = .no x i ∧ x ≠ 0 ∧ e = .returned (.tuple #[.slice A n c, errV b]) ∧ IsErr w' (errV b) [Lib.decDigits i] (x : Nat)) ∨
    (∃ b A n c, R = .tail ∧ e = .returned (.tuple #[.slice A n c, errV b]) ∧ IsErr w' (errV b) [endB] 3))
theorem blk_new2 (w : World) (o : Obj) (t : TypeId) (cs : Array Value) : Blk ((w.alloc o).alloc (.cells cs t)) (w.heap.size + 1) t cs := by
  have := Blk.new (w.alloc o) t cs
  simpa using this
end Go.Proofs.YtjaipdenahlheaaDoor
