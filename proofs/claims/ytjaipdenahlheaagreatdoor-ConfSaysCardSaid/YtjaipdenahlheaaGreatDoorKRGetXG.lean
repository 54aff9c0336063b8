/-
  Several of my texts in one: RSp, RGetX.
-/
import Derived.Test.YtjaipdenahlheaaGreatDoorKGetX
import Derived.Test.YtjaipdenahlheaaGreatDoorKPutM
import Derived.Deep.RegionHeld3
import Derived.Deep.DeepCutAuto
import Derived.Test.YtjaipdenahlheaaGreatDoorKRRdG
import Derived.Test.YtjaipdenahlheaaGreatDoorKOrdE
set_option linter.unusedVariables false
set_option linter.unusedSimpArgs false
namespace Go.Proofs.YtjaipdenahlheaaGreatDoor
open Go.RowKit Go.ChangeShapes Go.WideShapes Go.Sort
/-- The state of parts' loop. -/
structure PartI (w : World) (S : List UInt8) (fr i : Nat) (A : Option Addr) (n c : Nat) (wr : World) : Prop where
  bel : Below w.heap.size w wr
  st : ∃ ls : List (List UInt8), ls.length = n ∧ wr.ownsRow w.heap.size 9 1 (.slice A n c) n ((ls.map bs).map Value.string) ∧ n ≤ i ∧
    (i ≤ S.length → fr ≤ i ∧ splitC S = ls ++ splitC (S.drop fr) ∧ ∀ c ∈ (S.drop fr).take (i - fr), c ≠ 44) ∧ (S.length < i → splitC S = ls)
end Go.Proofs.YtjaipdenahlheaaGreatDoor
namespace Go.Proofs.YtjaipdenahlheaaGreatDoor
open Go.RowKit Go.ChangeShapes Go.WideShapes Go.Sort
theorem stoR {x y : Operand} {g n c f : Nat} {A : Option Addr} {T : TypeId} {cs : Array Value} (o : Oper) (ho : o.op = .store 22 x y) (ρ : Operand → Value) (hρ : ρ x = .pointer (some ⟨g, f, none⟩)) (hρ2 : ρ y = .slice A n c) (w : World) (hb : Blk w g T cs) (hc : f < cs.size) : (execOp ρ o).run Tryz.prog w = .ok .skip (w.setCell ⟨g, f, none⟩ (.slice A n c)) := by
  obtain ⟨d, op, t, p, af, gd⟩ := o
  simp only at ho
  subst ho
  have cc : w.cell? ⟨g, f, none⟩ = some cs[f] := (hb.cell f).trans (Array.getElem?_eq_getElem hc)
  have cf := hb.frozen f
  go_simp
theorem step_call1 {P : Program} {Q : Exit → Act → World → Prop} {ops : Array Oper} {o : Oper} {a : Act} {w : World} {u : Value} {f : FuncId} {K : Act → World → Prop} {F : Prop} (hgd : o.guard = none)
    (hr : (execOp a.eval o).run P w = .ok (.enter f #[u]) w) {post : Ending → World → Prop} (hc : Calls P f #[u] w post) (h : ∀ e w', post e w' → ∃ r, e = .returned r ∧ K (a.put o.dst r) w') : if Region.wanted o (yielded ops a.tmps) = true then Oper.wp P o a w K Q else F := by
  rw [if_pos (by simp [Region.wanted, hgd])]
  unfold Oper.wp
  rw [hr, Oper.upon_enter]
  refine hc.mono fun e w' hp => ?_
  obtain ⟨r, rfl, hk⟩ := h e w' hp
  exact hk
/-- Extensions that are being read. -/
structure ExtI (w : World) (g : Nat) (R : Res (List (List UInt8))) (N j : Nat) (A : Option Addr) (c : Nat) (wr : World) : Prop where
  gb : w.grownBy wr (some g)
  xb : Blk wr (w.heap.size + 1) 83 #[.int .u8 101, .int .i64 0, .string ⟨#[]⟩, .slice A j c]
  rb : Blk wr w.heap.size 83 #[.int .u8 0, .int .i64 0, .string ⟨#[]⟩, .slice none 0 0]
  sz : w.heap.size + 2 ≤ wr.heap.size
  st : ∃ ls : List (List UInt8), ls.length = j ∧ wr.ownsRow (w.heap.size + 2) 9 1 (.slice A j c) j ((ls.map bs).map Value.string) ∧
    ((∃ r', Rd3 wr g r' 0 ∧ r'.length ≤ 1000000 ∧ R = (gTexts (N - j) r').map (ls ++ ·)) ∨ (∃ r', ∃ x : Nat, Rd3 wr g r' x ∧ x ≠ 0 ∧ R = .no x))
end Go.Proofs.YtjaipdenahlheaaGreatDoor
