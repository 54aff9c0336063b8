/-
  The contract of the reference's Msg of kexinit, and of its Build. Conditions: lists of at most 1,000,000 names; texts that fit.
-/
import Derived.Test.YtjaipdenahlheaaGreatDoorKKx9
set_option linter.unusedVariables false
set_option linter.unusedSimpArgs false
namespace Go.Proofs.YtjaipdenahlheaaGreatDoor
open Go.RowKit Go.ChangeShapes Go.WideShapes Go.Sort
theorem PutL.keep {lo mb : Nat} {num : Int} {A : Option Addr} {n c m : Nat} {zs zz : List (Fld × Value)} {w w' : World} {e : Ending} (h : PutL lo mb num A n c zs zz m w e w') (hM : MkMsg lo mb num A n c zs w) {r : Nat} {t : TypeId} {cs : Array Value} (hr : Blk w r t cs) (hne : r ≠ mb) (ht : 83 ≠ t) : Blk w' r t cs := by
  obtain ⟨A', c', w6, _, rfl, _, hg, _⟩ := h
  exact (hr.grown hg (fun e => own_blk_ne hM.own hr ht e.symm)).far (p := ⟨mb, 1, none⟩) hne _
theorem NewC.setNS {lo : Nat} {w : World} {v : Value} {l : List (List UInt8)} (h : NewC lo w v l) {p : Addr} {u0 : Value} (hp : w.cell? p = some u0) (hu : ∀ s, u0 ≠ .string s) (u : Value) : NewC lo (w.setCell p u) v l := by
  obtain ⟨B, d, rfl, hc, hS⟩ := h
  refine ⟨B, d, rfl, hc, hS.1, fun hn => ?_⟩
  obtain ⟨ad, e, h1, h2, h3⟩ := hS.2 hn
  refine ⟨ad, e, h1, by simpa [World.setCell] using h2, fun j x hx => ?_⟩
  have h4 := h3 j x hx
  rw [World.cell?_setCell_other w p _ u ?_]
  · exact h4
  · intro e2
    rw [← e2, hp] at h4
    have hm := List.mem_of_getElem? hx
    obtain ⟨y, _, rfl⟩ := List.mem_map.1 hm
    exact hu y (Option.some.inj h4)
theorem Inn.setNS {lo : Nat} {v : Value} {w : World} {lv : Value} {ls : List (List UInt8)} (h : Inn lo v w lv ls) {p : Addr} {u0 : Value} (hp : w.cell? p = some u0) (hu : ∀ s, u0 ≠ .string s) (u : Value) : Inn lo v (w.setCell p u) lv ls := by
  obtain ⟨B, d, rfl, hc, hS, hn⟩ := h
  obtain ⟨B', d', e, _, hS'⟩ := NewC.setNS (lo := lo) (l := ls) ⟨B, d, rfl, hc, hS⟩ hp hu u
  obtain rfl : B = B' := by injection e
  exact ⟨B, d, rfl, hc, hS', hn⟩
theorem World.below_new {w : World} (o : Obj) : Below w.heap.size w (w.alloc o) := (Below.refl _ _).alloc (Nat.le_refl _) o
theorem own_row_blk {w : World} {base n k size : Nat} {e : TypeId} {v : Value} {xs : List Value} (h : w.ownsRow base e size v n xs) (hk : v.ownBlock = some k) : ∃ g cur, v.ownBlock = some g ∧ Blk w g e cur := by
  rcases h.2 with ⟨rfl, _⟩ | ⟨g, cap, cur, rfl, _, hh, _⟩
  · cases hk
  · exact ⟨g, cur, rfl, hh⟩
section
variable {w : World} {f0 mb xb rb : Nat} {bx : Array Value} {z0 : Fld × Value}
/-- The answer is put into its own cells. -/
theorem MkI.res {W : World} {vs : List Value} {ls : List (List (List UInt8))} {zs : List (Fld × Value)} {hb n c : Nat} {A : Option Addr} (h : MkI w f0 mb xb hb bx vs ls zs A n c W) (hR : Blk W rb 86 #[.int .i64 0, .slice none 0 0]) (hw : w.heap.size ≤ rb) (v0 v1 : Value) :
    Below w.heap.size w ((W.setCell ⟨rb, 0, none⟩ v0).setCell ⟨rb, 1, none⟩ v1) ∧ Flds ((W.setCell ⟨rb, 0, none⟩ v0).setCell ⟨rb, 1, none⟩ v1) A (zs.map (·.1)) ∧ Blk ((W.setCell ⟨rb, 0, none⟩ v0).setCell ⟨rb, 1, none⟩ v1) rb 86 #[v0, v1] := by
  have c0 : W.cell? ⟨rb, 0, none⟩ = some (.int .i64 0) := by rw [hR.cell 0]; rfl
  have hR1 := hR.set_ 0 v0
  have c1 : (W.setCell ⟨rb, 0, none⟩ v0).cell? ⟨rb, 1, none⟩ = some (.slice none 0 0) := by rw [hR1.cell 1]; rfl
  refine ⟨(h.bel.setCell (p := ⟨rb, 0, none⟩) hw v0).setCell (p := ⟨rb, 1, none⟩) hw v1, ?_, ?_⟩
  · have hown := own_setK (own_setK h.msg.own hR (by decide) 0 v0) hR1 (by decide) 1 v1
    exact (FOwn.flds (lo := 0) ⟨h.msg.len, hown.mono (Nat.zero_le _), fun z hz => ⟨((h.zin z hz).1.setNS c0 (fun s e => by cases e) v0).setNS c1 (fun s e => by cases e) v1, (h.zin z hz).2⟩⟩).flds
  · have := hR1.set_ 1 v1
    simpa using this
/-- The row of lists while it grows. -/
structure RL (w : World) (f0 mb xb rb B : Nat) (bx : Array Value) (z0 : Fld × Value) (vK : Value) (lK : List (List UInt8)) (vs : List Value) (A : Option Addr) (nl cl : Nat) (W : World) : Prop where
  bel : Below w.heap.size w W
  box : Blk W xb 45 bx
  res : Blk W rb 86 #[.int .i64 0, .slice none 0 0]
  msg : MkMsg f0 mb 20 (some ⟨f0, 0, none⟩) 1 1 [z0] W
  row : W.ownsRow w.heap.size 22 1 (.slice A nl cl) nl vs
  own : ∃ n, n = lK.length ∧ W.ownsRow B 9 1 vK n ((lK.map bs).map Value.string)
  lts : w.heap.size ≤ f0 ∧ f0 ≤ mb ∧ f0 < B
theorem RL.app {B : Nat} {vK v : Value} {lK : List (List UInt8)} {vs : List Value} {A A6 : Option Addr} {nl cl c6 : Nat} {W w6 : World} (h : RL w f0 mb xb rb B bx z0 vK lK vs A nl cl W) (o : Obj)
    (ho : w6.ownsRow w.heap.size 22 1 (.slice A6 (nl + 1) c6) (nl + 1) (vs ++ [v])) (hg : (W.alloc o).grownBy w6 (Value.slice A nl cl).ownBlock) : RL w f0 mb xb rb B bx z0 vK lK (vs ++ [v]) A6 (nl + 1) c6 w6 := by
  have hrow := h.row.alloc o
  refine ⟨(h.bel.alloc h.bel.size o).grown hg (by simp only [World.size_alloc]; have := h.bel.size; omega) (fun k e => (hrow.lt k e).1), (h.box.alloc o).grown hg (fun e => own_blk_ne hrow (h.box.alloc o) (by decide) e.symm), (h.res.alloc o).grown hg (fun e => own_blk_ne hrow (h.res.alloc o) (by decide) e.symm), ?_, ho, ?_, h.lts⟩
  · have hm := h.msg.below (World.below_new o)
    refine hm.grown hg (fun e => own_blk_ne hrow hm.m (by decide) e.symm) (.inr (fun e => ?_))
    obtain ⟨g, cur, e2, hb⟩ := own_row_blk hm.own rfl
    exact own_blk_ne hrow hb (by decide) (e.symm.trans e2)
  · obtain ⟨n0, hn0, hO⟩ := h.own
    refine ⟨n0, hn0, (hO.alloc o).kept hg ?_⟩
    cases e : vK.ownBlock with
    | none => exact .inl rfl
    | some k =>
      refine .inr (fun e3 => ?_)
      obtain ⟨g, cur, e2, hb⟩ := own_row_blk (hO.alloc o) e
      exact own_blk_ne hrow hb (by decide) (e3.symm.trans (by rw [← e2, e]))
end
/-- A row of names that grows. -/
structure RMs (w3 : World) (l : List (List UInt8)) (A : Option Addr) (n c : Nat) (W : World) : Prop where
  bel : Below w3.heap.size w3 W
  len : n = l.length
  own : W.ownsRow w3.heap.size 9 1 (.slice A n c) n ((l.map bs).map Value.string)
theorem RMs.app {w3 W w6 : World} {l : List (List UInt8)} {x : List UInt8} {A A6 : Option Addr} {n c c6 : Nat} (h : RMs w3 l A n c W) (o : Obj) (ho : w6.ownsRow w3.heap.size 9 1 (.slice A6 (n + 1) c6) (n + 1) (((l.map bs).map Value.string) ++ [.string (bs x)])) (hg : (W.alloc o).grownBy w6 (Value.slice A n c).ownBlock) : RMs w3 (l ++ [x]) A6 (n + 1) c6 w6 := by
  have hrow := h.own.alloc o
  refine ⟨(h.bel.alloc h.bel.size o).grown hg (by simp only [World.size_alloc]; have := h.bel.size; omega) (fun k e => (hrow.lt k e).1), by rw [List.length_append, h.len]; rfl, ?_⟩
  rw [List.map_append, List.map_append]
  exact ho
end Go.Proofs.YtjaipdenahlheaaGreatDoor
