/-
  The law MsgGets: which value has a place, what it is on the wire, and what a message is told by: the walk of the statement. Conditions: the library's own number is there.
-/
import Derived.Test.YtjaipdenahlheaaGreatDoorKEncG
import Derived.Test.YtjaipdenahlheaaGreatDoorKPutM
import Derived.Deep.RegionHeld3
import Derived.Deep.DeepCutAuto
import Derived.Lib.QuietBelow
set_option linter.unusedVariables false
set_option linter.unusedSimpArgs false
namespace Go.Proofs.YtjaipdenahlheaaGreatDoor
open Go.RowKit Go.ChangeShapes Go.WideShapes Go.Sort
section
variable {w : World}
theorem is07_any (num n2 i : Int) {A : Option Addr} {n c : Nat} (w : World) : Calls Tryz.prog 49 #[.agg #[.int .i64 num, .slice A n c], .int .i64 n2, .int .i64 i] w (fun e w' => e = .returned (.bool ((num == n2) && ((n : Int) == i))) ∧ Below w.heap.size w w') := by
  cases hp : (num == n2) with
  | true =>
    go_enter Tryz.func49, Tryz.ntmps49
    go_wp2_with fail
    go_ret
    exact ⟨by simp [hp], by (repeat (first | exact Below.refl _ _ | refine below_drewN ?_ _ | refine Below.drew ?_ | refine Below.alloc ?_ (by first | omega | (simp; done) | (simp; omega)) _ | refine Below.setCell ?_ (by first | omega | (simp; done) | (simp; omega)) _ | refine bel_alloc ?_ _ | refine bel_trans ?_ (by assumption) | refine Below.trans ?_ (Below.mono (by assumption) (by first | omega | (simp; done) | (simp; omega)))))⟩
  | false =>
    go_enter Tryz.func49, Tryz.ntmps49
    go_wp2_with fail
    go_ret
    exact ⟨by simp [hp], by (repeat (first | exact Below.refl _ _ | refine below_drewN ?_ _ | refine Below.drew ?_ | refine Below.alloc ?_ (by first | omega | (simp; done) | (simp; omega)) _ | refine Below.setCell ?_ (by first | omega | (simp; done) | (simp; omega)) _ | refine bel_alloc ?_ _ | refine bel_trans ?_ (by assumption) | refine Below.trans ?_ (Below.mono (by assumption) (by first | omega | (simp; done) | (simp; omega)))))⟩
theorem blk_new2G (w : World) (o : Obj) (t : TypeId) (cs : Array Value) : Blk ((w.alloc o).alloc (.cells cs t)) (w.heap.size + 1) t cs := by
  have := Blk.new (w.alloc o) t cs
  simpa using this
theorem fin4G {w : World} {r : Nat} {t : TypeId} {o0 o1 o2 o3 : Value} (h : Blk w r t #[o0, o1, o2, o3]) (v0 v1 v2 v3 : Value) :
    Blk ((((w.setCell ⟨r, 0, none⟩ v0).setCell ⟨r, 1, none⟩ v1).setCell ⟨r, 2, none⟩ v2).setCell ⟨r, 3, none⟩ v3) r t #[v0, v1, v2, v3] := by
  have h1 := (((h.set_ 0 v0).set_ 1 v1).set_ 2 v2).set_ 3 v3
  simpa using h1
theorem bel4G {B : Nat} {w0 w : World} {g : Nat} (hb : Below B w0 w) (hg : B ≤ g) (v0 v1 v2 v3 : Value) : Below B w0 ((((w.setCell ⟨g, 0, none⟩ v0).setCell ⟨g, 1, none⟩ v1).setCell ⟨g, 2, none⟩ v2).setCell ⟨g, 3, none⟩ v3) :=
  (((hb.setCell (p := ⟨g, 0, none⟩) hg v0).setCell (p := ⟨g, 1, none⟩) hg v1).setCell (p := ⟨g, 2, none⟩) hg v2).setCell (p := ⟨g, 3, none⟩) hg v3
/-- The cells of a value of a message at an address. -/
def At4 (w : World) (p : Addr) (x : Fld) (lv : Value) : Prop := w.cell? p = some (.int .u8 x.k) ∧ w.cell? ⟨p.block, p.off + 1, none⟩ = some (.int .i64 x.n) ∧ w.cell? ⟨p.block, p.off + 2, none⟩ = some (.string (bs x.s)) ∧ w.cell? ⟨p.block, p.off + 3, none⟩ = some lv
theorem At4.below {w w' : World} {p : Addr} {x : Fld} {lv : Value} (h : At4 w p x lv) (hb : Below w.heap.size w w') : At4 w' p x lv := by
  have hlt := cell_ltO h.1
  exact ⟨(hb.cell hlt).trans h.1, (hb.cell (p := ⟨p.block, p.off + 1, none⟩) hlt).trans h.2.1, (hb.cell (p := ⟨p.block, p.off + 2, none⟩) hlt).trans h.2.2.1, (hb.cell (p := ⟨p.block, p.off + 3, none⟩) hlt).trans h.2.2.2⟩
set_option maxHeartbeats 1000000 in
theorem get07_in (num : Int) (j : Nat) {ad : Addr} {n c : Nat} (h : j < n) (hn : n ≤ 20) (x : Fld) {A2 : Option Addr} {c2 : Nat} (hq : At4 w (ad.add (j * 4)) x (.slice A2 x.l.length c2)) :
    Calls Tryz.prog 50 #[.agg #[.int .i64 num, .slice (some ad) n c], .int .i64 j] w (fun ev w' => ev = .returned (fldV x (.slice A2 x.l.length c2)) ∧ Below w.heap.size w w') := by
  obtain ⟨W0, hW0⟩ : ∃ W0, W0 = (w.alloc (.cells #[.int .i64 num, .slice (some ad) n c] 86)).alloc (.cells #[.int .u8 0, .int .i64 0, .string ⟨#[]⟩, .slice none 0 0] 83) := ⟨_, rfl⟩
  have hb0 : Below w.heap.size w W0 := by rw [hW0]; (repeat (first | exact Below.refl _ _ | refine below_drewN ?_ _ | refine Below.drew ?_ | refine Below.alloc ?_ (by first | omega | (simp; done) | (simp; omega)) _ | refine Below.setCell ?_ (by first | omega | (simp; done) | (simp; omega)) _ | refine bel_alloc ?_ _ | refine bel_trans ?_ (by assumption) | refine Below.trans ?_ (Below.mono (by assumption) (by first | omega | (simp; done) | (simp; omega)))))
  have hM0 : Blk W0 w.heap.size 86 #[.int .i64 num, .slice (some ad) n c] := by rw [hW0]; exact (Blk.new w _ _).alloc _
  have hR0 : Blk W0 (w.heap.size + 1) 83 #[.int .u8 0, .int .i64 0, .string ⟨#[]⟩, .slice none 0 0] := by rw [hW0]; exact blk_new2G w _ _ _
  obtain ⟨q0, q1, q2, q3⟩ := hq.below hb0
  have m1 := hM0.cell 1
  have r0 := hR0.cell 0
  have r1 := hR0.cell 1
  have r2 := hR0.cell 2
  have r3 := hR0.cell 3
  have t0 := hR0.frozen 0
  have t1 := hR0.frozen 1
  have t2 := hR0.frozen 2
  have t3 := hR0.frozen 3
  simp at m1 r0 r1 r2 r3
  have hj0 : ¬ (j : Int) < 0 := by omega
  have hjn : (j : Int) < n := by omega
  have hF := hide (fin4G hR0 (.int .u8 x.k) (.int .i64 x.n) (.string (bs x.s)) (.slice A2 x.l.length c2))
  have Hb := hide (bel4G hb0 (Nat.le_succ w.heap.size) (.int .u8 x.k) (.int .i64 x.n) (.string (bs x.s)) (.slice A2 x.l.length c2))
  clear hb0 hM0 hR0 hq
  unfold fldV
  go_enter Tryz.func50, Tryz.ntmps50
  go_upto_region 1 with fail
  rw [← hW0]
  clear hW0
  go_wp2_with fail
  have hF := hF.out
  generalize ((((W0.setCell ⟨w.heap.size + 1, 0, none⟩ (.int .u8 x.k)).setCell ⟨w.heap.size + 1, 1, none⟩ (.int .i64 x.n)).setCell ⟨w.heap.size + 1, 2, none⟩ (.string (bs x.s))).setCell ⟨w.heap.size + 1, 3, none⟩ (.slice A2 x.l.length c2)) = wF at hF Hb ⊢
  have p0 := hF.cell 0
  have p1 := hF.cell 1
  have p2 := hF.cell 2
  have p3 := hF.cell 3
  simp at p0 p1 p2 p3
  exact bodyPost_ret (v := .agg #[.int .u8 x.k, .int .i64 x.n, .string (bs x.s), .slice A2 x.l.length c2]) (by simp [results, Tryz.results50, go_sem, p0, p1, p2, p3]) rfl ⟨rfl, Hb.out⟩
end
end Go.Proofs.YtjaipdenahlheaaGreatDoor
