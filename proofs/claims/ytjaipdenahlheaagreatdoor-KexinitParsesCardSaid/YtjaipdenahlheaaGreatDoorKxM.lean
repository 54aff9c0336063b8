/-
  The contract of the reference's Msg of kexinit, and of its Build. Conditions: lists of at most 1,000,000 names; texts that fit.
-/
import Derived.Test.YtjaipdenahlheaaGreatDoorKx9
set_option linter.unusedVariables false
set_option linter.unusedSimpArgs false
namespace Go.Proofs.YtjaipdenahlheaaGreatDoor
open Go.RowKit Go.ChangeShapes Go.WideShapes Go.Sort
/-- What Msg answers. -/
def RMsgP (l : List Fld) (w : World) (e : Ending) (w' : World) : Prop := ∃ A cp, e = .returned (.agg #[.int .i64 20, .slice A l.length cp]) ∧ Flds w' A l ∧ Below w.heap.size w w'
theorem own_blkB {w : World} {b g n : Nat} {t : TypeId} {vs : List Value} (h : Blk w g t vs.toArray) (hb : b ≤ g) (hn : vs.length = n) (hm : n ≤ maxLen) : w.ownsRow b t 1 (.slice (some ⟨g, 0, none⟩) n n) n vs := by
  subst hn
  exact ⟨by simp, .inr ⟨g, vs.length, vs.toArray, rfl, hb, h, Nat.le_refl _, hm, by simp, by simp⟩⟩
theorem PutL.keep {lo mb : Nat} {num : Int} {A : Option Addr} {n c m : Nat} {zs zz : List (Fld × Value)} {w w' : World} {e : Ending} (h : PutL lo mb num A n c zs zz m w e w') (hM : MkMsg lo mb num A n c zs w) {r : Nat} {t : TypeId} {cs : Array Value} (hr : Blk w r t cs) (hne : r ≠ mb) (ht : 83 ≠ t) : Blk w' r t cs := by
  obtain ⟨A', c', w6, _, rfl, _, hg, _⟩ := h
  exact (hr.grown hg (fun e => own_blk_ne hM.own hr ht e.symm)).far (p := ⟨mb, 1, none⟩) hne _
theorem NewC.setNS {lo : Nat} {w : World} {v : Value} {l : List (List UInt8)} (h : NewC lo w v l) {p : Addr} {u0 : Value} (hp : w.cell? p = some u0) (hu : ∀ s, u0 ≠ .string s) (u : Value) : NewC lo (w.setCell p u) v l := by
  obtain ⟨B, d, rfl, hc, hS⟩ := h
  refine ⟨B, d, rfl, hc, hS.1, fun hn => ?_⟩
  obtain ⟨ad, e, h1, h2, h3⟩ := hS.2 hn
  refine ⟨ad, e, h1, by simpa [World.setCell] using h2, fun j x hx => ?_⟩
  have h4 := h3 j x hx
  rw [World.cell?_setCell_other w p _ u ?_]
  · exact h4
  · intro e2
    rw [← e2, hp] at h4
    have hm := List.mem_of_getElem? hx
    obtain ⟨y, _, rfl⟩ := List.mem_map.1 hm
    exact hu y (Option.some.inj h4)
theorem Inn.setNS {lo : Nat} {v : Value} {w : World} {lv : Value} {ls : List (List UInt8)} (h : Inn lo v w lv ls) {p : Addr} {u0 : Value} (hp : w.cell? p = some u0) (hu : ∀ s, u0 ≠ .string s) (u : Value) : Inn lo v (w.setCell p u) lv ls := by
  obtain ⟨B, d, rfl, hc, hS, hn⟩ := h
  obtain ⟨B', d', e, _, hS'⟩ := NewC.setNS (lo := lo) (l := ls) ⟨B, d, rfl, hc, hS⟩ hp hu u
  obtain rfl : B = B' := by injection e
  exact ⟨B, d, rfl, hc, hS', hn⟩
theorem World.below_new {w : World} (o : Obj) : Below w.heap.size w (w.alloc o) := (Below.refl _ _).alloc (Nat.le_refl _) o
theorem own_row_blk {w : World} {base n k size : Nat} {e : TypeId} {v : Value} {xs : List Value} (h : w.ownsRow base e size v n xs) (hk : v.ownBlock = some k) : ∃ g cur, v.ownBlock = some g ∧ Blk w g e cur := by
  rcases h.2 with ⟨rfl, _⟩ | ⟨g, cap, cur, rfl, _, hh, _⟩
  · cases hk
  · exact ⟨g, cur, rfl, hh⟩
section
variable {w : World} {f0 mb xb rb : Nat} {bx : Array Value} {z0 : Fld × Value}
/-- The answer is put into its own cells. -/
theorem MkI.res {W : World} {vs : List Value} {ls : List (List (List UInt8))} {zs : List (Fld × Value)} {hb n c : Nat} {A : Option Addr} (h : MkI w f0 mb xb hb bx vs ls zs A n c W) (hR : Blk W rb 86 #[.int .i64 0, .slice none 0 0]) (hw : w.heap.size ≤ rb) (v0 v1 : Value) :
    Below w.heap.size w ((W.setCell ⟨rb, 0, none⟩ v0).setCell ⟨rb, 1, none⟩ v1) ∧ Flds ((W.setCell ⟨rb, 0, none⟩ v0).setCell ⟨rb, 1, none⟩ v1) A (zs.map (·.1)) ∧ Blk ((W.setCell ⟨rb, 0, none⟩ v0).setCell ⟨rb, 1, none⟩ v1) rb 86 #[v0, v1] := by
  have c0 : W.cell? ⟨rb, 0, none⟩ = some (.int .i64 0) := by rw [hR.cell 0]; rfl
  have hR1 := hR.set_ 0 v0
  have c1 : (W.setCell ⟨rb, 0, none⟩ v0).cell? ⟨rb, 1, none⟩ = some (.slice none 0 0) := by rw [hR1.cell 1]; rfl
  refine ⟨(h.bel.setCell (p := ⟨rb, 0, none⟩) hw v0).setCell (p := ⟨rb, 1, none⟩) hw v1, ?_, ?_⟩
  · have hown := own_setK (own_setK h.msg.own hR (by decide) 0 v0) hR1 (by decide) 1 v1
    exact (FOwn.flds (lo := 0) ⟨h.msg.len, hown.mono (Nat.zero_le _), fun z hz => ⟨((h.zin z hz).1.setNS c0 (fun s e => by cases e) v0).setNS c1 (fun s e => by cases e) v1, (h.zin z hz).2⟩⟩).flds
  · have := hR1.set_ 1 v1
    simpa using this
/-- The row of lists while it grows. -/
structure RL (w : World) (f0 mb xb rb B : Nat) (bx : Array Value) (z0 : Fld × Value) (vK : Value) (lK : List (List UInt8)) (vs : List Value) (A : Option Addr) (nl cl : Nat) (W : World) : Prop where
  bel : Below w.heap.size w W
  box : Blk W xb 45 bx
  res : Blk W rb 86 #[.int .i64 0, .slice none 0 0]
  msg : MkMsg f0 mb 20 (some ⟨f0, 0, none⟩) 1 1 [z0] W
  row : W.ownsRow w.heap.size 22 1 (.slice A nl cl) nl vs
  own : ∃ n, n = lK.length ∧ W.ownsRow B 9 1 vK n ((lK.map bs).map Value.string)
  lts : w.heap.size ≤ f0 ∧ f0 ≤ mb ∧ f0 < B
theorem RL.app {B : Nat} {vK v : Value} {lK : List (List UInt8)} {vs : List Value} {A A6 : Option Addr} {nl cl c6 : Nat} {W w6 : World} (h : RL w f0 mb xb rb B bx z0 vK lK vs A nl cl W) (o : Obj)
    (ho : w6.ownsRow w.heap.size 22 1 (.slice A6 (nl + 1) c6) (nl + 1) (vs ++ [v])) (hg : (W.alloc o).grownBy w6 (Value.slice A nl cl).ownBlock) : RL w f0 mb xb rb B bx z0 vK lK (vs ++ [v]) A6 (nl + 1) c6 w6 := by
  have hrow := h.row.alloc o
  refine ⟨(h.bel.alloc h.bel.size o).grown hg (by simp only [World.size_alloc]; have := h.bel.size; omega) (fun k e => (hrow.lt k e).1), (h.box.alloc o).grown hg (fun e => own_blk_ne hrow (h.box.alloc o) (by decide) e.symm), (h.res.alloc o).grown hg (fun e => own_blk_ne hrow (h.res.alloc o) (by decide) e.symm), ?_, ho, ?_, h.lts⟩
  · have hm := h.msg.below (World.below_new o)
    refine hm.grown hg (fun e => own_blk_ne hrow hm.m (by decide) e.symm) (.inr (fun e => ?_))
    obtain ⟨g, cur, e2, hb⟩ := own_row_blk hm.own rfl
    exact own_blk_ne hrow hb (by decide) (e.symm.trans e2)
  · obtain ⟨n0, hn0, hO⟩ := h.own
    refine ⟨n0, hn0, (hO.alloc o).kept hg ?_⟩
    cases e : vK.ownBlock with
    | none => exact .inl rfl
    | some k =>
      refine .inr (fun e3 => ?_)
      obtain ⟨g, cur, e2, hb⟩ := own_row_blk (hO.alloc o) e
      exact own_blk_ne hrow hb (by decide) (e3.symm.trans (by rw [← e2, e]))
theorem RL.toMk {B n cc hb : Nat} {vK : Value} {lK : List (List UInt8)} {us : List Value} {ls : List (List (List UInt8))} {W : World} (h : RL w f0 mb xb rb B bx z0 vK lK (vK :: us) (some ⟨hb, 0, none⟩) n cc W) (hA : AllC w us ls) (hn : 0 < n) (hz : z0.2 = .slice none 0 0 ∧ z0.1.l = [] ∧ z0.1.k < 256) :
    MkI w f0 mb xb hb bx (vK :: us) (lK :: ls) [z0] (some ⟨f0, 0, none⟩) 1 1 W := by
  obtain ⟨l1, l2, l3⟩ := h.lts
  refine ⟨h.bel, h.box, ?_, h.msg, ?_, ?_, l1, l2⟩
  · obtain ⟨q, e, t⟩ := tn_own h.row hn
    cases e
    exact t
  · intro i v l h1 h2
    cases i with
    | zero =>
      simp only [List.getElem?_cons_zero, Option.some.injEq] at h1 h2
      subst h1 h2
      obtain ⟨n0, hn0, hO⟩ := h.own
      obtain ⟨A0, c0, rfl⟩ := own_slN hO
      exact inn_new (newC_own hO hn0) l3 _ _
    | succ i =>
      simp only [List.getElem?_cons_succ] at h1 h2
      exact inn_old (hA.2 i v l h1 h2).1 h.bel l1 _ _
  · intro z hz2
    obtain rfl : z = z0 := by simpa using hz2
    rw [hz.1, hz.2.1]
    exact ⟨inn_nil _ _ _, hz.2.2⟩
end
/-- A row of names that grows. -/
structure RMs (w3 : World) (l : List (List UInt8)) (A : Option Addr) (n c : Nat) (W : World) : Prop where
  bel : Below w3.heap.size w3 W
  len : n = l.length
  own : W.ownsRow w3.heap.size 9 1 (.slice A n c) n ((l.map bs).map Value.string)
theorem RMs.app {w3 W w6 : World} {l : List (List UInt8)} {x : List UInt8} {A A6 : Option Addr} {n c c6 : Nat} (h : RMs w3 l A n c W) (o : Obj) (ho : w6.ownsRow w3.heap.size 9 1 (.slice A6 (n + 1) c6) (n + 1) (((l.map bs).map Value.string) ++ [.string (bs x)])) (hg : (W.alloc o).grownBy w6 (Value.slice A n c).ownBlock) : RMs w3 (l ++ [x]) A6 (n + 1) c6 w6 := by
  have hrow := h.own.alloc o
  refine ⟨(h.bel.alloc h.bel.size o).grown hg (by simp only [World.size_alloc]; have := h.bel.size; omega) (fun k e => (hrow.lt k e).1), by rw [List.length_append, h.len]; rfl, ?_⟩
  rw [List.map_append, List.map_append]
  exact ho
set_option maxHeartbeats 8000000 in
set_option maxRecDepth 100000 in
theorem rmsg16_any (ck : List UInt8) (a b c d e0 : Bool) {A0 A1 A2 A3 A4 A5 A6 A7 A8 A9 : Option Addr} {n1 n2 n3 n4 n5 n6 n7 n8 n9 c0 c1 c2 c3 c4 c5 c6 c7 c8 c9 : Nat} {w : World} {kex m1 m2 m3 m4 m5 m6 m7 m8 m9 : List (List UInt8)}
    (hA : AllC w [.slice A0 kex.length c0, .slice A1 n1 c1, .slice A2 n2 c2, .slice A3 n3 c3, .slice A4 n4 c4, .slice A5 n5 c5, .slice A6 n6 c6, .slice A7 n7 c7, .slice A8 n8 c8, .slice A9 n9 c9] [kex, m1, m2, m3, m4, m5, m6, m7, m8, m9]) :
    Calls Tryz.prog 47 #[.agg #[.string (bs ck), .slice A0 kex.length c0, .slice A1 n1 c1, .slice A2 n2 c2, .slice A3 n3 c3, .slice A4 n4 c4, .slice A5 n5 c5, .slice A6 n6 c6, .slice A7 n7 c7, .slice A8 n8 c8, .slice A9 n9 c9, .bool a, .bool b, .bool c, .bool d, .bool e0]] w (RMsgP (kexMsg ⟨ck, kex, [m1, m2, m3, m4, m5, m6, m7, m8, m9], a, b, c, d, e0⟩) w) := by
  obtain ⟨W0, hW0⟩ : ∃ W0, W0 = (w.alloc (.cells #[.string (bs ck), .slice A0 kex.length c0, .slice A1 n1 c1, .slice A2 n2 c2, .slice A3 n3 c3, .slice A4 n4 c4, .slice A5 n5 c5, .slice A6 n6 c6, .slice A7 n7 c7, .slice A8 n8 c8, .slice A9 n9 c9, .bool a, .bool b, .bool c, .bool d, .bool e0] 45)).alloc (.cells #[.int .i64 0, .slice none 0 0] 86) := ⟨_, rfl⟩
  have hb0 : Below w.heap.size w W0 := by rw [hW0]; (repeat (first | exact Below.refl _ _ | refine below_drewN ?_ _ | refine Below.drew ?_ | refine Below.alloc ?_ (by first | omega | (simp; done) | (simp; omega)) _ | refine Below.setCell ?_ (by first | omega | (simp; done) | (simp; omega)) _ | refine bel_alloc ?_ _ | refine bel_trans ?_ (by assumption) | refine Below.trans ?_ (Below.mono (by assumption) (by first | omega | (simp; done) | (simp; omega)))))
  have hX0 : Blk W0 w.heap.size 45 #[.string (bs ck), .slice A0 kex.length c0, .slice A1 n1 c1, .slice A2 n2 c2, .slice A3 n3 c3, .slice A4 n4 c4, .slice A5 n5 c5, .slice A6 n6 c6, .slice A7 n7 c7, .slice A8 n8 c8, .slice A9 n9 c9, .bool a, .bool b, .bool c, .bool d, .bool e0] := by rw [hW0]; exact (Blk.new w _ _).alloc _
  have hR0 : Blk W0 (w.heap.size + 1) 86 #[.int .i64 0, .slice none 0 0] := by rw [hW0]; exact blk_new2 w _ _ _
  have HA := hide hA
  have HX := hide (And.intro hb0 (And.intro hX0 hR0))
  obtain ⟨iI, hiI, hI0, hI1, hI2⟩ := info_partsN infoStN
  have HII := hide (And.intro hiI (And.intro hI0 (And.intro hI1 hI2)))
  have z0 := HX.out.2.1.cell 0
  simp only [List.getElem?_toArray, List.getElem?_cons_zero, List.getElem?_cons_succ] at z0
  clear hA hb0 hX0 hR0 hiI hI0 hI1 hI2
  go_enter Tryz.func47, Tryz.ntmps47
  go_upto_region 1 with fail
  rw [← hW0]
  clear hW0
  go_upto_region 2 with fail
  obtain ⟨f0, hf0⟩ : ∃ f0, f0 = W0.heap.size := ⟨_, rfl⟩
  have hlo : w.heap.size + 1 < f0 := by rw [hf0]; exact HX.out.2.2.lt
  have hX2 : Blk ((W0.alloc (.cells #[.int .u8 99, .int .i64 0, .string (bs ck), .slice none 0 0] 83)).alloc (.cells #[.int .i64 20, .slice (some ⟨W0.heap.size, 0, none⟩) 1 1] 86)) w.heap.size 45 #[.string (bs ck), .slice A0 kex.length c0, .slice A1 n1 c1, .slice A2 n2 c2, .slice A3 n3 c3, .slice A4 n4 c4, .slice A5 n5 c5, .slice A6 n6 c6, .slice A7 n7 c7, .slice A8 n8 c8, .slice A9 n9 c9, .bool a, .bool b, .bool c, .bool d, .bool e0] := (HX.out.2.1.alloc _).alloc _
  have hR2 : Blk ((W0.alloc (.cells #[.int .u8 99, .int .i64 0, .string (bs ck), .slice none 0 0] 83)).alloc (.cells #[.int .i64 20, .slice (some ⟨W0.heap.size, 0, none⟩) 1 1] 86)) (w.heap.size + 1) 86 #[.int .i64 0, .slice none 0 0] := (HX.out.2.2.alloc _).alloc _
  have hM2 : Blk ((W0.alloc (.cells #[.int .u8 99, .int .i64 0, .string (bs ck), .slice none 0 0] 83)).alloc (.cells #[.int .i64 20, .slice (some ⟨W0.heap.size, 0, none⟩) 1 1] 86)) (W0.heap.size + 1) 86 #[.int .i64 20, .slice (some ⟨W0.heap.size, 0, none⟩) 1 1] := blk_new2 W0 _ _ _
  have hO2 : ((W0.alloc (.cells #[.int .u8 99, .int .i64 0, .string (bs ck), .slice none 0 0] 83)).alloc (.cells #[.int .i64 20, .slice (some ⟨W0.heap.size, 0, none⟩) 1 1] 86)).ownsRow W0.heap.size 83 4 (.slice (some ⟨W0.heap.size, 0, none⟩) 1 1) 1 (fcs [(⟨99, 0, ck, []⟩, .slice none 0 0)]) := (World.ownsRow_lit W0 #[.int .u8 99, .int .i64 0, .string (bs ck), .slice none 0 0] 1 (Nat.le_refl _) (by unfold maxLen; omega) rfl).alloc _
  have hb2 : Below w.heap.size w ((W0.alloc (.cells #[.int .u8 99, .int .i64 0, .string (bs ck), .slice none 0 0] 83)).alloc (.cells #[.int .i64 20, .slice (some ⟨W0.heap.size, 0, none⟩) 1 1] 86)) := (HX.out.1.alloc HX.out.1.size _).alloc (by simp only [World.size_alloc]; have := HX.out.1.size; omega) _
  generalize ((W0.alloc (.cells #[.int .u8 99, .int .i64 0, .string (bs ck), .slice none 0 0] 83)).alloc (.cells #[.int .i64 20, .slice (some ⟨W0.heap.size, 0, none⟩) 1 1] 86)) = W2 at hX2 hR2 hM2 hO2 hb2 ⊢
  rw [← hf0] at hM2 hO2
  simp only [← hf0]
  have hMk : MkMsg f0 (f0 + 1) 20 (some ⟨f0, 0, none⟩) 1 1 [(⟨99, 0, ck, []⟩, .slice none 0 0)] W2 := ⟨rfl, hM2, hO2⟩
  have HL := hide (rlists_any (v0 := .slice A0 kex.length c0) (v1 := .slice A1 n1 c1) (v2 := .slice A2 n2 c2) (v3 := .slice A3 n3 c3) (v4 := .slice A4 n4 c4) (v5 := .slice A5 n5 c5) (v6 := .slice A6 n6 c6) (v7 := .slice A7 n7 c7) W2 ⟨⟨_, _, _, rfl⟩, ⟨_, _, _, rfl⟩, ⟨_, _, _, rfl⟩, ⟨_, _, _, rfl⟩, ⟨_, _, _, rfl⟩, ⟨_, _, _, rfl⟩, ⟨_, _, _, rfl⟩, ⟨_, _, _, rfl⟩⟩)
  have H2 := hide (And.intro hb2 (And.intro hX2 (And.intro hR2 hMk)))
  have z1 := hX2.cell 1
  have z2 := hX2.cell 2
  have z3 := hX2.cell 3
  have z4 := hX2.cell 4
  have z5 := hX2.cell 5
  have z6 := hX2.cell 6
  have z7 := hX2.cell 7
  have z8 := hX2.cell 8
  simp only [List.getElem?_toArray, List.getElem?_cons_zero, List.getElem?_cons_succ] at z1 z2 z3 z4 z5 z6 z7 z8
  clear hX2 hR2 hM2 hO2 hb2 hMk hf0 HX z0
  go_wp2_with fail
  refine HL.out.mono ?_
  rintro e w3 ⟨rfl, hG3, hb3⟩
  have hb03 := H2.out.1.trans (hb3.mono H2.out.1.size)
  have H3 := hide (And.intro hb03 (And.intro (H2.out.2.1.below hb3 H2.out.2.1.lt) (And.intro (H2.out.2.2.1.below hb3 H2.out.2.2.1.lt) (And.intro (H2.out.2.2.2.below hb3) hG3))))
  have hmlt := H2.out.2.2.2.m.lt
  have hg3 := hG3.lt
  have hgf : f0 < w3.heap.size := by have := hb3.size; omega
  have hwg : w.heap.size ≤ W2.heap.size + 1 := by have := H2.out.1.size; omega
  have hfg : f0 + 1 < W2.heap.size + 1 := by omega
  have hkl : kex.length ≤ 1000000 := (HA.out.2 0 _ kex rfl rfl).2
  generalize W2.heap.size + 1 = g at H3 hg3 hwg hfg ⊢
  have HR0 := hide (show RMs w3 (kex.take 0) none 0 0 w3 from ⟨Below.refl _ _, by simp, World.ownsRow_nil _ _ _ _⟩)
  clear HL H2 hG3 hb3 hb03 z1 z2 z3 z4 z5 z6 z7 z8 hmlt
  go_wp2_with fail
  go_loopw [5, 6] (fun vs vi wr => ∃ (i : Nat) (A : Option Addr) (cc : Nat), vs = .slice A i cc ∧ vi = .int .i64 i ∧ i ≤ kex.length ∧ Hid (RMs w3 (kex.take i) A i cc wr)) (fun _ vi _ => kex.length - (intOf vi).toNat)
  case atStart => exact ⟨0, none, 0, rfl, rfl, Nat.zero_le _, HR0⟩
  case round =>
    obtain ⟨i, A, cc, rfl, rfl, hi, HR⟩ := hrel
    have hGr := H3.out.2.2.2.2.below HR.out.bel H3.out.2.2.2.2.lt
    have g0 := hGr.cell 0
    simp only [List.getElem?_toArray, List.getElem?_cons_zero] at g0
    by_cases hlt : i < kex.length
    · have hii : (i : Int) < kex.length := by omega
      have hbw : Below w.heap.size w wr := H3.out.1.trans (HR.out.bel.mono H3.out.1.size)
      obtain ⟨A', c', hv, hK⟩ := ((HA.out.2 0 _ kex rfl rfl).1.1.below hbw).open_
      obtain ⟨rfl, rfl⟩ : A' = A0 ∧ c' = c0 := by injection hv with e1 _ e2; exact ⟨e1.symm, e2.symm⟩
      obtain ⟨ad, had0, had, hc⟩ := hK i hlt
      rw [had0] at g0
      clear had0
      have hT := hide (List.take_succ_eq_append_getElem hlt)
      generalize kex[i] = y at hc hT
      obtain ⟨hiI, hI0, hI1, hI2⟩ := HII.out
      have hown := HR.out.own
      have hsz : w3.heap.size ≤ wr.heap.size := HR.out.bel.size
      clear hv hK hbw
      go_wp2_with (first
        | (at_builtin; refine wpList_append_any _ rfl (.tmp 25) (.tmp 32) _ rfl w3.heap.size 9 iI (.string ⟨#[]⟩) 1 16 Tryz.underlying22 hiI hI0 hI1 hI2 rfl (by decide) (.slice A i cc) i _ rfl (hown.alloc _) _ (some ⟨_, 0, none⟩) 1 1 [.string (bs y)] rfl (reads_blkN (Blk.new _ _ _) rfl) (by simp [Value.oneCell']) (by unfold maxLen; omega) (by omega) (by simp only [World.size_alloc]; omega) ?_; intro v6 w6 hown6 hgr6 hor6; obtain ⟨AX, cX, rfl⟩ := own_slN hown6)
        | fail)
      have hn := HR.out.app _ hown6 hgr6
      rw [← hT.out] at hn
      exact ⟨⟨i + 1, AX, cX, rfl, by go_num, by omega, hide hn⟩, by simp [intOf]; omega⟩
    · have hii : ¬ (i : Int) < kex.length := by omega
      obtain rfl : i = kex.length := by omega
      have HJ := hide (show RMs w3 (kex ++ preM a b c d 0) A kex.length cc wr from by have := HR.out; rw [List.take_length] at this; simpa [preM] using this)
      have hXr := H3.out.2.1.below HR.out.bel H3.out.2.1.lt
      have zz := hXr.cell 11
      simp only [List.getElem?_toArray, List.getElem?_cons_zero, List.getElem?_cons_succ] at zz
      generalize kex.length = nK at HJ hi g0 hii ⊢
      clear HR HR0 hlt hXr
      go_upto_if 35 with fail
      go_cut [5] (fun v wx => ∃ (A : Option Addr) (n cc : Nat), v = .slice A n cc ∧ Hid (RMs w3 (kex ++ preM a b c d 1) A n cc wx))
      case first =>
        as_aux_lemma =>
          have hn4 : nK ≤ 1000004 := by
            have hnn := HJ.out.len
            have hp4 := preM_len a b c d 0
            rw [List.length_append] at hnn
            omega
          have hown := HJ.out.own
          have hsz : w3.heap.size ≤ wr.heap.size := HJ.out.bel.size
          obtain ⟨hiI, hI0, hI1, hI2⟩ := HII.out
          cases a with
          | false =>
            have HN := hide (show RMs w3 (kex ++ preM false b c d 1) A nK cc wr from by have := HJ.out; simpa [preM, oneM] using this)
            clear hown hiI hI0 hI1 hI2
            go_wp2_with fail
            go_meet
            exact ⟨A, nK, cc, rfl, HN⟩
          | true =>
            go_wp2_with (first
              | (at_builtin; refine wpList_append_any _ rfl (.tmp 36) (.tmp 37) _ rfl w3.heap.size 9 iI (.string ⟨#[]⟩) 1 16 Tryz.underlying22 hiI hI0 hI1 hI2 rfl (by decide) (.slice A nK cc) nK _ rfl (hown.alloc _) _ (some ⟨_, 0, none⟩) 1 1 [.string (bs mark0)] rfl (reads_blkN (Blk.new _ _ _) rfl) (by simp [Value.oneCell']) (by unfold maxLen; omega) (by omega) (by simp only [World.size_alloc]; omega) ?_; intro v6 w6 hown6 hgr6 hor6; obtain ⟨AX, cX, rfl⟩ := own_slN hown6)
              | fail)
            have hn := HJ.out.app (x := mark0) _ hown6 hgr6
            have HN := hide (show RMs w3 (kex ++ preM true b c d 1) AX (nK + 1) cX w6 from by simpa [preM, oneM, List.append_assoc] using hn)
            clear hown hiI hI0 hI1 hI2 hown6 hgr6 hor6 hn
            go_meet
            exact ⟨AX, nK + 1, cX, rfl, HN⟩
      case rest =>
        obtain ⟨A, nK, cc, rfl, HJ⟩ := hcut
        have hXr := H3.out.2.1.below HJ.out.bel H3.out.2.1.lt
        have zz := hXr.cell 12
        simp only [List.getElem?_toArray, List.getElem?_cons_zero, List.getElem?_cons_succ] at zz
        clear hXr
        go_upto_if 40 with fail
        go_cut [5] (fun v wx => ∃ (A : Option Addr) (n cc : Nat), v = .slice A n cc ∧ Hid (RMs w3 (kex ++ preM a b c d 2) A n cc wx))
        case first =>
          as_aux_lemma =>
            have hn4 : nK ≤ 1000004 := by
              have hnn := HJ.out.len
              have hp4 := preM_len a b c d 1
              rw [List.length_append] at hnn
              omega
            have hown := HJ.out.own
            have hsz : w3.heap.size ≤ wc.heap.size := HJ.out.bel.size
            obtain ⟨hiI, hI0, hI1, hI2⟩ := HII.out
            cases b with
            | false =>
              have HN := hide (show RMs w3 (kex ++ preM a false c d 2) A nK cc wc from by have := HJ.out; simpa [preM, oneM] using this)
              clear hown hiI hI0 hI1 hI2
              go_wp2_with fail
              go_meet
              exact ⟨A, nK, cc, rfl, HN⟩
            | true =>
              go_wp2_with (first
                | (at_builtin; refine wpList_append_any _ rfl (.tmp 41) (.tmp 42) _ rfl w3.heap.size 9 iI (.string ⟨#[]⟩) 1 16 Tryz.underlying22 hiI hI0 hI1 hI2 rfl (by decide) (.slice A nK cc) nK _ rfl (hown.alloc _) _ (some ⟨_, 0, none⟩) 1 1 [.string (bs mark1)] rfl (reads_blkN (Blk.new _ _ _) rfl) (by simp [Value.oneCell']) (by unfold maxLen; omega) (by omega) (by simp only [World.size_alloc]; omega) ?_; intro v6 w6 hown6 hgr6 hor6; obtain ⟨AX, cX, rfl⟩ := own_slN hown6)
                | fail)
              have hn := HJ.out.app (x := mark1) _ hown6 hgr6
              have HN := hide (show RMs w3 (kex ++ preM a true c d 2) AX (nK + 1) cX w6 from by simpa [preM, oneM, List.append_assoc] using hn)
              clear hown hiI hI0 hI1 hI2 hown6 hgr6 hor6 hn
              go_meet
              exact ⟨AX, nK + 1, cX, rfl, HN⟩
        case rest =>
          obtain ⟨A, nK, cc, rfl, HJ⟩ := hcut
          have hXr := H3.out.2.1.below HJ.out.bel H3.out.2.1.lt
          have zz := hXr.cell 13
          simp only [List.getElem?_toArray, List.getElem?_cons_zero, List.getElem?_cons_succ] at zz
          clear hXr
          go_upto_if 45 with fail
          go_cut [5] (fun v wx => ∃ (A : Option Addr) (n cc : Nat), v = .slice A n cc ∧ Hid (RMs w3 (kex ++ preM a b c d 3) A n cc wx))
          case first =>
            as_aux_lemma =>
              have hn4 : nK ≤ 1000004 := by
                have hnn := HJ.out.len
                have hp4 := preM_len a b c d 2
                rw [List.length_append] at hnn
                omega
              have hown := HJ.out.own
              have hsz : w3.heap.size ≤ wc.heap.size := HJ.out.bel.size
              obtain ⟨hiI, hI0, hI1, hI2⟩ := HII.out
              cases c with
              | false =>
                have HN := hide (show RMs w3 (kex ++ preM a b false d 3) A nK cc wc from by have := HJ.out; simpa [preM, oneM] using this)
                clear hown hiI hI0 hI1 hI2
                go_wp2_with fail
                go_meet
                exact ⟨A, nK, cc, rfl, HN⟩
              | true =>
                go_wp2_with (first
                  | (at_builtin; refine wpList_append_any _ rfl (.tmp 46) (.tmp 47) _ rfl w3.heap.size 9 iI (.string ⟨#[]⟩) 1 16 Tryz.underlying22 hiI hI0 hI1 hI2 rfl (by decide) (.slice A nK cc) nK _ rfl (hown.alloc _) _ (some ⟨_, 0, none⟩) 1 1 [.string (bs mark2)] rfl (reads_blkN (Blk.new _ _ _) rfl) (by simp [Value.oneCell']) (by unfold maxLen; omega) (by omega) (by simp only [World.size_alloc]; omega) ?_; intro v6 w6 hown6 hgr6 hor6; obtain ⟨AX, cX, rfl⟩ := own_slN hown6)
                  | fail)
                have hn := HJ.out.app (x := mark2) _ hown6 hgr6
                have HN := hide (show RMs w3 (kex ++ preM a b true d 3) AX (nK + 1) cX w6 from by simpa [preM, oneM, List.append_assoc] using hn)
                clear hown hiI hI0 hI1 hI2 hown6 hgr6 hor6 hn
                go_meet
                exact ⟨AX, nK + 1, cX, rfl, HN⟩
          case rest =>
            obtain ⟨A, nK, cc, rfl, HJ⟩ := hcut
            have hXr := H3.out.2.1.below HJ.out.bel H3.out.2.1.lt
            have zz := hXr.cell 14
            simp only [List.getElem?_toArray, List.getElem?_cons_zero, List.getElem?_cons_succ] at zz
            clear hXr
            go_upto_if 50 with fail
            go_cut [5] (fun v wx => ∃ (A : Option Addr) (n cc : Nat), v = .slice A n cc ∧ Hid (RMs w3 (kex ++ preM a b c d 4) A n cc wx))
            case first =>
              as_aux_lemma =>
                have hn4 : nK ≤ 1000004 := by
                  have hnn := HJ.out.len
                  have hp4 := preM_len a b c d 3
                  rw [List.length_append] at hnn
                  omega
                have hown := HJ.out.own
                have hsz : w3.heap.size ≤ wc.heap.size := HJ.out.bel.size
                obtain ⟨hiI, hI0, hI1, hI2⟩ := HII.out
                cases d with
                | false =>
                  have HN := hide (show RMs w3 (kex ++ preM a b c false 4) A nK cc wc from by have := HJ.out; simpa [preM, oneM] using this)
                  clear hown hiI hI0 hI1 hI2
                  go_wp2_with fail
                  go_meet
                  exact ⟨A, nK, cc, rfl, HN⟩
                | true =>
                  go_wp2_with (first
                    | (at_builtin; refine wpList_append_any _ rfl (.tmp 51) (.tmp 52) _ rfl w3.heap.size 9 iI (.string ⟨#[]⟩) 1 16 Tryz.underlying22 hiI hI0 hI1 hI2 rfl (by decide) (.slice A nK cc) nK _ rfl (hown.alloc _) _ (some ⟨_, 0, none⟩) 1 1 [.string (bs mark3)] rfl (reads_blkN (Blk.new _ _ _) rfl) (by simp [Value.oneCell']) (by unfold maxLen; omega) (by omega) (by simp only [World.size_alloc]; omega) ?_; intro v6 w6 hown6 hgr6 hor6; obtain ⟨AX, cX, rfl⟩ := own_slN hown6)
                    | fail)
                  have hn := HJ.out.app (x := mark3) _ hown6 hgr6
                  have HN := hide (show RMs w3 (kex ++ preM a b c true 4) AX (nK + 1) cX w6 from by simpa [preM, oneM, List.append_assoc] using hn)
                  clear hown hiI hI0 hI1 hI2 hown6 hgr6 hor6 hn
                  go_meet
                  exact ⟨AX, nK + 1, cX, rfl, HN⟩
            case rest =>
              obtain ⟨A, nK, cc, rfl, HJ⟩ := hcut
              have hK := HJ.out
              rw [preM_4] at hK
              have hG5 := H3.out.2.2.2.2.below hK.bel H3.out.2.2.2.2.lt
              have g0 := hG5.cell 0
              have g1 := hG5.frozen 0
              simp only [List.getElem?_toArray, List.getElem?_cons_zero] at g0
              have hX5 := H3.out.2.1.below hK.bel H3.out.2.1.lt
              have hR5 := H3.out.2.2.1.below hK.bel H3.out.2.2.1.lt
              have hM5 := H3.out.2.2.2.1.below hK.bel
              have hB5 := H3.out.1.trans (hK.bel.mono H3.out.1.size)
              have hset : Blk (wc.setCell ⟨g, 0, none⟩ (.slice A nK cc)) g 22 #[.slice A nK cc, .slice A1 n1 c1, .slice A2 n2 c2, .slice A3 n3 c3, .slice A4 n4 c4, .slice A5 n5 c5, .slice A6 n6 c6, .slice A7 n7 c7] := by simpa using hG5.set_ 0 (.slice A nK cc)
              have hRL : RL w f0 (f0 + 1) w.heap.size (w.heap.size + 1) w3.heap.size #[.string (bs ck), .slice A0 kex.length c0, .slice A1 n1 c1, .slice A2 n2 c2, .slice A3 n3 c3, .slice A4 n4 c4, .slice A5 n5 c5, .slice A6 n6 c6, .slice A7 n7 c7, .slice A8 n8 c8, .slice A9 n9 c9, .bool a, .bool b, .bool c, .bool d, .bool e0] (⟨99, 0, ck, []⟩, .slice none 0 0) (.slice A nK cc) (kex ++ marksOf a b c d) [.slice A nK cc, .slice A1 n1 c1, .slice A2 n2 c2, .slice A3 n3 c3, .slice A4 n4 c4, .slice A5 n5 c5, .slice A6 n6 c6, .slice A7 n7 c7] (some ⟨g, 0, none⟩) 8 8 (wc.setCell ⟨g, 0, none⟩ (.slice A nK cc)) :=
                ⟨hB5.setCell (p := ⟨g, 0, none⟩) hwg _, hX5.far (p := ⟨g, 0, none⟩) (by show w.heap.size ≠ g; omega) _, hR5.far (p := ⟨g, 0, none⟩) (by show w.heap.size + 1 ≠ g; omega) _, ⟨hM5.len, hM5.m.far (p := ⟨g, 0, none⟩) (by show f0 + 1 ≠ g; omega) _, own_setK hM5.own hG5 (by decide) 0 _⟩, own_blkB hset hwg rfl (by unfold maxLen; omega), ⟨nK, hK.len, own_setK hK.own hG5 (by decide) 0 _⟩, by omega, by omega, hgf⟩
              clear hK hX5 hR5 hM5 hB5 hset HJ
              go_upto_region 17 with fail
              generalize wc.setCell ⟨g, 0, none⟩ (.slice A nK cc) = w5 at hRL ⊢
              clear hG5 g0 g1
              obtain ⟨iL, hiL, hL0, hL1, hL2⟩ := info_partsN infoLs
              have z9 := hRL.box.cell 9
              simp only [List.getElem?_toArray, List.getElem?_cons_zero, List.getElem?_cons_succ] at z9
              have hsz := hRL.bel.size
              have hrw := hRL.row
              have HRL := hide hRL
              clear hRL
              go_upto_region 18 with (first
                | (at_builtin; refine wpList_append_any _ rfl (.tmp 57) (.tmp 61) _ rfl w.heap.size 22 iL (.slice none 0 0) 1 24 Tryz.underlying88 hiL hL0 hL1 hL2 rfl (by decide) (.slice (some ⟨g, 0, none⟩) 8 8) 8 _ rfl (hrw.alloc _) _ (some ⟨_, 0, none⟩) 1 1 [.slice A8 n8 c8] rfl (reads_blkN (Blk.new _ _ _) rfl) (by simp [Value.oneCell']) (by unfold maxLen; omega) (by omega) (by simp only [World.size_alloc]; omega) ?_; intro v6 w6 hown6 hgr6 hor6; obtain ⟨AX, cX, rfl⟩ := own_slN hown6; simp only [Nat.reduceAdd] at hown6 ⊢)
                | fail)
              have hRL := HRL.out.app _ hown6 hgr6
              clear hown6 hgr6 hor6 hrw hsz z9 HRL
              have z10 := hRL.box.cell 10
              simp only [List.getElem?_toArray, List.getElem?_cons_zero, List.getElem?_cons_succ] at z10
              have hsz := hRL.bel.size
              have hrw := hRL.row
              have HRL := hide hRL
              clear hRL
              go_upto_region 19 with (first
                | (at_builtin; refine wpList_append_any _ rfl (.tmp 63) (.tmp 67) _ rfl w.heap.size 22 iL (.slice none 0 0) 1 24 Tryz.underlying88 hiL hL0 hL1 hL2 rfl (by decide) (.slice AX 9 cX) 9 _ rfl (hrw.alloc _) _ (some ⟨_, 0, none⟩) 1 1 [.slice A9 n9 c9] rfl (reads_blkN (Blk.new _ _ _) rfl) (by simp [Value.oneCell']) (by unfold maxLen; omega) (by omega) (by simp only [World.size_alloc]; omega) ?_; intro v7 w7 hown6 hgr6 hor6; obtain ⟨A10, c10, rfl⟩ := own_slN hown6; simp only [Nat.reduceAdd] at hown6 ⊢)
                | fail)
              have hRL : RL w f0 (f0 + 1) w.heap.size (w.heap.size + 1) w3.heap.size #[.string (bs ck), .slice A0 kex.length c0, .slice A1 n1 c1, .slice A2 n2 c2, .slice A3 n3 c3, .slice A4 n4 c4, .slice A5 n5 c5, .slice A6 n6 c6, .slice A7 n7 c7, .slice A8 n8 c8, .slice A9 n9 c9, .bool a, .bool b, .bool c, .bool d, .bool e0] (⟨99, 0, ck, []⟩, .slice none 0 0) (.slice A nK cc) (kex ++ marksOf a b c d) (.slice A nK cc :: [.slice A1 n1 c1, .slice A2 n2 c2, .slice A3 n3 c3, .slice A4 n4 c4, .slice A5 n5 c5, .slice A6 n6 c6, .slice A7 n7 c7, .slice A8 n8 c8, .slice A9 n9 c9]) _ 10 _ _ := HRL.out.app _ hown6 hgr6
              obtain ⟨hb, rfl, _⟩ := tn_own hRL.row (by omega)
              have HI0 := hide (And.intro (hRL.toMk (AllC.drop HA.out 1) (by omega) ⟨rfl, rfl, (by show 99 < 256; decide)⟩) hRL.res)
              clear hown6 hgr6 hor6 hrw hsz z10 HRL hRL hiL hL0 hL1 hL2
              go_wp2_with fail
              go_loopw [7] (fun vi wr => ∃ (k : Nat) (Ai : Option Addr) (ci : Nat), vi = .int .i64 k ∧ k ≤ 10 ∧ Hid (MkI w f0 (f0 + 1) w.heap.size hb #[.string (bs ck), .slice A0 kex.length c0, .slice A1 n1 c1, .slice A2 n2 c2, .slice A3 n3 c3, .slice A4 n4 c4, .slice A5 n5 c5, .slice A6 n6 c6, .slice A7 n7 c7, .slice A8 n8 c8, .slice A9 n9 c9, .bool a, .bool b, .bool c, .bool d, .bool e0] ([.slice A nK cc, .slice A1 n1 c1, .slice A2 n2 c2, .slice A3 n3 c3, .slice A4 n4 c4, .slice A5 n5 c5, .slice A6 n6 c6, .slice A7 n7 c7, .slice A8 n8 c8, .slice A9 n9 c9] : List Value) ([kex ++ marksOf a b c d, m1, m2, m3, m4, m5, m6, m7, m8, m9] : List (List (List UInt8))) (zsK (⟨99, 0, ck, []⟩, .slice none 0 0) ([.slice A nK cc, .slice A1 n1 c1, .slice A2 n2 c2, .slice A3 n3 c3, .slice A4 n4 c4, .slice A5 n5 c5, .slice A6 n6 c6, .slice A7 n7 c7, .slice A8 n8 c8, .slice A9 n9 c9] : List Value) ([kex ++ marksOf a b c d, m1, m2, m3, m4, m5, m6, m7, m8, m9] : List (List (List UInt8))) k) Ai (k + 1) ci wr ∧ Blk wr (w.heap.size + 1) 86 #[.int .i64 0, .slice none 0 0])) (fun vi _ => 10 - (intOf vi).toNat)
              case atStart => exact ⟨0, _, _, rfl, by omega, HI0⟩
              case round =>
                obtain ⟨k, Ai, ci, rfl, hk, HI⟩ := hrel
                by_cases hlt : k < 10
                · have hki : (k : Int) < 10 := by omega
                  go_upto_region 22 with fail
                  obtain ⟨cur, hT0, hTc⟩ := HI.out.1.ten
                  have hv : k < ([.slice A nK cc, .slice A1 n1 c1, .slice A2 n2 c2, .slice A3 n3 c3, .slice A4 n4 c4, .slice A5 n5 c5, .slice A6 n6 c6, .slice A7 n7 c7, .slice A8 n8 c8, .slice A9 n9 c9] : List Value).length := hlt
                  have hl : k < ([kex ++ marksOf a b c d, m1, m2, m3, m4, m5, m6, m7, m8, m9] : List (List (List UInt8))).length := hlt
                  have hck := hTc k _ (List.getElem?_eq_getElem hv)
                  have hin := HI.out.1.inn k _ _ (List.getElem?_eq_getElem hv) (List.getElem?_eq_getElem hl)
                  have hzs := zsK_succ (z0 := (⟨99, 0, ck, []⟩, .slice none 0 0)) hv hl
                  generalize ([.slice A nK cc, .slice A1 n1 c1, .slice A2 n2 c2, .slice A3 n3 c3, .slice A4 n4 c4, .slice A5 n5 c5, .slice A6 n6 c6, .slice A7 n7 c7, .slice A8 n8 c8, .slice A9 n9 c9] : List Value)[k] = vk at hck hin hzs
                  generalize ([kex ++ marksOf a b c d, m1, m2, m3, m4, m5, m6, m7, m8, m9] : List (List (List UInt8)))[k] = lk at hin hzs
                  obtain ⟨lA, lc, rfl, _⟩ := id hin
                  refine wp_region_E (fun W => Blk W (f0 + 1) 86 #[.int .i64 20, .slice Ai (k + 1) ci] ∧ Blk W hb 22 cur) (fun i => [5, 6, 7, 8].contains i) (by kernel_rfl) ?_
                  obtain ⟨iF, hiF, hF0, hF1, hF2⟩ := info_partsN infoFd
                  obtain ⟨Wd, hWd⟩ : ∃ Wd, Wd = wr.drew := ⟨_, rfl⟩
                  have hQd : MkI w f0 (f0 + 1) w.heap.size hb #[.string (bs ck), .slice A0 kex.length c0, .slice A1 n1 c1, .slice A2 n2 c2, .slice A3 n3 c3, .slice A4 n4 c4, .slice A5 n5 c5, .slice A6 n6 c6, .slice A7 n7 c7, .slice A8 n8 c8, .slice A9 n9 c9, .bool a, .bool b, .bool c, .bool d, .bool e0] ([.slice A nK cc, .slice A1 n1 c1, .slice A2 n2 c2, .slice A3 n3 c3, .slice A4 n4 c4, .slice A5 n5 c5, .slice A6 n6 c6, .slice A7 n7 c7, .slice A8 n8 c8, .slice A9 n9 c9] : List Value) ([kex ++ marksOf a b c d, m1, m2, m3, m4, m5, m6, m7, m8, m9] : List (List (List UInt8))) (zsK (⟨99, 0, ck, []⟩, .slice none 0 0) ([.slice A nK cc, .slice A1 n1 c1, .slice A2 n2 c2, .slice A3 n3 c3, .slice A4 n4 c4, .slice A5 n5 c5, .slice A6 n6 c6, .slice A7 n7 c7, .slice A8 n8 c8, .slice A9 n9 c9] : List Value) ([kex ++ marksOf a b c d, m1, m2, m3, m4, m5, m6, m7, m8, m9] : List (List (List UInt8))) k) Ai (k + 1) ci Wd := by rw [hWd]; exact HI.out.1.belowI ((Below.refl _ _).drew)
                  have hRd : Blk Wd (w.heap.size + 1) 86 #[.int .i64 0, .slice none 0 0] := by rw [hWd]; exact HI.out.2
                  have hind : Inn 0 (.slice Ai (k + 1) ci) Wd (.slice lA lk.length lc) lk := by rw [hWd]; exact hin
                  have hSd : Blk Wd (f0 + 1) 86 #[.int .i64 20, .slice Ai (k + 1) ci] ∧ Blk Wd hb 22 cur := ⟨hQd.msg.m, by rw [hWd]; exact hT0⟩
                  have hlo2 : f0 ≤ Wd.heap.size := Nat.le_trans (Nat.le_succ _) (Nat.le_of_lt hQd.msg.m.lt)
                  generalize lk.length = nk at hck hind hzs
                  rw [← hWd]
                  clear hWd HI hT0 hTc hin hv hl HI0
                  refine wpAnyE_takeY (i := 0) (oi := ?_) (v := .pointer (some ⟨f0 + 1, 1, none⟩)) ?_ ?_ ?_ ?_ ?_ ?_ ?_ ?_
                  rotate_left 1
                  · (first | (simp only [List.getElem?_toArray, List.getElem?_cons_succ, List.getElem?_cons_zero]; exact rfl) | exact rfl)
                  · kernel_rfl
                  · kernel_rfl
                  · kernel_rfl
                  · rfl
                  · exact fun _ _ _ h => h
                  · exact Or.inl ⟨by rfl, fun w _ => by go_simp⟩
                  try simp only [Act.put, List.setIfInBounds_toArray, List.set_cons_zero, List.set_cons_succ]
                  refine wpAnyE_takeY (i := 2) (oi := ?_) (v := .slice (some ⟨hb, 0, none⟩) 10 c10) ?_ ?_ ?_ ?_ ?_ ?_ ?_ ?_
                  rotate_left 1
                  · (first | (simp only [List.getElem?_toArray, List.getElem?_cons_succ, List.getElem?_cons_zero]; exact rfl) | exact rfl)
                  · kernel_rfl
                  · kernel_rfl
                  · kernel_rfl
                  · rfl
                  · exact fun _ _ _ h => h
                  · exact Or.inl ⟨by rfl, fun w _ => by go_simp⟩
                  try simp only [Act.put, List.setIfInBounds_toArray, List.set_cons_zero, List.set_cons_succ]
                  refine wpAnyE_takeY (i := 3) (oi := ?_) (v := .int .i64 k) ?_ ?_ ?_ ?_ ?_ ?_ ?_ ?_
                  rotate_left 1
                  · (first | (simp only [List.getElem?_toArray, List.getElem?_cons_succ, List.getElem?_cons_zero]; exact rfl) | exact rfl)
                  · kernel_rfl
                  · kernel_rfl
                  · kernel_rfl
                  · rfl
                  · exact fun _ _ _ h => h
                  · exact Or.inl ⟨by rfl, fun w _ => by go_simp⟩
                  try simp only [Act.put, List.setIfInBounds_toArray, List.set_cons_zero, List.set_cons_succ]
                  refine wpAnyE_takeY (i := 4) (oi := ?_) (v := .pointer (some ⟨hb, k, none⟩)) ?_ ?_ ?_ ?_ ?_ ?_ ?_ ?_
                  rotate_left 1
                  · (first | (simp only [List.getElem?_toArray, List.getElem?_cons_succ, List.getElem?_cons_zero]; exact rfl) | exact rfl)
                  · kernel_rfl
                  · kernel_rfl
                  · kernel_rfl
                  · rfl
                  · exact fun _ _ _ h => h
                  · exact Or.inl ⟨by rfl, fun w _ => by go_simp⟩
                  try simp only [Act.put, List.setIfInBounds_toArray, List.set_cons_zero, List.set_cons_succ]
                  refine wpAnyE_take (i := 1) (oi := ?_) (v := .slice Ai (k + 1) ci) ?_ ?_ ?_ ?_ ?_ ?_ ?_ hSd ?_
                  rotate_left 1
                  · (first | (simp only [List.getElem?_toArray, List.getElem?_cons_succ, List.getElem?_cons_zero]; exact rfl) | exact rfl)
                  · kernel_rfl
                  · kernel_rfl
                  · kernel_rfl
                  · kernel_rfl
                  · exact fun _ _ _ h => h
                  · refine Or.inl ⟨by rfl, fun w hSw => ?_⟩
                    have k1 := hSw.1.cell 1
                    simp only [List.getElem?_toArray, List.getElem?_cons_zero, List.getElem?_cons_succ] at k1
                    clear hSw
                    go_simp
                  try simp only [Act.put, List.setIfInBounds_toArray, List.set_cons_zero, List.set_cons_succ]
                  refine wpAnyE_take (i := 5) (oi := ?_) (v := .slice lA nk lc) ?_ ?_ ?_ ?_ ?_ ?_ ?_ hSd ?_
                  rotate_left 1
                  · (first | (simp only [List.getElem?_toArray, List.getElem?_cons_succ, List.getElem?_cons_zero]; exact rfl) | exact rfl)
                  · kernel_rfl
                  · kernel_rfl
                  · kernel_rfl
                  · kernel_rfl
                  · exact fun _ _ _ h => h
                  · refine Or.inl ⟨by rfl, fun w hSw => ?_⟩
                    have k1 := hSw.2.cell k
                    rw [hck] at k1
                    clear hSw
                    go_simp
                  try simp only [Act.put, List.setIfInBounds_toArray, List.set_cons_zero, List.set_cons_succ]
                  refine wpAnyE_ready (rs := [6]) (by kernel_rfl) (by simp) ?_
                  refine AllReadyE.cons (o := ?_) ?_ (fun K hK => ?_) AllReadyE.nil
                  rotate_left 1
                  · (first | (simp only [List.getElem?_toArray, List.getElem?_cons_succ, List.getElem?_cons_zero]; exact rfl) | exact rfl)
                  refine step_eqV rfl (bldL (x := .tmp 80) (A := lA) (n := nk) (c := lc) _ rfl _ rfl (by rfl) _) ?_
                  refine hK.out _ _ hSd (fun _ => ?_)
                  clear hK K
                  try simp only [Act.put, List.setIfInBounds_toArray, List.set_cons_zero, List.set_cons_succ]
                  refine wpAnyE_ready (rs := [7]) (by kernel_rfl) (by simp) ?_
                  refine AllReadyE.cons (o := ?_) ?_ (fun K hK => ?_) AllReadyE.nil
                  rotate_left 1
                  · (first | (simp only [List.getElem?_toArray, List.getElem?_cons_succ, List.getElem?_cons_zero]; exact rfl) | exact rfl)
                  refine step_eqA rfl (bldS1 (x := .tmp 81) (a0 := .int .u8 110) (a1 := .int .i64 0) (a2 := .string ⟨#[]⟩) (a3 := .slice lA nk lc) _ rfl _ (by rfl) _) ?_
                  have hnb := Blk.new Wd 83 #[.int .u8 110, .int .i64 0, .string ⟨#[]⟩, .slice lA nk lc]
                  refine hK.out _ _ ⟨hSd.1.alloc _, hSd.2.alloc _⟩ (fun _ => ?_)
                  clear hK K
                  try simp only [Act.put, List.setIfInBounds_toArray, List.set_cons_zero, List.set_cons_succ]
                  refine wpAnyE_ready (rs := [8]) (by kernel_rfl) (by simp) ?_
                  refine AllReadyE.cons (o := ?_) ?_ (fun K hK => ?_) AllReadyE.nil
                  rotate_left 1
                  · (first | (simp only [List.getElem?_toArray, List.getElem?_cons_succ, List.getElem?_cons_zero]; exact rfl) | exact rfl)
                  refine step_append_any _ rfl (.tmp 76) (.tmp 82) _ (by rfl) f0 83 iF (.agg #[.int .u8 0, .int .i64 0, .string ⟨#[]⟩, .slice none 0 0]) 4 56 Tryz.underlying84 hiF hF0 hF1 hF2 (by rfl) (by decide) (.slice Ai (k + 1) ci) (k + 1) _ (by rfl) (hQd.msg.own.alloc _) _ _ 1 1 [.int .u8 110, .int .i64 0, .string ⟨#[]⟩, .slice lA nk lc] (by rfl) (reads_blkN hnb (by rfl)) (by simp [Value.oneCell']) (by unfold maxLen; omega) (by omega) (by simp only [World.size_alloc]; omega) ?_
                  intro v6 w6 hown6 hgr6 hor6
                  obtain ⟨AY, cY, rfl⟩ := own_slN hown6
                  have hm6 := (hSd.1.alloc (.cells #[.int .u8 110, .int .i64 0, .string ⟨#[]⟩, .slice lA nk lc] 83)).grown hgr6 (fun e => own_blk_ne hQd.msg.own hQd.msg.m (by decide) e.symm)
                  have hx6 := (hSd.2.alloc (.cells #[.int .u8 110, .int .i64 0, .string ⟨#[]⟩, .slice lA nk lc] 83)).grown hgr6 (fun e => own_blk_ne hQd.msg.own hSd.2 (by decide) e.symm)
                  refine hK.out _ _ ⟨hm6, hx6⟩ (fun _ => ?_)
                  clear hK K hiF hF0 hF1 hF2 hnb
                  try simp only [Act.put, List.setIfInBounds_toArray, List.set_cons_zero, List.set_cons_succ]
                  refine wpAnyE_takeY (i := 9) (oi := ?_) (v := .pointer (some ⟨f0 + 1, 1, none⟩)) ?_ ?_ ?_ ?_ ?_ ?_ ?_ ?_
                  rotate_left 1
                  · (first | (simp only [List.getElem?_toArray, List.getElem?_cons_succ, List.getElem?_cons_zero]; exact rfl) | exact rfl)
                  · kernel_rfl
                  · kernel_rfl
                  · kernel_rfl
                  · rfl
                  · exact fun _ _ _ h => h
                  · exact Or.inl ⟨by rfl, fun w _ => by go_simp⟩
                  try simp only [Act.put, List.setIfInBounds_toArray, List.set_cons_zero, List.set_cons_succ]
                  refine wpAnyE_ready (rs := [10]) (by kernel_rfl) (by simp) ?_
                  refine AllReadyE.late (o := ?_) ?_ rfl (fun K hK => ?_) AllReadyE.nil
                  rotate_left 1
                  · (first | (simp only [List.getElem?_toArray, List.getElem?_cons_succ, List.getElem?_cons_zero]; exact rfl) | exact rfl)
                  refine step_storeV (p := ⟨f0 + 1, 1, none⟩) (x := .tmp 84) (y := .tmp 83) (u := .pointer (some ⟨f0 + 1, 1, none⟩)) (v := .slice AY (k + 1 + 1) cY) rfl (by rfl) (by rfl) (fun ρ hρ hρ2 => ?_) ?_
                  · exact stoF _ rfl ρ hρ hρ2 _ hm6 (by simp)
                  have hP := putL_of (zz := [(⟨110, 0, [], lk⟩, .slice lA nk lc)]) (m := 1) hQd.msg _ hown6 hgr6 hor6 rfl
                  have hR9 := hP.keep hQd.msg hRd (by omega) (by decide)
                  obtain ⟨AZ, cZ, _, hI9⟩ := MkI.step hQd hP (fun z hz => by
                    obtain rfl : z = _ := List.mem_singleton.1 hz
                    exact ⟨hind, (by show 110 < 256; decide)⟩)
                  refine hK.out _ _ ?_
                  clear hK K hP hown6 hgr6 hor6 hm6 hx6 hSd hQd hind hlo2
                  try simp only [Act.put, List.setIfInBounds_toArray, List.set_cons_zero, List.set_cons_succ]
                  refine wpAnyE_done (by kernel_rfl) ?_ _
                  generalize w6.setCell ⟨f0 + 1, 1, none⟩ (.slice AY (k + 1 + 1) cY) = w9 at hI9 hR9 ⊢
                  rw [← hzs] at hI9
                  have HN := hide (And.intro hI9 hR9)
                  clear hI9 hR9 hRd hck hzs
                  go_wp2_with fail
                  exact ⟨⟨k + 1, AZ, cZ, by go_num, by omega, HN⟩, by simp [intOf]; omega⟩
                · have hki : ¬ (k : Int) < 10 := by omega
                  obtain rfl : k = 10 := by omega
                  have HI' := hide HI.out
                  have z15 := HI'.out.1.box.cell 15
                  simp only [List.getElem?_toArray, List.getElem?_cons_zero, List.getElem?_cons_succ] at z15
                  clear HI HI0 hlt hk
                  go_upto_if 86 with fail
                  go_cut [8] (fun v wx => v = .int .i64 (foN e0) ∧ Hid (MkI w f0 (f0 + 1) w.heap.size hb #[.string (bs ck), .slice A0 kex.length c0, .slice A1 n1 c1, .slice A2 n2 c2, .slice A3 n3 c3, .slice A4 n4 c4, .slice A5 n5 c5, .slice A6 n6 c6, .slice A7 n7 c7, .slice A8 n8 c8, .slice A9 n9 c9, .bool a, .bool b, .bool c, .bool d, .bool e0] ([.slice A nK cc, .slice A1 n1 c1, .slice A2 n2 c2, .slice A3 n3 c3, .slice A4 n4 c4, .slice A5 n5 c5, .slice A6 n6 c6, .slice A7 n7 c7, .slice A8 n8 c8, .slice A9 n9 c9] : List Value) ([kex ++ marksOf a b c d, m1, m2, m3, m4, m5, m6, m7, m8, m9] : List (List (List UInt8))) (zsK (⟨99, 0, ck, []⟩, .slice none 0 0) ([.slice A nK cc, .slice A1 n1 c1, .slice A2 n2 c2, .slice A3 n3 c3, .slice A4 n4 c4, .slice A5 n5 c5, .slice A6 n6 c6, .slice A7 n7 c7, .slice A8 n8 c8, .slice A9 n9 c9] : List Value) ([kex ++ marksOf a b c d, m1, m2, m3, m4, m5, m6, m7, m8, m9] : List (List (List UInt8))) 10) Ai (11) ci wx ∧ Blk wx (w.heap.size + 1) 86 #[.int .i64 0, .slice none 0 0]))
                  case first =>
                    as_aux_lemma =>
                      cases e0 with
                      | false =>
                        go_wp2_with fail
                        go_meet
                        exact ⟨rfl, HI'⟩
                      | true =>
                        go_wp2_with fail
                        go_meet
                        exact ⟨rfl, HI'⟩
                  case rest =>
                    obtain ⟨rfl, HX9⟩ := hcut
                    clear HI' z15
                    have HM := HX9
                    have y1 := HM.out.1.msg.m.cell 1
                    simp at y1
                    obtain ⟨iF, hiF, hF0, hF1, hF2⟩ := info_partsN infoFd
                    have hlo2 : f0 ≤ wc.heap.size := Nat.le_trans (Nat.le_succ _) (Nat.le_of_lt HM.out.1.msg.m.lt)
                    go_upto_region 27 with (first
                      | (at_builtin; refine wpList_append_any _ rfl (.tmp 88) (.tmp 91) _ rfl f0 83 iF (.agg #[.int .u8 0, .int .i64 0, .string ⟨#[]⟩, .slice none 0 0]) 4 56 Tryz.underlying84 hiF hF0 hF1 hF2 rfl (by decide) (.slice Ai 11 ci) 11 _ rfl (HM.out.1.msg.own.alloc _) _ (some ⟨_, 0, none⟩) 1 1 [.int .u8 98, .int .i64 (foN e0), .string ⟨#[]⟩, .slice none 0 0] rfl (reads_blkN (Blk.new _ _ _) rfl) (by simp [Value.oneCell']) (by unfold maxLen; omega) (by omega) (by simp only [World.size_alloc]; omega) ?_; intro v6 w6 hown6 hgr6 hor6; obtain ⟨AX, cX, rfl⟩ := own_slN hown6; have hm6 := (HM.out.1.msg.m.alloc (.cells #[.int .u8 98, .int .i64 (foN e0), .string ⟨#[]⟩, .slice none 0 0] 83)).grown hgr6 (fun e => own_blk_ne HM.out.1.msg.own HM.out.1.msg.m (by decide) e.symm); have p1 := hm6.cell 1; have g1 := hm6.frozen 1; simp at p1)
                      | fail)
                    have hP := putL_of (zz := [(⟨98, foN e0, [], []⟩, .slice none 0 0)]) (m := 1) HM.out.1.msg _ hown6 hgr6 hor6 rfl
                    have hR9 := hP.keep HM.out.1.msg HM.out.2 (by omega) (by decide)
                    obtain ⟨Aj, cj, _, hI9⟩ := MkI.step HM.out.1 hP (fun z hz => by
                      obtain rfl : z = _ := List.mem_singleton.1 hz
                      exact ⟨inn_nil _ _ _, (by show 98 < 256; decide)⟩)
                    clear hP hown6 hgr6 hor6 hm6 p1 g1 y1 hiF hF0 hF1 hF2 hlo2
                    generalize w6.setCell ⟨f0 + 1, 1, none⟩ (.slice AX (11 + 1) cX) = w9 at hR9 hI9 ⊢
                    clear HM HX9
                    have HX9 := hide (And.intro hI9 hR9)
                    clear hI9 hR9
                    have HM := HX9
                    have y1 := HM.out.1.msg.m.cell 1
                    simp at y1
                    obtain ⟨iF, hiF, hF0, hF1, hF2⟩ := info_partsN infoFd
                    have hlo2 : f0 ≤ w9.heap.size := Nat.le_trans (Nat.le_succ _) (Nat.le_of_lt HM.out.1.msg.m.lt)
                    go_upto_region 28 with (first
                      | (at_builtin; refine wpList_append_any _ rfl (.tmp 95) (.tmp 97) _ rfl f0 83 iF (.agg #[.int .u8 0, .int .i64 0, .string ⟨#[]⟩, .slice none 0 0]) 4 56 Tryz.underlying84 hiF hF0 hF1 hF2 rfl (by decide) (.slice Aj 12 cj) 12 _ rfl (HM.out.1.msg.own.alloc _) _ (some ⟨_, 0, none⟩) 1 1 [.int .u8 117, .int .i64 0, .string ⟨#[]⟩, .slice none 0 0] rfl (reads_blkN (Blk.new _ _ _) rfl) (by simp [Value.oneCell']) (by unfold maxLen; omega) (by omega) (by simp only [World.size_alloc]; omega) ?_; intro v6 w7 hown6 hgr6 hor6; obtain ⟨AY, cY, rfl⟩ := own_slN hown6; have hm6 := (HM.out.1.msg.m.alloc (.cells #[.int .u8 117, .int .i64 0, .string ⟨#[]⟩, .slice none 0 0] 83)).grown hgr6 (fun e => own_blk_ne HM.out.1.msg.own HM.out.1.msg.m (by decide) e.symm); have p1 := hm6.cell 1; have g1 := hm6.frozen 1; simp at p1)
                      | fail)
                    have hP := putL_of (zz := [(⟨117, 0, [], []⟩, .slice none 0 0)]) (m := 1) HM.out.1.msg _ hown6 hgr6 hor6 rfl
                    have hR9 := hP.keep HM.out.1.msg HM.out.2 (by omega) (by decide)
                    obtain ⟨Ak, ck2, _, hI9⟩ := MkI.step HM.out.1 hP (fun z hz => by
                      obtain rfl : z = _ := List.mem_singleton.1 hz
                      exact ⟨inn_nil _ _ _, (by show 117 < 256; decide)⟩)
                    clear hP hown6 hgr6 hor6 hm6 p1 g1 y1 hiF hF0 hF1 hF2 hlo2
                    generalize w7.setCell ⟨f0 + 1, 1, none⟩ (.slice AY (12 + 1) cY) = w10 at hR9 hI9 ⊢
                    clear HM HX9
                    have HX9 := hide (And.intro hI9 hR9)
                    clear hI9 hR9
                    have y0 := HX9.out.1.msg.m.cell 0
                    have y1 := HX9.out.1.msg.m.cell 1
                    have r0 := HX9.out.2.cell 0
                    have r1 := HX9.out.2.cell 1
                    have t0 := HX9.out.2.frozen 0
                    have t1 := HX9.out.2.frozen 1
                    simp at y0 y1 r0 r1
                    have hF := HX9.out.1.res (rb := w.heap.size + 1) HX9.out.2 (Nat.le_succ _) (.int .i64 20) (.slice Ak 13 ck2)
                    go_wp2_with fail
                    generalize ((w10.setCell ⟨w.heap.size + 1, 0, none⟩ (.int .i64 20)).setCell ⟨w.heap.size + 1, 1, none⟩ (.slice Ak 13 ck2)) = wF at hF ⊢
                    obtain ⟨hF1, hF2, hF3⟩ := hF
                    have q2 := hF3.cell 0
                    have q3 := hF3.cell 1
                    simp at q2 q3
                    have HF := hide (show RMsgP (kexMsg ⟨ck, kex, [m1, m2, m3, m4, m5, m6, m7, m8, m9], a, b, c, d, e0⟩) w (.returned (.agg #[.int .i64 20, .slice Ak 13 ck2])) wF from ⟨Ak, ck2, rfl, hF2, hF1⟩)
                    clear hF1 hF2 hF3 HX9 y0 y1 r0 r1 t0 t1
                    exact bodyPost_ret (v := .agg #[.int .i64 20, .slice Ak 13 ck2]) (by simp [results, Tryz.results47, go_sem, q2, q3]) rfl HF.out
end Go.Proofs.YtjaipdenahlheaaGreatDoor
